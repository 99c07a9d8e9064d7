/- The Go functions do what is told of them, by program (gen.py). -/
import Derived.Test.YtihidfnpcdefcaaT
set_option linter.unusedVariables false
set_option linter.unusedSimpArgs false
set_option maxRecDepth 100000
namespace AT
open Go Go.RowKit Go.Proofs

/- loop.example/g00897/laws.szStringS -/
set_option maxHeartbeats 1000000 in
theorem laws_szStringS_ok {fu : Nat} {w0 : World} {S : Nat → Prop} {v0_ : Value} {v1_ : Value} {a' : List ByteArray} {left : Int} {r : Int} (h0 : VR w0 S v0_ a') (h1 : VR w0 S v1_ left) (hF : laws_szStringS fu a' left = some r) :
    Calls Try.prog 42 [v0_, v1_].toArray w0 fun e w' => ∃ v, e = .returned v ∧ (Below w0.heap.size w0 w' ∧ VR w' (St ⟨w0, []⟩ S [] [] [] true) v r) := by
 obtain ⟨A, c, rfl, hl⟩ := VR_list h0
 obtain rfl := VR_int h1
 have H := Mem.start ⟨w0, []⟩ S
 have H := H.pushArg (MP.val [(.slice A a'.length c)] a') hl
 refine enter Try.func42 rfl rfl (nle rfl) rfl fun a hf => ?_
 rw [laws_szStringS] at hF
 refine sq (reg (pr 1 hf rfl rfl fun a hf => ?_))
 refine wl_end (then_n (sq (reg (pr 5 hf rfl rfl fun a hf => ?_))))
 refine wl_end (then_n (sq (sq (reg (pr 2 hf rfl rfl fun a hf => ?_)))))
 refine wl_end (then_n (iteB hF (fun hc hF => cd_t hf rfl hc ?_) fun hc hF => cd_f hf rfl hc ?_))
 ·refine sq (reg (pr 1 hf rfl rfl fun a hf => ?_))
  refine wl_end (then_n (wp_ret (then_r (?_))))
  obtain rfl := Option.some.inj hF
  refine ret_1 (fn := Try.f42) (r := .tmp 4) hf rfl (rv_tmp hf rfl) ?_
  exact ⟨_, rfl, H.bel, mk_int⟩
 ·refine wp_skip (then_n (sq (sq (reg (pr 1 hf rfl rfl fun a hf => ?_)))))
  refine wl_end (then_n ?_)
  obtain ⟨out', hB1, hF⟩ := bind_some hF
  have hf := hf.prune [0, 1, 5] rfl
  have H := H.let [] [] [] [0]
  refine loopC (fun (s : Int × Int) (a : Act) (w : World) => match s with | (left2, i) => Fr a 28 [(0, (.slice A a'.length c)), (1, (.int .i64 left2)), (5, (.int .i64 i))] ∧ Mem ⟨w0, []⟩ S [] [] [] [(false, MP.val [(.slice A a'.length c)] (a' : List ByteArray))] w) (fun k (s : Int × Int) => laws_szStringS_L1 fu a' k s.1 s.2 = some out') (fun s => out' = Out.next s) (w64 (left - (a'.length : Int)), 0) fu hB1 ⟨hf, H⟩ (fun s h => by cases h) ?_ ?_
  ·rintro fk ⟨left2, i⟩ a w hR1 hI
   replace hR1 : laws_szStringS_L1 fu a' (fk + 1) left2 i = some out' := hR1
   rw [laws_szStringS_L1] at hR1
   obtain ⟨hf, H⟩ := hI
   refine sq (sq (reg (pr 4 hf rfl rfl fun a hf => ?_)))
   refine wl_end (then_n (iteB hR1 (fun hc2 hR1 => cd_t hf rfl hc2 ?_) fun hc2 hR1 => cd_f hf rfl hc2 ?_))
   ·refine wp_skip (then_n (sq (wp_block (sq (reg (pr 3 hf rfl rfl fun a hf => ?_))))))
    obtain ⟨e, he, hR1⟩ := bind_some hR1
    refine wl0 rfl (op_iaddr hf H Try.underlying22 TF.sz9 0 rfl rfl rfl he (by decide) fun p o cs a hf hr H => ?_)
    obtain rfl := hr
    refine wl0 rfl (op_q hf (rq_loadI hf H TF.ls9 0 0 rfl rfl rfl) rfl (by decide) fun a hf => ?_)
    refine pr 3 hf rfl rfl fun a hf => ?_
    refine wl_end (then_n (sq (reg (pr 2 hf rfl rfl fun a hf => ?_))))
    refine wl_end (then_n (iteB hR1 (fun hc3 hR1 => cd_t hf rfl hc3 ?_) fun hc3 hR1 => cd_f hf rfl hc3 ?_))
    ·refine sq (reg (pr 1 hf rfl rfl fun a hf => ?_))
     have hf := hf.prune [4] rfl
     refine wl_end (then_n (wp_ret (blk_r (then_r (then_r (blk_r (then_r (then_r (?_)))))))))
     obtain rfl := Option.some.inj hR1
     replace hF := on_ret hF
     obtain rfl := Option.some.inj hF
     refine ret_1 (fn := Try.f42) (r := .tmp 4) hf rfl (rv_tmp hf rfl) ?_
     exact ⟨_, rfl, H.bel, mk_int⟩
    ·refine wp_skip (blk_n (then_n (reg (pr 3 hf rfl rfl fun a hf => ?_))))
     have hf := hf.prune [0, 1, 5] rfl
     refine wl_end ?_
     have hf := hf.prune [0, 1, 5] rfl
     have H := H.let [] [] [] [1]
     exact then_n ⟨(w64 (left2 - (e.size : Int)), w64 (i + 1)), hR1, hf, H⟩
   ·refine wp_exit (then_x (then_x (blk_e (?_))))
    have hf := hf.prune [0, 1, 5] rfl
    have H := H.let [] [] [] [0]
    exact ⟨(left2, i), (Option.some.inj hR1).symm, hf, H⟩
  rintro a w ⟨⟨left3, i2⟩, rfl, hf, H⟩
  replace hF := on_next hF
  dsimp only at hF
  refine then_n (sq (reg (pr 2 hf rfl rfl fun a hf => ?_)))
  refine wl_end (then_n (wp_ret (?_)))
  obtain rfl := Option.some.inj hF
  refine ret_1 (fn := Try.f42) (r := .tmp 4) hf rfl (rv_tmp hf rfl) ?_
  exact ⟨_, rfl, H.bel, mk_int⟩

/- loop.example/g00897/laws.szFiberS -/
set_option maxHeartbeats 1000000 in
theorem laws_szFiberS_ok {fu : Nat} {w0 : World} {S : Nat → Prop} {v0_ : Value} {v1_ : Value} {a' : List Fiber} {left : Int} {r : Int} (h0 : VR w0 S v0_ a') (h1 : VR w0 S v1_ left) (hF : laws_szFiberS fu a' left = some r) :
    Calls Try.prog 43 [v0_, v1_].toArray w0 fun e w' => ∃ v, e = .returned v ∧ (Below w0.heap.size w0 w' ∧ VR w' (St ⟨w0, []⟩ S [] [] [] true) v r) := by
 obtain ⟨A, c, rfl, hl⟩ := VR_list h0
 obtain rfl := VR_int h1
 have H := Mem.start ⟨w0, []⟩ S
 have H := H.pushArg (MP.val [(.slice A a'.length c)] a') hl
 refine enter Try.func43 rfl rfl (nle rfl) rfl fun a hf => ?_
 rw [laws_szFiberS] at hF
 refine sq (reg (pr 1 hf rfl rfl fun a hf => ?_))
 refine wl_end (then_n (sq (reg (pr 5 hf rfl rfl fun a hf => ?_))))
 refine wl_end (then_n (sq (sq (reg (pr 2 hf rfl rfl fun a hf => ?_)))))
 refine wl_end (then_n (iteB hF (fun hc hF => cd_t hf rfl hc ?_) fun hc hF => cd_f hf rfl hc ?_))
 ·refine sq (reg (pr 1 hf rfl rfl fun a hf => ?_))
  refine wl_end (then_n (wp_ret (then_r (?_))))
  obtain rfl := Option.some.inj hF
  refine ret_1 (fn := Try.f43) (r := .tmp 4) hf rfl (rv_tmp hf rfl) ?_
  exact ⟨_, rfl, H.bel, mk_int⟩
 ·refine wp_skip (then_n (sq (reg (pr 2 hf rfl rfl fun a hf => ?_))))
  refine wl_end (then_n (wp_ret (?_)))
  obtain rfl := Option.some.inj hF
  refine ret_1 (fn := Try.f43) (r := .tmp 4) hf rfl (rv_tmp hf rfl) ?_
  exact ⟨_, rfl, H.bel, mk_int⟩

/- loop.example/g00897/laws.szNetwork -/
set_option maxHeartbeats 1000000 in
theorem laws_szNetwork_ok {fu : Nat} {w0 : World} {S : Nat → Prop} {v0_ : Value} {v1_ : Value} {a' : Network} {left : Int} {r : Int} (h0 : VR w0 S v0_ a') (h1 : VR w0 S v1_ left) (hF : laws_szNetwork fu a' left = some r) :
    Calls Try.prog 9 [v0_, v1_].toArray w0 fun e w' => ∃ v, e = .returned v ∧ (Below w0.heap.size w0 w' ∧ VR w' (St ⟨w0, []⟩ S [] [] [] true) v r) := by
 obtain ⟨A, c, A2, c2, rfl, hl, hl2⟩ := Network_open h0
 obtain rfl := VR_int h1
 have H := Mem.start ⟨w0, []⟩ S
 have H := H.pushArg (MP.val [(.slice A a'.Nodes.length c)] a'.Nodes) hl
 have H := H.pushArg (MP.val [(.slice A2 a'.Fibers.length c2)] a'.Fibers) hl2
 refine enter Try.func9 rfl rfl (nle rfl) rfl fun a hf => ?_
 rw [laws_szNetwork] at hF
 refine sq (reg (wl0 rfl (op_box hf H rfl rfl (by decide) fun b' a w hf H => ?_)))
 refine pr 1 hf rfl rfl fun a hf => ?_
 refine wl_end (then_n (sq (reg (pr 1 hf rfl rfl fun a hf => ?_))))
 refine wl0 rfl (op_q hf (rq_loadB hf H TF.ls22 0 rfl rfl rfl) rfl (by decide) fun a hf => ?_)
 refine pr 1 hf rfl rfl fun a hf => ?_
 obtain ⟨y, hy, hF⟩ := bind_some hF
 refine wl0 rfl (op_call hf TF.cl42 rfl (by decide) (laws_szStringS_ok (S := fun _ => True) (mk_list (rep_true (α := List ByteArray) (H.get 1 rfl))) mk_int hy) fun v w a hp hf => ?_)
 obtain ⟨hb, hp⟩ := hp
 obtain rfl := VR_int hp
 have H := H.keep hb
 refine pr 1 hf rfl rfl fun a hf => ?_
 refine wl_end (then_n (sq (sq (reg (pr 2 hf rfl rfl fun a hf => ?_)))))
 refine wl_end (then_n (iteB hF (fun hc hF => cd_t hf rfl hc ?_) fun hc hF => cd_f hf rfl hc ?_))
 ·refine sq (reg (pr 1 hf rfl rfl fun a hf => ?_))
  refine wl_end (then_n (wp_ret (then_r (?_))))
  obtain rfl := Option.some.inj hF
  refine ret_1 (fn := Try.f9) (r := .tmp 4) hf rfl (rv_tmp hf rfl) ?_
  exact ⟨_, rfl, H.bel, mk_int⟩
 ·refine wp_skip (then_n (sq (reg (pr 1 hf rfl rfl fun a hf => ?_))))
  refine wl0 rfl (op_q hf (rq_loadB hf H TF.ls23 0 rfl rfl rfl) rfl (by decide) fun a hf => ?_)
  refine pr 1 hf rfl rfl fun a hf => ?_
  obtain ⟨y2, hy2, hF⟩ := bind_some hF
  refine wl0 rfl (op_call hf TF.cl43 rfl (by decide) (laws_szFiberS_ok (S := fun _ => True) (mk_list (rep_true (α := List Fiber) (H.get 0 rfl))) mk_int hy2) fun v2 w a hp2 hf => ?_)
  obtain ⟨hb2, hp2⟩ := hp2
  obtain rfl := VR_int hp2
  have H := H.keep hb2
  refine pr 1 hf rfl rfl fun a hf => ?_
  have hf := hf.prune [1] rfl
  refine wl_end (then_n (sq (sq (reg (pr 2 hf rfl rfl fun a hf => ?_)))))
  refine wl_end (then_n (iteB hF (fun hc2 hF => cd_t hf rfl hc2 ?_) fun hc2 hF => cd_f hf rfl hc2 ?_))
  ·refine sq (reg (pr 1 hf rfl rfl fun a hf => ?_))
   refine wl_end (then_n (wp_ret (then_r (?_))))
   obtain rfl := Option.some.inj hF
   refine ret_1 (fn := Try.f9) (r := .tmp 4) hf rfl (rv_tmp hf rfl) ?_
   exact ⟨_, rfl, H.bel, mk_int⟩
  ·refine wp_skip (then_n (sq (reg (pr 2 hf rfl rfl fun a hf => ?_))))
   refine wl_end (then_n (wp_ret (?_)))
   obtain rfl := Option.some.inj hF
   refine ret_1 (fn := Try.f9) (r := .tmp 4) hf rfl (rv_tmp hf rfl) ?_
   exact ⟨_, rfl, H.bel, mk_int⟩

/- loop.example/g00897/laws.szIntS -/
set_option maxHeartbeats 1000000 in
theorem laws_szIntS_ok {fu : Nat} {w0 : World} {S : Nat → Prop} {v0_ : Value} {v1_ : Value} {a' : List Int} {left : Int} {r : Int} (h0 : VR w0 S v0_ a') (h1 : VR w0 S v1_ left) (hF : laws_szIntS fu a' left = some r) :
    Calls Try.prog 56 [v0_, v1_].toArray w0 fun e w' => ∃ v, e = .returned v ∧ (Below w0.heap.size w0 w' ∧ VR w' (St ⟨w0, []⟩ S [] [] [] true) v r) := by
 obtain ⟨A, c, rfl, hl⟩ := VR_list h0
 obtain rfl := VR_int h1
 have H := Mem.start ⟨w0, []⟩ S
 have H := H.pushArg (MP.val [(.slice A a'.length c)] a') hl
 refine enter Try.func56 rfl rfl (nle rfl) rfl fun a hf => ?_
 rw [laws_szIntS] at hF
 refine sq (reg (pr 1 hf rfl rfl fun a hf => ?_))
 refine wl_end (then_n (sq (reg (pr 5 hf rfl rfl fun a hf => ?_))))
 refine wl_end (then_n (sq (sq (reg (pr 2 hf rfl rfl fun a hf => ?_)))))
 refine wl_end (then_n (iteB hF (fun hc hF => cd_t hf rfl hc ?_) fun hc hF => cd_f hf rfl hc ?_))
 ·refine sq (reg (pr 1 hf rfl rfl fun a hf => ?_))
  refine wl_end (then_n (wp_ret (then_r (?_))))
  obtain rfl := Option.some.inj hF
  refine ret_1 (fn := Try.f56) (r := .tmp 4) hf rfl (rv_tmp hf rfl) ?_
  exact ⟨_, rfl, H.bel, mk_int⟩
 ·refine wp_skip (then_n (sq (reg (pr 2 hf rfl rfl fun a hf => ?_))))
  refine wl_end (then_n (wp_ret (?_)))
  obtain rfl := Option.some.inj hF
  refine ret_1 (fn := Try.f56) (r := .tmp 4) hf rfl (rv_tmp hf rfl) ?_
  exact ⟨_, rfl, H.bel, mk_int⟩

/- loop.example/g00897/laws.szRoute -/
set_option maxHeartbeats 1000000 in
theorem laws_szRoute_ok {fu : Nat} {w0 : World} {S : Nat → Prop} {v0_ : Value} {v1_ : Value} {a' : Route} {left : Int} {r : Int} (h0 : VR w0 S v0_ a') (h1 : VR w0 S v1_ left) (hF : laws_szRoute fu a' left = some r) :
    Calls Try.prog 16 [v0_, v1_].toArray w0 fun e w' => ∃ v, e = .returned v ∧ (Below w0.heap.size w0 w' ∧ VR w' (St ⟨w0, []⟩ S [] [] [] true) v r) := by
 obtain ⟨A, c, rfl, hl⟩ := Route_open h0
 obtain rfl := VR_int h1
 have H := Mem.start ⟨w0, []⟩ S
 have H := H.pushArg (MP.val [(.slice A a'.Fibers.length c)] a'.Fibers) hl
 refine enter Try.func16 rfl rfl (nle rfl) rfl fun a hf => ?_
 rw [laws_szRoute] at hF
 refine sq (reg (wl0 rfl (op_box hf H rfl rfl (by decide) fun b' a w hf H => ?_)))
 refine pr 1 hf rfl rfl fun a hf => ?_
 refine wl_end (then_n (sq (reg (pr 1 hf rfl rfl fun a hf => ?_))))
 refine wl0 rfl (op_q hf (rq_loadB hf H TF.ls26 0 rfl rfl rfl) rfl (by decide) fun a hf => ?_)
 refine pr 1 hf rfl rfl fun a hf => ?_
 obtain ⟨y, hy, hF⟩ := bind_some hF
 refine wl0 rfl (op_call hf TF.cl56 rfl (by decide) (laws_szIntS_ok (S := fun _ => True) (mk_list (rep_true (α := List Int) (H.get 0 rfl))) mk_int hy) fun v w a hp hf => ?_)
 obtain ⟨hb, hp⟩ := hp
 obtain rfl := VR_int hp
 have H := H.keep hb
 refine pr 1 hf rfl rfl fun a hf => ?_
 refine wl_end (then_n (sq (sq (reg (pr 2 hf rfl rfl fun a hf => ?_)))))
 refine wl_end (then_n (iteB hF (fun hc hF => cd_t hf rfl hc ?_) fun hc hF => cd_f hf rfl hc ?_))
 ·refine sq (reg (pr 1 hf rfl rfl fun a hf => ?_))
  refine wl_end (then_n (wp_ret (then_r (?_))))
  obtain rfl := Option.some.inj hF
  refine ret_1 (fn := Try.f16) (r := .tmp 4) hf rfl (rv_tmp hf rfl) ?_
  exact ⟨_, rfl, H.bel, mk_int⟩
 ·refine wp_skip (then_n (sq (reg (pr 2 hf rfl rfl fun a hf => ?_))))
  refine wl_end (then_n (wp_ret (?_)))
  obtain rfl := Option.some.inj hF
  refine ret_1 (fn := Try.f16) (r := .tmp 4) hf rfl (rv_tmp hf rfl) ?_
  exact ⟨_, rfl, H.bel, mk_int⟩

/- loop.example/g00897/laws.toStringS -/
set_option maxHeartbeats 1000000 in
theorem laws_toStringS_ok {fu : Nat} {w0 : World} {S : Nat → Prop} {v0_ : Value} {a' : List ByteArray} {r : List ByteArray} (h0 : VR w0 S v0_ a') (hF : laws_toStringS fu a' = some r) :
    Calls Try.prog 48 [v0_].toArray w0 fun e w' => ∃ v, e = .returned v ∧ (Below w0.heap.size w0 w' ∧ ∃ F0, VO w' F0 v r ∧ New w0 w' F0) := by
 obtain ⟨A, c, rfl, hl⟩ := VR_list h0
 have H := Mem.start ⟨w0, []⟩ S
 have H := H.pushArg (MP.val [(.slice A a'.length c)] a') hl
 refine enter Try.func48 rfl rfl (nle rfl) rfl fun a hf => ?_
 rw [laws_toStringS] at hF
 refine sq (reg (pr 1 hf rfl rfl fun a hf => ?_))
 refine wl_end (then_n (sq (reg (pr 2 hf rfl rfl fun a hf => ?_))))
 obtain ⟨l, hl, hF⟩ := bind_some hF
 refine wl0 rfl (op_make (z0 := (ByteArray.empty : ByteArray)) hf H Try.underlying22 TF.ai9 rfl (by decide) rfl rfl rfl hl (by decide) fun A2 c2 a w hf H => ?_)
 refine pr 1 hf rfl rfl fun a hf => ?_
 refine wl_end (then_n (sq (sq (reg (pr 1 hf rfl rfl fun a hf => ?_)))))
 refine wl_end (then_n ?_)
 obtain ⟨out2, hB1, hF⟩ := bind_some hF
 have hf := hf.prune [0, 3, 4] rfl
 have H := H.let [] [true] [] [0]
 refine loopC (fun (s : List ByteArray × Int) (a : Act) (w : World) => match s with | (out', i) => ∃ (A3 : Option Addr) (c3 : Nat) (E : Go.TypeId), Fr a 22 [(0, (.slice A a'.length c)), (3, (.slice A3 out'.length c3)), (4, (.int .i64 i))] ∧ Mem ⟨w0, []⟩ S [] [⟨.sh true, E, A3, c3, (out' : List ByteArray)⟩] [] [(false, MP.val [(.slice A a'.length c)] (a' : List ByteArray))] w) (fun k (s : List ByteArray × Int) => laws_toStringS_L1 fu a' k s.1 s.2 = some out2) (fun s => out2 = s) (l, 0) fu hB1 ⟨A2, c2, 9, hf, H⟩ (fun s h => by cases h) ?_ ?_
 ·rintro fk ⟨out', i⟩ a w hR1 hI
  replace hR1 : laws_toStringS_L1 fu a' (fk + 1) out' i = some out2 := hR1
  rw [laws_toStringS_L1] at hR1
  obtain ⟨A3, c3, E, hf, H⟩ := hI
  refine sq (sq (reg (pr 4 hf rfl rfl fun a hf => ?_)))
  refine wl_end (then_n (iteB hR1 (fun hc hR1 => cd_t hf rfl hc ?_) fun hc hR1 => cd_f hf rfl hc ?_))
  ·refine wp_skip (then_n (sq (wp_block (reg (pr 4 hf rfl rfl fun a hf => ?_)))))
   obtain ⟨e, he, hR1⟩ := bind_some hR1
   refine wl0 rfl (op_iaddr hf H Try.underlying22 TF.sz9 0 rfl rfl rfl he (by decide) fun p o cs a hf hr H => ?_)
   obtain rfl := hr
   refine wl0 rfl (op_q hf (rq_loadI hf H TF.ls9 0 0 rfl rfl rfl) rfl (by decide) fun a hf => ?_)
   obtain ⟨e2, he2, hR1⟩ := bind_some hR1
   refine wl0 rfl (op_iaddrR hf H Try.underlying22 TF.sz9 0 rfl rfl rfl he2 (by decide) fun p2 o2 cs2 a hf hA hr2 hk => ?_)
   obtain rfl := hr2
   refine wl0 rfl (op_storeR (e' := e) hf H TF.sz9 0 rfl rfl rfl rfl rfl (nle rfl) rfl hA he2 (st_full rfl) fun w H => ?_)
   replace hf : Fr a 22 [(0, (.slice A a'.length c)), (3, (.slice A3 out'.length c3)), (4, (.int .i64 i)), (8, (.int .i64 i)), (9, (.slice A a'.length c)), (10, (.int .i64 (a'.length : Int))), (11, (.bool (decide (i < (a'.length : Int))))), (14, (.slice A3 out'.length c3)), (15, (.int .i64 i)), (16, (.slice A a'.length c)), (17, (.int .i64 i)), (18, (.pointer (some ⟨p, o + 0, none⟩))), (19, (.string e)), (20, (.pointer (some ⟨p2, o2 + 0, none⟩)))] := hf.prune [0, 3, 4, 8, 9, 10, 11, 14, 15, 16, 17, 18, 19, 20] rfl
   replace hf : Fr a 22 [(0, (.slice A a'.length c)), (3, (.slice A3 (out'.set (i).toNat e).length c3)), (4, (.int .i64 i)), (8, (.int .i64 i)), (9, (.slice A a'.length c)), (10, (.int .i64 (a'.length : Int))), (11, (.bool (decide (i < (a'.length : Int))))), (14, (.slice A3 (out'.set (i).toNat e).length c3)), (15, (.int .i64 i)), (16, (.slice A a'.length c)), (17, (.int .i64 i)), (18, (.pointer (some ⟨p, o + 0, none⟩))), (19, (.string e)), (20, (.pointer (some ⟨p2, o2 + 0, none⟩)))] := by simpa only [List.length_set, Nat.add_zero] using hf
   refine wl_end (blk_n (then_n (reg (pr 3 hf rfl rfl fun a hf => ?_))))
   have hf := hf.prune [0, 3, 4] rfl
   refine wl_end ?_
   have hf := hf.prune [0, 3, 4] rfl
   have H := H.let [] [true] [] [1]
   exact then_n ⟨(out'.set (i).toNat e, w64 (i + 1)), hR1, A3, c3, E, hf, H⟩
  ·refine wp_exit (then_x (then_x (blk_e (?_))))
   have hf := hf.prune [0, 3, 4] rfl
   have H := H.let [] [true] [] [0]
   exact ⟨(out', i), (Option.some.inj hR1).symm, A3, c3, E, hf, H⟩
 rintro a w ⟨⟨out3, i2⟩, rfl, A4, c4, E2, hf, H⟩
 dsimp only at hF
 refine then_n (sq (reg (pr 2 hf rfl rfl fun a hf => ?_)))
 refine wl_end (then_n (wp_ret (?_)))
 have H := H.rowOwn 0 rfl rfl
 obtain ⟨F, H⟩ := H.freezeOwn 0 rfl
 have H := H.lend 0 rfl
 obtain rfl := Option.some.inj hF
 refine ret_1 (fn := Try.f48) (r := .tmp 2) hf rfl (rv_tmp hf rfl) ?_
 have hN := H.ends (X := [(⟨F, MP.own F [(.slice A4 out3.length c4)] (out3 : List ByteArray)⟩ : DI)])
 simp only [List.flatMap_cons, List.flatMap_nil, List.append_nil, List.append_assoc] at hN
 exact ⟨_, rfl, H.bel, F, (mko_list (H.ownAt 0 rfl)), hN⟩

/- loop.example/g00897/laws.toFiber -/
set_option maxHeartbeats 1000000 in
theorem laws_toFiber_ok {fu : Nat} {w0 : World} {S : Nat → Prop} {v0_ : Value} {a' : Fiber} {r : Fiber} (h0 : VR w0 S v0_ a') (hF : laws_toFiber fu a' = some r) :
    Calls Try.prog 92 [v0_].toArray w0 fun e w' => ∃ v, e = .returned v ∧ (Below w0.heap.size w0 w' ∧ VR w' (St ⟨w0, []⟩ S [] [] [] true) v r) := by
 obtain rfl := Fiber_open h0
 have H := Mem.start ⟨w0, []⟩ S
 refine enter Try.func92 rfl rfl (nle rfl) rfl fun a hf => ?_
 rw [laws_toFiber] at hF
 refine sq (reg (wl0 rfl (op_box hf H rfl rfl (by decide) fun b' a w hf H => ?_)))
 refine wl0 rfl (op_alloc hf H TF.zv83 rfl (by decide) fun b2 a w hf H => ?_)
 refine wl_end (then_n (sq (reg (wl0 rfl (op_alloc hf H TF.zv83 rfl (by decide) fun b3 a w hf H => ?_)))))
 refine wl_end (then_n (sq (reg (pr 1 hf rfl rfl fun a hf => ?_))))
 refine wl0 rfl (op_q hf (rq_loadB hf H TF.ls3 2 rfl rfl rfl) rfl (by decide) fun a hf => ?_)
 refine pr 1 hf rfl rfl fun a hf => ?_
 refine wl0 rfl (op_storeB hf H 0 TF.sz3 rfl rfl rfl rfl rfl rfl (nle rfl) fun w H => ?_)
 refine wl_end (then_n (sq (reg (pr 1 hf rfl rfl fun a hf => ?_))))
 refine wl0 rfl (op_q hf (rq_loadB hf H TF.ls3 2 rfl rfl rfl) rfl (by decide) fun a hf => ?_)
 refine pr 1 hf rfl rfl fun a hf => ?_
 refine wl0 rfl (op_storeB hf H 0 TF.sz3 rfl rfl rfl rfl rfl rfl (nle rfl) fun w H => ?_)
 refine wl_end (then_n (sq (reg (pr 1 hf rfl rfl fun a hf => ?_))))
 refine wl0 rfl (op_q hf (rq_loadB hf H TF.ls3 2 rfl rfl rfl) rfl (by decide) fun a hf => ?_)
 refine pr 1 hf rfl rfl fun a hf => ?_
 refine wl0 rfl (op_storeB hf H 0 TF.sz3 rfl rfl rfl rfl rfl rfl (nle rfl) fun w H => ?_)
 refine wl_end (then_n (sq (reg (pr 1 hf rfl rfl fun a hf => ?_))))
 refine wl0 rfl (op_q hf (rq_loadB hf H TF.ls3 2 rfl rfl rfl) rfl (by decide) fun a hf => ?_)
 refine pr 1 hf rfl rfl fun a hf => ?_
 refine wl0 rfl (op_storeB hf H 0 TF.sz3 rfl rfl rfl rfl rfl rfl (nle rfl) fun w H => ?_)
 have hf := hf.prune [2, 3] rfl
 refine wl_end (then_n (sq (reg (wl0 rfl (op_q hf (rq_loadBN hf H TF.la83 0 rfl rfl rfl rfl) rfl (by decide) fun a hf => ?_)))))
 refine wl0 rfl (op_storeB hf H 1 TF.sz83 rfl rfl rfl rfl rfl rfl (nle rfl) fun w H => ?_)
 refine wl_end (then_n (wp_ret (?_)))
 obtain rfl := Option.some.inj hF
 refine ret_1 (fn := Try.f92) (r := .cell 2 83) hf rfl (rv_cellN hf H 1 TF.la83 rfl rfl rfl) ?_
 exact ⟨_, rfl, H.bel, Fiber_mkv⟩

/- loop.example/g00897/laws.toFiberS -/
set_option maxHeartbeats 1000000 in
theorem laws_toFiberS_ok {fu : Nat} {w0 : World} {S : Nat → Prop} {v0_ : Value} {a' : List Fiber} {r : List Fiber} (h0 : VR w0 S v0_ a') (hF : laws_toFiberS fu a' = some r) :
    Calls Try.prog 49 [v0_].toArray w0 fun e w' => ∃ v, e = .returned v ∧ (Below w0.heap.size w0 w' ∧ ∃ F0, VO w' F0 v r ∧ New w0 w' F0) := by
 obtain ⟨A, c, rfl, hl⟩ := VR_list h0
 have H := Mem.start ⟨w0, []⟩ S
 have H := H.pushArg (MP.val [(.slice A a'.length c)] a') hl
 refine enter Try.func49 rfl rfl (nle rfl) rfl fun a hf => ?_
 rw [laws_toFiberS] at hF
 refine sq (reg (pr 1 hf rfl rfl fun a hf => ?_))
 refine wl_end (then_n (sq (reg (pr 2 hf rfl rfl fun a hf => ?_))))
 obtain ⟨l, hl, hF⟩ := bind_some hF
 refine wl0 rfl (op_make (z0 := (({ A := 0, B := 0, Length := 0, Risk := 0 } : Fiber) : Fiber)) hf H Try.underlying30 TF.ai83 rfl (by decide) rfl rfl (Fiber_mk (x := ({ A := 0, B := 0, Length := 0, Risk := 0 } : Fiber))) hl (by decide) fun A2 c2 a w hf H => ?_)
 refine pr 1 hf rfl rfl fun a hf => ?_
 refine wl_end (then_n (sq (sq (reg (pr 1 hf rfl rfl fun a hf => ?_)))))
 refine wl_end (then_n ?_)
 obtain ⟨out2, hB1, hF⟩ := bind_some hF
 have hf := hf.prune [0, 3, 4] rfl
 have H := H.let [] [true] [] [0]
 refine loopC (fun (s : List Fiber × Int) (a : Act) (w : World) => match s with | (out', i) => ∃ (A3 : Option Addr) (c3 : Nat) (E : Go.TypeId), Fr a 23 [(0, (.slice A a'.length c)), (3, (.slice A3 out'.length c3)), (4, (.int .i64 i))] ∧ Mem ⟨w0, []⟩ S [] [⟨.sh true, E, A3, c3, (out' : List Fiber)⟩] [] [(false, MP.val [(.slice A a'.length c)] (a' : List Fiber))] w) (fun k (s : List Fiber × Int) => laws_toFiberS_L1 fu a' k s.1 s.2 = some out2) (fun s => out2 = s) (l, 0) fu hB1 ⟨A2, c2, 83, hf, H⟩ (fun s h => by cases h) ?_ ?_
 ·rintro fk ⟨out', i⟩ a w hR1 hI
  replace hR1 : laws_toFiberS_L1 fu a' (fk + 1) out' i = some out2 := hR1
  rw [laws_toFiberS_L1] at hR1
  obtain ⟨A3, c3, E, hf, H⟩ := hI
  refine sq (sq (reg (pr 4 hf rfl rfl fun a hf => ?_)))
  refine wl_end (then_n (iteB hR1 (fun hc hR1 => cd_t hf rfl hc ?_) fun hc hR1 => cd_f hf rfl hc ?_))
  ·refine wp_skip (then_n (sq (wp_block (reg (pr 4 hf rfl rfl fun a hf => ?_)))))
   obtain ⟨e, he, hR1⟩ := bind_some hR1
   refine wl0 rfl (op_iaddr hf H Try.underlying23 TF.sz113 0 rfl rfl rfl he (by decide) fun p o cs a hf hr H => ?_)
   obtain rfl := Fiber_cells hr
   refine wl0 rfl (op_q hf (rq_loadIN hf H TF.la113 0 0 rfl rfl rfl rfl) rfl (by decide) fun a hf => ?_)
   obtain ⟨y, hy, hR1⟩ := bind_some hR1
   refine wl0 rfl (op_call hf TF.cl92 rfl (by decide) (laws_toFiber_ok (S := fun _ => True) Fiber_mkv hy) fun v w a hp hf => ?_)
   obtain ⟨hb, hp⟩ := hp
   obtain rfl := Fiber_open hp
   have H := H.keep hb
   obtain ⟨e2, he2, hR1⟩ := bind_some hR1
   refine wl0 rfl (op_iaddrR hf H Try.underlying30 TF.sz83 0 rfl rfl rfl he2 (by decide) fun p2 o2 cs2 a hf hA hr2 hk => ?_)
   obtain rfl := Fiber_cells hr2
   refine wl0 rfl (op_storeR (e' := y) hf H TF.sz83 0 rfl rfl rfl rfl rfl (nle rfl) rfl hA he2 (st_full (Fiber_mk (x := y))) fun w H => ?_)
   replace hf : Fr a 23 [(0, (.slice A a'.length c)), (3, (.slice A3 out'.length c3)), (4, (.int .i64 i)), (8, (.int .i64 i)), (9, (.slice A a'.length c)), (10, (.int .i64 (a'.length : Int))), (11, (.bool (decide (i < (a'.length : Int))))), (14, (.slice A3 out'.length c3)), (15, (.int .i64 i)), (16, (.slice A a'.length c)), (17, (.int .i64 i)), (18, (.pointer (some ⟨p, o + 0, none⟩))), (19, (.agg #[(.int .i64 e.A), (.int .i64 e.B), (.int .i64 e.Length), (.int .i64 e.Risk)])), (20, (.agg #[(.int .i64 y.A), (.int .i64 y.B), (.int .i64 y.Length), (.int .i64 y.Risk)])), (21, (.pointer (some ⟨p2, o2 + 0, none⟩)))] := hf.prune [0, 3, 4, 8, 9, 10, 11, 14, 15, 16, 17, 18, 19, 20, 21] rfl
   replace hf : Fr a 23 [(0, (.slice A a'.length c)), (3, (.slice A3 (out'.set (i).toNat y).length c3)), (4, (.int .i64 i)), (8, (.int .i64 i)), (9, (.slice A a'.length c)), (10, (.int .i64 (a'.length : Int))), (11, (.bool (decide (i < (a'.length : Int))))), (14, (.slice A3 (out'.set (i).toNat y).length c3)), (15, (.int .i64 i)), (16, (.slice A a'.length c)), (17, (.int .i64 i)), (18, (.pointer (some ⟨p, o + 0, none⟩))), (19, (.agg #[(.int .i64 e.A), (.int .i64 e.B), (.int .i64 e.Length), (.int .i64 e.Risk)])), (20, (.agg #[(.int .i64 y.A), (.int .i64 y.B), (.int .i64 y.Length), (.int .i64 y.Risk)])), (21, (.pointer (some ⟨p2, o2 + 0, none⟩)))] := by simpa only [List.length_set, Nat.add_zero] using hf
   refine wl_end (blk_n (then_n (reg (pr 3 hf rfl rfl fun a hf => ?_))))
   have hf := hf.prune [0, 3, 4] rfl
   refine wl_end ?_
   have hf := hf.prune [0, 3, 4] rfl
   have H := H.let [] [true] [] [1]
   exact then_n ⟨(out'.set (i).toNat y, w64 (i + 1)), hR1, A3, c3, E, hf, H⟩
  ·refine wp_exit (then_x (then_x (blk_e (?_))))
   have hf := hf.prune [0, 3, 4] rfl
   have H := H.let [] [true] [] [0]
   exact ⟨(out', i), (Option.some.inj hR1).symm, A3, c3, E, hf, H⟩
 rintro a w ⟨⟨out3, i2⟩, rfl, A4, c4, E2, hf, H⟩
 dsimp only at hF
 refine then_n (sq (reg (pr 2 hf rfl rfl fun a hf => ?_)))
 refine wl_end (then_n (wp_ret (?_)))
 have H := H.rowOwn 0 rfl rfl
 obtain ⟨F, H⟩ := H.freezeOwn 0 rfl
 have H := H.lend 0 rfl
 obtain rfl := Option.some.inj hF
 refine ret_1 (fn := Try.f49) (r := .tmp 2) hf rfl (rv_tmp hf rfl) ?_
 have hN := H.ends (X := [(⟨F, MP.own F [(.slice A4 out3.length c4)] (out3 : List Fiber)⟩ : DI)])
 simp only [List.flatMap_cons, List.flatMap_nil, List.append_nil, List.append_assoc] at hN
 exact ⟨_, rfl, H.bel, F, (mko_list (H.ownAt 0 rfl)), hN⟩

/- loop.example/g00897/laws.toNetwork -/
set_option maxHeartbeats 1000000 in
theorem laws_toNetwork_ok {fu : Nat} {w0 : World} {S : Nat → Prop} {v0_ : Value} {a' : Network} {r : Network} (h0 : VR w0 S v0_ a') (hF : laws_toNetwork fu a' = some r) :
    Calls Try.prog 11 [v0_].toArray w0 fun e w' => ∃ v, e = .returned v ∧ (Below w0.heap.size w0 w' ∧ ∃ F0, VO w' F0 v r ∧ New w0 w' F0) := by
 obtain ⟨A, c, A2, c2, rfl, hl, hl2⟩ := Network_open h0
 have H := Mem.start ⟨w0, []⟩ S
 have H := H.pushArg (MP.val [(.slice A a'.Nodes.length c)] a'.Nodes) hl
 have H := H.pushArg (MP.val [(.slice A2 a'.Fibers.length c2)] a'.Fibers) hl2
 refine enter Try.func11 rfl rfl (nle rfl) rfl fun a hf => ?_
 rw [laws_toNetwork] at hF
 refine sq (reg (wl0 rfl (op_box hf H rfl rfl (by decide) fun b' a w hf H => ?_)))
 refine wl0 rfl (op_alloc hf H TF.zv32 rfl (by decide) fun b2 a w hf H => ?_)
 refine wl_end (then_n (sq (reg (wl0 rfl (op_alloc hf H TF.zv32 rfl (by decide) fun b3 a w hf H => ?_)))))
 refine wl_end (then_n (sq (reg (pr 1 hf rfl rfl fun a hf => ?_))))
 refine wl0 rfl (op_q hf (rq_loadB hf H TF.ls22 2 rfl rfl rfl) rfl (by decide) fun a hf => ?_)
 obtain ⟨y, hy, hF⟩ := bind_some hF
 refine wl0 rfl (op_call hf TF.cl48 rfl (by decide) (laws_toStringS_ok (S := fun _ => True) (mk_list (rep_true (α := List ByteArray) (H.get 1 rfl))) hy) fun v w a hp hf => ?_)
 obtain ⟨hb, F, hp2, hN⟩ := hp
 obtain ⟨A3, c3, rfl, hl3⟩ := VO_list hp2
 have H := H.addOwn hb (X := [(⟨F, MP.own F [(.slice A3 y.length c3)] (y : List ByteArray)⟩ : DI)]) (by simpa using hN.1) (ps1 hl3 ps0) (by simpa using hN.2)
 have H := H.lend 0 rfl
 refine pr 1 hf rfl rfl fun a hf => ?_
 refine wl0 rfl (op_storeB hf H 0 TF.sz22 rfl rfl rfl rfl rfl rfl (nle rfl) fun w H => ?_)
 refine wl_end (then_n (sq (reg (pr 1 hf rfl rfl fun a hf => ?_))))
 refine wl0 rfl (op_q hf (rq_loadB hf H TF.ls23 2 rfl rfl rfl) rfl (by decide) fun a hf => ?_)
 obtain ⟨y2, hy2, hF⟩ := bind_some hF
 refine wl0 rfl (op_call hf TF.cl49 rfl (by decide) (laws_toFiberS_ok (S := fun _ => True) (mk_list (rep_true (α := List Fiber) (H.get 1 rfl))) hy2) fun v2 w a hp3 hf => ?_)
 obtain ⟨hb2, F3, hp4, hN2⟩ := hp3
 obtain ⟨A4, c4, rfl, hl4⟩ := VO_list hp4
 have H := H.addOwn hb2 (X := [(⟨F3, MP.own F3 [(.slice A4 y2.length c4)] (y2 : List Fiber)⟩ : DI)]) (by simpa using hN2.1) (ps1 hl4 ps0) (by simpa using hN2.2)
 have H := H.lend 0 rfl
 refine pr 1 hf rfl rfl fun a hf => ?_
 refine wl0 rfl (op_storeB hf H 0 TF.sz30 rfl rfl rfl rfl rfl rfl (nle rfl) fun w H => ?_)
 refine wl_end (then_n (sq (reg (wl0 rfl (op_q hf (rq_loadBN hf H TF.la32 0 rfl rfl rfl rfl) rfl (by decide) fun a hf => ?_)))))
 refine wl0 rfl (op_storeB hf H 1 TF.sz32 rfl rfl rfl rfl rfl rfl (nle rfl) fun w H => ?_)
 refine wl_end (then_n (wp_ret (?_)))
 have H := H.frontD 1 rfl
 obtain rfl := Option.some.inj hF
 refine ret_1 (fn := Try.f11) (r := .cell 2 32) hf rfl (rv_cellN hf H 1 TF.la32 rfl rfl rfl) ?_
 have hN := H.ends (X := [(⟨F, MP.own F [(.slice A3 y.length c3)] (y : List ByteArray)⟩ : DI), (⟨F3, MP.own F3 [(.slice A4 y2.length c4)] (y2 : List Fiber)⟩ : DI)])
 simp only [List.flatMap_cons, List.flatMap_nil, List.append_nil, List.append_assoc] at hN
 exact ⟨_, rfl, H.bel, (F ++ F3), ⟨_, Network_ownmk (x := ({ Nodes := y, Fibers := y2 } : Network)) (H.ownAt 0 rfl) (H.ownAt 1 rfl), rfl⟩, hN⟩

/- loop.example/g00897/laws.toIntS -/
set_option maxHeartbeats 1000000 in
theorem laws_toIntS_ok {fu : Nat} {w0 : World} {S : Nat → Prop} {v0_ : Value} {a' : List Int} {r : List Int} (h0 : VR w0 S v0_ a') (hF : laws_toIntS fu a' = some r) :
    Calls Try.prog 12 [v0_].toArray w0 fun e w' => ∃ v, e = .returned v ∧ (Below w0.heap.size w0 w' ∧ ∃ F0, VO w' F0 v r ∧ New w0 w' F0) := by
 obtain ⟨A, c, rfl, hl⟩ := VR_list h0
 have H := Mem.start ⟨w0, []⟩ S
 have H := H.pushArg (MP.val [(.slice A a'.length c)] a') hl
 refine enter Try.func12 rfl rfl (nle rfl) rfl fun a hf => ?_
 rw [laws_toIntS] at hF
 refine sq (reg (pr 1 hf rfl rfl fun a hf => ?_))
 refine wl_end (then_n (sq (reg (pr 2 hf rfl rfl fun a hf => ?_))))
 obtain ⟨l, hl, hF⟩ := bind_some hF
 refine wl0 rfl (op_make (z0 := (0 : Int)) hf H Try.underlying26 TF.ai3 rfl (by decide) rfl rfl rfl hl (by decide) fun A2 c2 a w hf H => ?_)
 refine pr 1 hf rfl rfl fun a hf => ?_
 refine wl_end (then_n (sq (sq (reg (pr 1 hf rfl rfl fun a hf => ?_)))))
 refine wl_end (then_n ?_)
 obtain ⟨out2, hB1, hF⟩ := bind_some hF
 have hf := hf.prune [0, 3, 4] rfl
 have H := H.let [] [true] [] [0]
 refine loopC (fun (s : List Int × Int) (a : Act) (w : World) => match s with | (out', i) => ∃ (A3 : Option Addr) (c3 : Nat) (E : Go.TypeId), Fr a 22 [(0, (.slice A a'.length c)), (3, (.slice A3 out'.length c3)), (4, (.int .i64 i))] ∧ Mem ⟨w0, []⟩ S [] [⟨.sh true, E, A3, c3, (out' : List Int)⟩] [] [(false, MP.val [(.slice A a'.length c)] (a' : List Int))] w) (fun k (s : List Int × Int) => laws_toIntS_L1 fu a' k s.1 s.2 = some out2) (fun s => out2 = s) (l, 0) fu hB1 ⟨A2, c2, 3, hf, H⟩ (fun s h => by cases h) ?_ ?_
 ·rintro fk ⟨out', i⟩ a w hR1 hI
  replace hR1 : laws_toIntS_L1 fu a' (fk + 1) out' i = some out2 := hR1
  rw [laws_toIntS_L1] at hR1
  obtain ⟨A3, c3, E, hf, H⟩ := hI
  refine sq (sq (reg (pr 4 hf rfl rfl fun a hf => ?_)))
  refine wl_end (then_n (iteB hR1 (fun hc hR1 => cd_t hf rfl hc ?_) fun hc hR1 => cd_f hf rfl hc ?_))
  ·refine wp_skip (then_n (sq (wp_block (reg (pr 4 hf rfl rfl fun a hf => ?_)))))
   obtain ⟨e, he, hR1⟩ := bind_some hR1
   refine wl0 rfl (op_iaddr hf H Try.underlying26 TF.sz3 0 rfl rfl rfl he (by decide) fun p o cs a hf hr H => ?_)
   obtain rfl := hr
   refine wl0 rfl (op_q hf (rq_loadI hf H TF.ls3 0 0 rfl rfl rfl) rfl (by decide) fun a hf => ?_)
   obtain ⟨e2, he2, hR1⟩ := bind_some hR1
   refine wl0 rfl (op_iaddrR hf H Try.underlying26 TF.sz3 0 rfl rfl rfl he2 (by decide) fun p2 o2 cs2 a hf hA hr2 hk => ?_)
   obtain rfl := hr2
   refine wl0 rfl (op_storeR (e' := e) hf H TF.sz3 0 rfl rfl rfl rfl rfl (nle rfl) rfl hA he2 (st_full rfl) fun w H => ?_)
   replace hf : Fr a 22 [(0, (.slice A a'.length c)), (3, (.slice A3 out'.length c3)), (4, (.int .i64 i)), (8, (.int .i64 i)), (9, (.slice A a'.length c)), (10, (.int .i64 (a'.length : Int))), (11, (.bool (decide (i < (a'.length : Int))))), (14, (.slice A3 out'.length c3)), (15, (.int .i64 i)), (16, (.slice A a'.length c)), (17, (.int .i64 i)), (18, (.pointer (some ⟨p, o + 0, none⟩))), (19, (.int .i64 e)), (20, (.pointer (some ⟨p2, o2 + 0, none⟩)))] := hf.prune [0, 3, 4, 8, 9, 10, 11, 14, 15, 16, 17, 18, 19, 20] rfl
   replace hf : Fr a 22 [(0, (.slice A a'.length c)), (3, (.slice A3 (out'.set (i).toNat e).length c3)), (4, (.int .i64 i)), (8, (.int .i64 i)), (9, (.slice A a'.length c)), (10, (.int .i64 (a'.length : Int))), (11, (.bool (decide (i < (a'.length : Int))))), (14, (.slice A3 (out'.set (i).toNat e).length c3)), (15, (.int .i64 i)), (16, (.slice A a'.length c)), (17, (.int .i64 i)), (18, (.pointer (some ⟨p, o + 0, none⟩))), (19, (.int .i64 e)), (20, (.pointer (some ⟨p2, o2 + 0, none⟩)))] := by simpa only [List.length_set, Nat.add_zero] using hf
   refine wl_end (blk_n (then_n (reg (pr 3 hf rfl rfl fun a hf => ?_))))
   have hf := hf.prune [0, 3, 4] rfl
   refine wl_end ?_
   have hf := hf.prune [0, 3, 4] rfl
   have H := H.let [] [true] [] [1]
   exact then_n ⟨(out'.set (i).toNat e, w64 (i + 1)), hR1, A3, c3, E, hf, H⟩
  ·refine wp_exit (then_x (then_x (blk_e (?_))))
   have hf := hf.prune [0, 3, 4] rfl
   have H := H.let [] [true] [] [0]
   exact ⟨(out', i), (Option.some.inj hR1).symm, A3, c3, E, hf, H⟩
 rintro a w ⟨⟨out3, i2⟩, rfl, A4, c4, E2, hf, H⟩
 dsimp only at hF
 refine then_n (sq (reg (pr 2 hf rfl rfl fun a hf => ?_)))
 refine wl_end (then_n (wp_ret (?_)))
 have H := H.rowOwn 0 rfl rfl
 obtain ⟨F, H⟩ := H.freezeOwn 0 rfl
 have H := H.lend 0 rfl
 obtain rfl := Option.some.inj hF
 refine ret_1 (fn := Try.f12) (r := .tmp 2) hf rfl (rv_tmp hf rfl) ?_
 have hN := H.ends (X := [(⟨F, MP.own F [(.slice A4 out3.length c4)] (out3 : List Int)⟩ : DI)])
 simp only [List.flatMap_cons, List.flatMap_nil, List.append_nil, List.append_assoc] at hN
 exact ⟨_, rfl, H.bel, F, (mko_list (H.ownAt 0 rfl)), hN⟩

/- loop.example/g00897/laws.toRoute -/
set_option maxHeartbeats 1000000 in
theorem laws_toRoute_ok {fu : Nat} {w0 : World} {S : Nat → Prop} {v0_ : Value} {a' : Route} {r : Route} (h0 : VR w0 S v0_ a') (hF : laws_toRoute fu a' = some r) :
    Calls Try.prog 18 [v0_].toArray w0 fun e w' => ∃ v, e = .returned v ∧ (Below w0.heap.size w0 w' ∧ ∃ F0, VO w' F0 v r ∧ New w0 w' F0) := by
 obtain ⟨A, c, rfl, hl⟩ := Route_open h0
 have H := Mem.start ⟨w0, []⟩ S
 have H := H.pushArg (MP.val [(.slice A a'.Fibers.length c)] a'.Fibers) hl
 refine enter Try.func18 rfl rfl (nle rfl) rfl fun a hf => ?_
 rw [laws_toRoute] at hF
 refine sq (reg (wl0 rfl (op_box hf H rfl rfl (by decide) fun b' a w hf H => ?_)))
 refine wl0 rfl (op_alloc hf H TF.zv43 rfl (by decide) fun b2 a w hf H => ?_)
 refine wl_end (then_n (sq (reg (wl0 rfl (op_alloc hf H TF.zv43 rfl (by decide) fun b3 a w hf H => ?_)))))
 refine wl_end (then_n (sq (reg (pr 1 hf rfl rfl fun a hf => ?_))))
 refine wl0 rfl (op_q hf (rq_loadB hf H TF.ls3 2 rfl rfl rfl) rfl (by decide) fun a hf => ?_)
 refine pr 1 hf rfl rfl fun a hf => ?_
 refine wl0 rfl (op_storeB hf H 0 TF.sz3 rfl rfl rfl rfl rfl rfl (nle rfl) fun w H => ?_)
 refine wl_end (then_n (sq (reg (pr 1 hf rfl rfl fun a hf => ?_))))
 refine wl0 rfl (op_q hf (rq_loadB hf H TF.ls26 2 rfl rfl rfl) rfl (by decide) fun a hf => ?_)
 obtain ⟨y, hy, hF⟩ := bind_some hF
 refine wl0 rfl (op_call hf TF.cl12 rfl (by decide) (laws_toIntS_ok (S := fun _ => True) (mk_list (rep_true (α := List Int) (H.get 0 rfl))) hy) fun v w a hp hf => ?_)
 obtain ⟨hb, F, hp2, hN⟩ := hp
 obtain ⟨A2, c2, rfl, hl2⟩ := VO_list hp2
 have H := H.addOwn hb (X := [(⟨F, MP.own F [(.slice A2 y.length c2)] (y : List Int)⟩ : DI)]) (by simpa using hN.1) (ps1 hl2 ps0) (by simpa using hN.2)
 have H := H.lend 0 rfl
 refine pr 1 hf rfl rfl fun a hf => ?_
 refine wl0 rfl (op_storeB hf H 0 TF.sz26 rfl rfl rfl rfl rfl rfl (nle rfl) fun w H => ?_)
 refine wl_end (then_n (sq (reg (wl0 rfl (op_q hf (rq_loadBN hf H TF.la43 0 rfl rfl rfl rfl) rfl (by decide) fun a hf => ?_)))))
 refine wl0 rfl (op_storeB hf H 1 TF.sz43 rfl rfl rfl rfl rfl rfl (nle rfl) fun w H => ?_)
 refine wl_end (then_n (wp_ret (?_)))
 obtain rfl := Option.some.inj hF
 refine ret_1 (fn := Try.f18) (r := .cell 2 43) hf rfl (rv_cellN hf H 1 TF.la43 rfl rfl rfl) ?_
 have hN := H.ends (X := [(⟨F, MP.own F [(.slice A2 y.length c2)] (y : List Int)⟩ : DI)])
 simp only [List.flatMap_cons, List.flatMap_nil, List.append_nil, List.append_assoc] at hN
 exact ⟨_, rfl, H.bel, F, ⟨_, Route_ownmk (x := ({ Start := a'.Start, Fibers := y } : Route)) (H.ownAt 0 rfl), rfl⟩, hN⟩

/- loop.example/g00897/spec.l1In -/
set_option maxHeartbeats 1000000 in
theorem spec_l1In_ok {fu : Nat} {w0 : World} {S : Nat → Prop} {v0_ : Value} {v1_ : Value} {v2_ : Value} {x1 : Int} {a' : Int} {b' : Int} {r : Bool} (h0 : VR w0 S v0_ x1) (h1 : VR w0 S v1_ a') (h2 : VR w0 S v2_ b') (hF : spec_l1In fu x1 a' b' = some r) :
    Calls Try.prog 46 [v0_, v1_, v2_].toArray w0 fun e w' => ∃ v, e = .returned v ∧ (Below w0.heap.size w0 w' ∧ VR w' (St ⟨w0, []⟩ S [] [] [] true) v r) := by
 obtain rfl := VR_int h0
 obtain rfl := VR_int h1
 obtain rfl := VR_int h2
 have H := Mem.start ⟨w0, []⟩ S
 refine enter Try.func46 rfl rfl (nle rfl) rfl fun a hf => ?_
 rw [spec_l1In] at hF
 refine sq (reg (pr 1 hf rfl rfl fun a hf => ?_))
 refine wl_end (then_n (sq ?_))
 obtain ⟨c, hGc, hF⟩ := bind_some hF
 have fh := hf.prune [] rfl
 have Hm := H.let [] [] [] []
 refine midF 6 (.bool c) fh Hm ?_ fun a w hf H => ?_
 ·refine reg (pr 4 hf rfl rfl fun a hf => ?_)
  refine iteB hGc (fun hc hGc => ?_) fun hc hGc => ?_
  ·have hf := hf.lit 10 rfl hc
   refine pr 5 hf rfl rfl fun a hf => ?_
   obtain rfl := Option.some.inj hGc
   have hf := hf.prune [6] rfl
   have H := H.let [] [] [] []
   exact wl_end ⟨hf, H⟩
  ·have hf := hf.lit 10 rfl hc
   refine pr 5 hf rfl rfl fun a hf => ?_
   obtain rfl := Option.some.inj hGc
   have hf := hf.prune [6] rfl
   have H := H.let [] [] [] []
   exact wl_end ⟨hf, H⟩
 refine then_n (wp_ret (?_))
 obtain rfl := Option.some.inj hF
 refine ret_1 (fn := Try.f46) (r := .tmp 6) hf rfl (rv_tmp hf rfl) ?_
 exact ⟨_, rfl, H.bel, mk_bool⟩

/- loop.example/g00897/spec.l2Sign -/
set_option maxHeartbeats 1000000 in
theorem spec_l2Sign_ok {fu : Nat} {w0 : World} {S : Nat → Prop} {v0_ : Value} {b' : By} {r : Bool} (h0 : VR w0 S v0_ b') (hF : spec_l2Sign fu b' = some r) :
    Calls Try.prog 119 [v0_].toArray w0 fun e w' => ∃ v, e = .returned v ∧ (Below w0.heap.size w0 w' ∧ VR w' (St ⟨w0, []⟩ S [] [] [] true) v r) := by
 obtain rfl := VR_by h0
 have H := Mem.start ⟨w0, []⟩ S
 refine enter Try.func119 rfl rfl (nle rfl) rfl fun a hf => ?_
 rw [spec_l2Sign] at hF
 refine sq (reg (pr 1 hf rfl rfl fun a hf => ?_))
 refine wl_end (then_n (sq ?_))
 obtain ⟨c, hGc, hF⟩ := bind_some hF
 have fh := hf.prune [] rfl
 have Hm := H.let [] [] [] []
 refine midF 2 (.bool c) fh Hm ?_ fun a w hf H => ?_
 ·refine reg (pr 1 hf rfl rfl fun a hf => ?_)
  refine wl0 rfl (op_q hf (rq_geK hf rfl rfl) rfl (by decide) fun a hf => ?_)
  refine pr 1 hf rfl rfl fun a hf => ?_
  refine iteB hGc (fun hc hGc => ?_) fun hc hGc => ?_
  ·have hf := hf.lit 5 rfl hc
   refine pr 1 hf rfl rfl fun a hf => ?_
   refine wlg hf rfl rfl rfl (op_q hf (rq_leK hf rfl rfl) rfl (by decide) fun a hf => ?_)
   refine pr 2 hf rfl rfl fun a hf => ?_
   refine iteB hGc (fun hc2 hGc => ?_) fun hc2 hGc => ?_
   ·have hf := hf.lit 9 rfl hc2
    refine pr 3 hf rfl rfl fun a hf => ?_
    refine wlsu hf rfl rfl rfl rfl (by decide) fun a hf => ?_
    refine wlsu hf rfl rfl rfl rfl (by decide) fun a hf => ?_
    refine pr 3 hf rfl rfl fun a hf => ?_
    obtain rfl := Option.some.inj hGc
    have hf := hf.prune [2] rfl
    have H := H.let [] [] [] []
    exact wl_end ⟨hf, H⟩
   ·have hf := hf.lit 9 rfl hc2
    refine pr 1 hf rfl rfl fun a hf => ?_
    refine wlg hf rfl rfl rfl (op_q hf (rq_geK hf rfl rfl) rfl (by decide) fun a hf => ?_)
    refine pr 1 hf rfl rfl fun a hf => ?_
    refine iteB hGc (fun hc3 hGc => ?_) fun hc3 hGc => ?_
    ·have hf := hf.lit 12 rfl hc3
     refine pr 1 hf rfl rfl fun a hf => ?_
     refine wlg hf rfl rfl rfl (op_q hf (rq_leK hf rfl rfl) rfl (by decide) fun a hf => ?_)
     refine pr 3 hf rfl rfl fun a hf => ?_
     obtain rfl := Option.some.inj hGc
     have hf := hf.prune [2] rfl
     have H := H.let [] [] [] []
     exact wl_end ⟨hf, H⟩
    ·have hf := hf.lit 12 rfl hc3
     refine pr 5 hf rfl rfl fun a hf => ?_
     obtain rfl := Option.some.inj hGc
     have hf := hf.prune [2] rfl
     have H := H.let [] [] [] []
     exact wl_end ⟨hf, H⟩
  ·have hf := hf.lit 5 rfl hc
   refine pr 5 hf rfl rfl fun a hf => ?_
   refine wlg hf rfl rfl rfl (op_q hf (rq_geK hf rfl rfl) rfl (by decide) fun a hf => ?_)
   refine pr 1 hf rfl rfl fun a hf => ?_
   refine iteB hGc (fun hc4 hGc => ?_) fun hc4 hGc => ?_
   ·have hf := hf.lit 12 rfl hc4
    refine pr 1 hf rfl rfl fun a hf => ?_
    refine wlg hf rfl rfl rfl (op_q hf (rq_leK hf rfl rfl) rfl (by decide) fun a hf => ?_)
    refine pr 3 hf rfl rfl fun a hf => ?_
    obtain rfl := Option.some.inj hGc
    have hf := hf.prune [2] rfl
    have H := H.let [] [] [] []
    exact wl_end ⟨hf, H⟩
   ·have hf := hf.lit 12 rfl hc4
    refine pr 5 hf rfl rfl fun a hf => ?_
    obtain rfl := Option.some.inj hGc
    have hf := hf.prune [2] rfl
    have H := H.let [] [] [] []
    exact wl_end ⟨hf, H⟩
 refine then_n (wp_ret (?_))
 obtain rfl := Option.some.inj hF
 refine ret_1 (fn := Try.f119) (r := .tmp 2) hf rfl (rv_tmp hf rfl) ?_
 exact ⟨_, rfl, H.bel, mk_bool⟩

/- loop.example/g00897/spec.l2Name -/
set_option maxHeartbeats 1000000 in
theorem spec_l2Name_ok {fu : Nat} {w0 : World} {S : Nat → Prop} {v0_ : Value} {s' : ByteArray} {r : Bool} (h0 : VR w0 S v0_ s') (hF : spec_l2Name fu s' = some r) :
    Calls Try.prog 86 [v0_].toArray w0 fun e w' => ∃ v, e = .returned v ∧ (Below w0.heap.size w0 w' ∧ VR w' (St ⟨w0, []⟩ S [] [] [] true) v r) := by
 obtain rfl := VR_str h0
 have H := Mem.start ⟨w0, []⟩ S
 refine enter Try.func86 rfl rfl (nle rfl) rfl fun a hf => ?_
 rw [spec_l2Name] at hF
 refine sq (reg (pr 1 hf rfl rfl fun a hf => ?_))
 refine wl_end (then_n (sq (sq ?_)))
 obtain ⟨c, hGc, hF⟩ := bind_some hF
 have fh := hf.prune [0] rfl
 have Hm := H.let [] [] [] []
 refine midF 17 (.bool c) fh Hm ?_ fun a w hf H => ?_
 ·refine reg (pr 2 hf rfl rfl fun a hf => ?_)
  obtain ⟨y, hy, hGc⟩ := bind_some hGc
  refine wl0 rfl (op_call hf TF.cl46 rfl (by decide) (spec_l1In_ok (S := fun _ => True) mk_int mk_int mk_int hy) fun v w a hp hf => ?_)
  obtain ⟨hb, hp⟩ := hp
  obtain rfl := VR_bool hp
  have H := H.keep hb
  refine pr 2 hf rfl rfl fun a hf => ?_
  refine iteB hGc (fun hc hGc => ?_) fun hc hGc => ?_
  ·have hf := hf.lit 8 rfl hc
   refine pr 9 hf rfl rfl fun a hf => ?_
   obtain rfl := Option.some.inj hGc
   have hf := hf.prune [17, 0] rfl
   have H := H.let [] [] [] []
   exact wl_end ⟨hf, H⟩
  ·have hf := hf.lit 8 rfl hc
   refine pr 1 hf rfl rfl fun a hf => ?_
   obtain ⟨e, he, hGc⟩ := bind_some hGc
   refine wlg hf rfl rfl rfl (op_q hf (rq_indexS hf Try.underlying9 rfl rfl he) rfl (by decide) fun a hf => ?_)
   refine wlg hf rfl rfl rfl (op_q hf (rq_ltK hf rfl rfl) rfl (by decide) fun a hf => ?_)
   refine pr 2 hf rfl rfl fun a hf => ?_
   refine iteB hGc (fun hc2 hGc => ?_) fun hc2 hGc => ?_
   ·have hf := hf.lit 13 rfl hc2
    refine pr 4 hf rfl rfl fun a hf => ?_
    obtain rfl := Option.some.inj hGc
    have hf := hf.prune [17, 0] rfl
    have H := H.let [] [] [] []
    exact wl_end ⟨hf, H⟩
   ·have hf := hf.lit 13 rfl hc2
    refine pr 1 hf rfl rfl fun a hf => ?_
    obtain ⟨e2, he2, hGc⟩ := bind_some hGc
    refine wlg hf rfl rfl rfl (op_q hf (rq_indexS hf Try.underlying9 rfl rfl he2) rfl (by decide) fun a hf => ?_)
    refine wlg hf rfl rfl rfl (op_q hf (rq_gtK hf rfl rfl) rfl (by decide) fun a hf => ?_)
    refine pr 1 hf rfl rfl fun a hf => ?_
    obtain rfl := Option.some.inj hGc
    have hf := hf.prune [17, 0] rfl
    have H := H.let [] [] [] []
    exact wl_end ⟨hf, H⟩
 refine then_n (iteB hF (fun hc3 hF => cd_t hf rfl hc3 ?_) fun hc3 hF => cd_f hf rfl hc3 ?_)
 ·refine sq (reg (pr 1 hf rfl rfl fun a hf => ?_))
  refine wl_end (then_n (wp_ret (then_r (?_))))
  obtain rfl := Option.some.inj hF
  refine ret_1 (fn := Try.f86) (r := .tmp 2) hf rfl (rv_tmp hf rfl) ?_
  exact ⟨_, rfl, H.bel, mk_bool⟩
 ·refine wp_skip (then_n (sq (sq (reg (pr 1 hf rfl rfl fun a hf => ?_)))))
  refine wl_end (then_n ?_)
  obtain ⟨out', hB1, hF⟩ := bind_some hF
  have hf := hf.prune [0, 3] rfl
  have H := H.let [] [] [] []
  refine loopC (fun (s : Int) (a : Act) (w : World) => match s with | i => Fr a 29 [(0, (.string s')), (3, (.int .i64 i))] ∧ Mem ⟨w0, []⟩ S [] [] [] [] w) (fun k (s : Int) => spec_l2Name_L1 fu s' k s = some out') (fun s => out' = Out.next s) 0 fu hB1 ⟨hf, H⟩ (fun s h => by cases h) ?_ ?_
  ·rintro fk i a w hR1 hI
   replace hR1 : spec_l2Name_L1 fu s' (fk + 1) i = some out' := hR1
   rw [spec_l2Name_L1] at hR1
   obtain ⟨hf, H⟩ := hI
   refine sq (sq (reg (pr 4 hf rfl rfl fun a hf => ?_)))
   refine wl_end (then_n (iteB hR1 (fun hc4 hR1 => cd_t hf rfl hc4 ?_) fun hc4 hR1 => cd_f hf rfl hc4 ?_))
   ·refine wp_skip (then_n (sq (wp_block (sq (reg (pr 2 hf rfl rfl fun a hf => ?_))))))
    obtain ⟨e3, he3, hR1⟩ := bind_some hR1
    refine wl0 rfl (op_q hf (rq_indexS hf Try.underlying9 rfl rfl he3) rfl (by decide) fun a hf => ?_)
    obtain ⟨y2, hy2, hR1⟩ := bind_some hR1
    refine wl0 rfl (op_call hf TF.cl119 rfl (by decide) (spec_l2Sign_ok (S := fun _ => True) mk_by hy2) fun v2 w a hp2 hf => ?_)
    obtain ⟨hb2, hp2⟩ := hp2
    obtain rfl := VR_bool hp2
    have H := H.keep hb2
    refine pr 1 hf rfl rfl fun a hf => ?_
    refine wl_end (then_n (iteB hR1 (fun hc5 hR1 => cd_t hf rfl hc5 ?_) fun hc5 hR1 => cd_f hf rfl hc5 ?_))
    ·refine sq (reg (pr 1 hf rfl rfl fun a hf => ?_))
     refine wl_end (then_n (wp_ret (blk_r (then_r (then_r (blk_r (then_r (then_r (?_)))))))))
     obtain rfl := Option.some.inj hR1
     replace hF := on_ret hF
     obtain rfl := Option.some.inj hF
     refine ret_1 (fn := Try.f86) (r := .tmp 2) hf rfl (rv_tmp hf rfl) ?_
     exact ⟨_, rfl, H.bel, mk_bool⟩
    ·refine wp_skip (blk_n (then_n (reg (pr 3 hf rfl rfl fun a hf => ?_))))
     refine wl_end ?_
     have hf := hf.prune [0, 3] rfl
     have H := H.let [] [] [] []
     exact then_n ⟨w64 (i + 1), hR1, hf, H⟩
   ·refine wp_exit (then_x (then_x (blk_e (?_))))
    have hf := hf.prune [0, 3] rfl
    have H := H.let [] [] [] []
    exact ⟨i, (Option.some.inj hR1).symm, hf, H⟩
  rintro a w ⟨i2, rfl, hf, H⟩
  replace hF := on_next hF
  refine then_n (sq (reg (pr 1 hf rfl rfl fun a hf => ?_)))
  refine wl_end (then_n (wp_ret (?_)))
  obtain rfl := Option.some.inj hF
  refine ret_1 (fn := Try.f86) (r := .tmp 2) hf rfl (rv_tmp hf rfl) ?_
  exact ⟨_, rfl, H.bel, mk_bool⟩

/- loop.example/g00897/spec.l2Find -/
set_option maxHeartbeats 1000000 in
theorem spec_l2Find_ok {fu : Nat} {w0 : World} {S : Nat → Prop} {v0_ : Value} {v1_ : Value} {list : List ByteArray} {name : ByteArray} {r : Int} (h0 : VR w0 S v0_ list) (h1 : VR w0 S v1_ name) (hF : spec_l2Find fu list name = some r) :
    Calls Try.prog 87 [v0_, v1_].toArray w0 fun e w' => ∃ v, e = .returned v ∧ (Below w0.heap.size w0 w' ∧ VR w' (St ⟨w0, []⟩ S [] [] [] true) v r) := by
 obtain ⟨A, c, rfl, hl⟩ := VR_list h0
 obtain rfl := VR_str h1
 have H := Mem.start ⟨w0, []⟩ S
 have H := H.pushArg (MP.val [(.slice A list.length c)] list) hl
 refine enter Try.func87 rfl rfl (nle rfl) rfl fun a hf => ?_
 rw [spec_l2Find] at hF
 refine sq (reg (pr 1 hf rfl rfl fun a hf => ?_))
 refine wl_end (then_n (sq (sq (reg (pr 1 hf rfl rfl fun a hf => ?_)))))
 refine wl_end (then_n ?_)
 obtain ⟨out', hB1, hF⟩ := bind_some hF
 have hf := hf.prune [0, 1, 5] rfl
 have H := H.let [] [] [] [0]
 refine loopC (fun (s : Int) (a : Act) (w : World) => match s with | i => Fr a 19 [(0, (.slice A list.length c)), (1, (.string name)), (5, (.int .i64 i))] ∧ Mem ⟨w0, []⟩ S [] [] [] [(false, MP.val [(.slice A list.length c)] (list : List ByteArray))] w) (fun k (s : Int) => spec_l2Find_L1 fu list name k s = some out') (fun s => out' = Out.next s) 0 fu hB1 ⟨hf, H⟩ (fun s h => by cases h) ?_ ?_
 ·rintro fk i a w hR1 hI
  replace hR1 : spec_l2Find_L1 fu list name (fk + 1) i = some out' := hR1
  rw [spec_l2Find_L1] at hR1
  obtain ⟨hf, H⟩ := hI
  refine sq (sq (reg (pr 4 hf rfl rfl fun a hf => ?_)))
  refine wl_end (then_n (iteB hR1 (fun hc hR1 => cd_t hf rfl hc ?_) fun hc hR1 => cd_f hf rfl hc ?_))
  ·refine wp_skip (then_n (sq (wp_block (sq (reg (pr 2 hf rfl rfl fun a hf => ?_))))))
   obtain ⟨e, he, hR1⟩ := bind_some hR1
   refine wl0 rfl (op_iaddr hf H Try.underlying22 TF.sz9 0 rfl rfl rfl he (by decide) fun p o cs a hf hr H => ?_)
   obtain rfl := hr
   refine wl0 rfl (op_q hf (rq_loadI hf H TF.ls9 0 0 rfl rfl rfl) rfl (by decide) fun a hf => ?_)
   refine pr 2 hf rfl rfl fun a hf => ?_
   refine wl_end (then_n (iteB hR1 (fun hc2 hR1 => cd_t hf rfl hc2 ?_) fun hc2 hR1 => cd_f hf rfl hc2 ?_))
   ·refine sq (reg (pr 2 hf rfl rfl fun a hf => ?_))
    have hf := hf.prune [4] rfl
    refine wl_end (then_n (wp_ret (blk_r (then_r (then_r (blk_r (then_r (then_r (?_)))))))))
    obtain rfl := Option.some.inj hR1
    replace hF := on_ret hF
    obtain rfl := Option.some.inj hF
    refine ret_1 (fn := Try.f87) (r := .tmp 4) hf rfl (rv_tmp hf rfl) ?_
    exact ⟨_, rfl, H.bel, mk_int⟩
   ·refine wp_skip (blk_n (then_n (reg (pr 3 hf rfl rfl fun a hf => ?_))))
    refine wl_end ?_
    have hf := hf.prune [0, 1, 5] rfl
    have H := H.let [] [] [] [1]
    exact then_n ⟨w64 (i + 1), hR1, hf, H⟩
  ·refine wp_exit (then_x (then_x (blk_e (?_))))
   have hf := hf.prune [0, 1, 5] rfl
   have H := H.let [] [] [] [0]
   exact ⟨i, (Option.some.inj hR1).symm, hf, H⟩
 rintro a w ⟨i2, rfl, hf, H⟩
 replace hF := on_next hF
 refine then_n (sq (reg (pr 1 hf rfl rfl fun a hf => ?_)))
 refine wl_end (then_n (wp_ret (?_)))
 obtain rfl := Option.some.inj hF
 refine ret_1 (fn := Try.f87) (r := .tmp 4) hf rfl (rv_tmp hf rfl) ?_
 exact ⟨_, rfl, H.bel, mk_int⟩

/- loop.example/g00897/spec.l2Fiber -/
set_option maxHeartbeats 1000000 in
theorem spec_l2Fiber_ok {fu : Nat} {w0 : World} {S : Nat → Prop} {v0_ : Value} {v1_ : Value} {f : Fiber} {nodes : Int} {r : Bool} (h0 : VR w0 S v0_ f) (h1 : VR w0 S v1_ nodes) (hF : spec_l2Fiber fu f nodes = some r) :
    Calls Try.prog 88 [v0_, v1_].toArray w0 fun e w' => ∃ v, e = .returned v ∧ (Below w0.heap.size w0 w' ∧ VR w' (St ⟨w0, []⟩ S [] [] [] true) v r) := by
 obtain rfl := Fiber_open h0
 obtain rfl := VR_int h1
 have H := Mem.start ⟨w0, []⟩ S
 refine enter Try.func88 rfl rfl (nle rfl) rfl fun a hf => ?_
 rw [spec_l2Fiber] at hF
 refine sq (reg (wl0 rfl (op_box hf H rfl rfl (by decide) fun b' a w hf H => ?_)))
 refine pr 1 hf rfl rfl fun a hf => ?_
 refine wl_end (then_n (sq ?_))
 obtain ⟨c, hGc, hF⟩ := bind_some hF
 have fh := hf.prune [] rfl
 have Hm := H.let [false] [] [] []
 refine midF 4 (.bool c) fh Hm ?_ fun a w hf H => ?_
 ·refine reg (pr 1 hf rfl rfl fun a hf => ?_)
  refine wl0 rfl (op_q hf (rq_loadB hf H TF.ls3 0 rfl rfl rfl) rfl (by decide) fun a hf => ?_)
  refine pr 2 hf rfl rfl fun a hf => ?_
  obtain ⟨y, hy, hGc⟩ := bind_some hGc
  refine wl0 rfl (op_call hf TF.cl46 rfl (by decide) (spec_l1In_ok (S := fun _ => True) mk_int mk_int mk_int hy) fun v w a hp hf => ?_)
  obtain ⟨hb, hp⟩ := hp
  obtain rfl := VR_bool hp
  have H := H.keep hb
  refine pr 1 hf rfl rfl fun a hf => ?_
  refine iteB hGc (fun hc hGc => ?_) fun hc hGc => ?_
  ·have hf := hf.lit 10 rfl hc
   refine pr 1 hf rfl rfl fun a hf => ?_
   refine wlg hf rfl rfl rfl (op_q hf (rq_loadB hf H TF.ls3 0 rfl rfl rfl) rfl (by decide) fun a hf => ?_)
   refine pr 1 hf rfl rfl fun a hf => ?_
   refine wlg hf rfl rfl rfl (op_q hf (rq_loadB hf H TF.ls3 0 rfl rfl rfl) rfl (by decide) fun a hf => ?_)
   refine pr 3 hf rfl rfl fun a hf => ?_
   obtain ⟨y2, hy2, hGc⟩ := bind_some hGc
   refine wlg hf rfl rfl rfl (op_call hf TF.cl46 rfl (by decide) (spec_l1In_ok (S := fun _ => True) mk_int mk_int mk_int hy2) fun v2 w a hp2 hf => ?_)
   obtain ⟨hb2, hp2⟩ := hp2
   obtain rfl := VR_bool hp2
   have H := H.keep hb2
   refine pr 2 hf rfl rfl fun a hf => ?_
   refine iteB hGc (fun hc2 hGc => ?_) fun hc2 hGc => ?_
   ·have hf := hf.lit 20 rfl hc2
    refine pr 1 hf rfl rfl fun a hf => ?_
    refine wlg hf rfl rfl rfl (op_q hf (rq_loadB hf H TF.ls3 0 rfl rfl rfl) rfl (by decide) fun a hf => ?_)
    obtain ⟨y3, hy3, hGc⟩ := bind_some hGc
    refine wlg hf rfl rfl rfl (op_call hf TF.cl46 rfl (by decide) (spec_l1In_ok (S := fun _ => True) mk_int mk_int mk_int hy3) fun v3 w a hp3 hf => ?_)
    obtain ⟨hb3, hp3⟩ := hp3
    obtain rfl := VR_bool hp3
    have H := H.keep hb3
    refine pr 2 hf rfl rfl fun a hf => ?_
    refine iteB hGc (fun hc3 hGc => ?_) fun hc3 hGc => ?_
    ·have hf := hf.lit 25 rfl hc3
     refine pr 1 hf rfl rfl fun a hf => ?_
     refine wlg hf rfl rfl rfl (op_q hf (rq_loadB hf H TF.ls3 0 rfl rfl rfl) rfl (by decide) fun a hf => ?_)
     obtain ⟨y4, hy4, hGc⟩ := bind_some hGc
     refine wlg hf rfl rfl rfl (op_call hf TF.cl46 rfl (by decide) (spec_l1In_ok (S := fun _ => True) mk_int mk_int mk_int hy4) fun v4 w a hp4 hf => ?_)
     obtain ⟨hb4, hp4⟩ := hp4
     obtain rfl := VR_bool hp4
     have H := H.keep hb4
     refine pr 2 hf rfl rfl fun a hf => ?_
     obtain rfl := Option.some.inj hGc
     have hf := hf.prune [4] rfl
     have H := H.let [false] [] [] []
     exact wl_end ⟨hf, H⟩
    ·have hf := hf.lit 25 rfl hc3
     refine pr 5 hf rfl rfl fun a hf => ?_
     obtain rfl := Option.some.inj hGc
     have hf := hf.prune [4] rfl
     have H := H.let [false] [] [] []
     exact wl_end ⟨hf, H⟩
   ·have hf := hf.lit 20 rfl hc2
    refine pr 10 hf rfl rfl fun a hf => ?_
    obtain rfl := Option.some.inj hGc
    have hf := hf.prune [4] rfl
    have H := H.let [false] [] [] []
    exact wl_end ⟨hf, H⟩
  ·have hf := hf.lit 10 rfl hc
   refine pr 20 hf rfl rfl fun a hf => ?_
   obtain rfl := Option.some.inj hGc
   have hf := hf.prune [4] rfl
   have H := H.let [false] [] [] []
   exact wl_end ⟨hf, H⟩
 refine then_n (wp_ret (?_))
 obtain rfl := Option.some.inj hF
 refine ret_1 (fn := Try.f88) (r := .tmp 4) hf rfl (rv_tmp hf rfl) ?_
 exact ⟨_, rfl, H.bel, mk_bool⟩

/- loop.example/g00897/spec.l2Before -/
set_option maxHeartbeats 1000000 in
theorem spec_l2Before_ok {fu : Nat} {w0 : World} {S : Nat → Prop} {v0_ : Value} {v1_ : Value} {f : Fiber} {g' : Fiber} {r : Int} (h0 : VR w0 S v0_ f) (h1 : VR w0 S v1_ g') (hF : spec_l2Before fu f g' = some r) :
    Calls Try.prog 89 [v0_, v1_].toArray w0 fun e w' => ∃ v, e = .returned v ∧ (Below w0.heap.size w0 w' ∧ VR w' (St ⟨w0, []⟩ S [] [] [] true) v r) := by
 obtain rfl := Fiber_open h0
 obtain rfl := Fiber_open h1
 have H := Mem.start ⟨w0, []⟩ S
 refine enter Try.func89 rfl rfl (nle rfl) rfl fun a hf => ?_
 rw [spec_l2Before] at hF
 refine sq (reg (wl0 rfl (op_box hf H rfl rfl (by decide) fun b' a w hf H => ?_)))
 refine wl0 rfl (op_box hf H rfl rfl (by decide) fun b2 a w hf H => ?_)
 refine pr 1 hf rfl rfl fun a hf => ?_
 refine wl_end (then_n (sq (wp_block (sq (reg (pr 1 hf rfl rfl fun a hf => ?_))))))
 refine wl0 rfl (op_q hf (rq_loadB hf H TF.ls3 1 rfl rfl rfl) rfl (by decide) fun a hf => ?_)
 refine pr 1 hf rfl rfl fun a hf => ?_
 refine wl0 rfl (op_q hf (rq_loadB hf H TF.ls3 0 rfl rfl rfl) rfl (by decide) fun a hf => ?_)
 refine pr 2 hf rfl rfl fun a hf => ?_
 refine wl_end (then_n (iteB hF (fun hc hF => cd_t hf rfl hc ?_) fun hc hF => cd_f hf rfl hc ?_))
 ·refine sq (reg (pr 1 hf rfl rfl fun a hf => ?_))
  refine wl0 rfl (op_q hf (rq_loadB hf H TF.ls3 1 rfl rfl rfl) rfl (by decide) fun a hf => ?_)
  refine pr 1 hf rfl rfl fun a hf => ?_
  refine wl0 rfl (op_q hf (rq_loadB hf H TF.ls3 0 rfl rfl rfl) rfl (by decide) fun a hf => ?_)
  refine pr 2 hf rfl rfl fun a hf => ?_
  have hf := hf.prune [4] rfl
  refine wl_end (then_n (wp_ret (blk_r (then_r (?_)))))
  obtain rfl := Option.some.inj hF
  refine ret_1 (fn := Try.f89) (r := .tmp 4) hf rfl (rv_tmp hf rfl) ?_
  exact ⟨_, rfl, H.bel, mk_int⟩
 ·refine sq (reg (pr 1 hf rfl rfl fun a hf => ?_))
  refine wl0 rfl (op_q hf (rq_loadB hf H TF.ls3 1 rfl rfl rfl) rfl (by decide) fun a hf => ?_)
  refine pr 1 hf rfl rfl fun a hf => ?_
  refine wl0 rfl (op_q hf (rq_loadB hf H TF.ls3 0 rfl rfl rfl) rfl (by decide) fun a hf => ?_)
  refine pr 2 hf rfl rfl fun a hf => ?_
  have hf := hf.prune [2, 3, 16] rfl
  refine wl_end (then_n (iteB hF (fun hc2 hF => cd_t hf rfl hc2 ?_) fun hc2 hF => cd_f hf rfl hc2 ?_))
  ·refine sq (reg (pr 1 hf rfl rfl fun a hf => ?_))
   refine wl0 rfl (op_q hf (rq_loadB hf H TF.ls3 1 rfl rfl rfl) rfl (by decide) fun a hf => ?_)
   refine pr 1 hf rfl rfl fun a hf => ?_
   refine wl0 rfl (op_q hf (rq_loadB hf H TF.ls3 0 rfl rfl rfl) rfl (by decide) fun a hf => ?_)
   refine pr 2 hf rfl rfl fun a hf => ?_
   refine wl_end (then_n (wp_ret (blk_r (then_r (?_)))))
   obtain rfl := Option.some.inj hF
   refine ret_1 (fn := Try.f89) (r := .tmp 4) hf rfl (rv_tmp hf rfl) ?_
   exact ⟨_, rfl, H.bel, mk_int⟩
  ·refine sq (reg (pr 1 hf rfl rfl fun a hf => ?_))
   refine wl0 rfl (op_q hf (rq_loadB hf H TF.ls3 1 rfl rfl rfl) rfl (by decide) fun a hf => ?_)
   refine pr 1 hf rfl rfl fun a hf => ?_
   refine wl0 rfl (op_q hf (rq_loadB hf H TF.ls3 0 rfl rfl rfl) rfl (by decide) fun a hf => ?_)
   refine pr 2 hf rfl rfl fun a hf => ?_
   refine wl_end (then_n (iteB hF (fun hc3 hF => cd_t hf rfl hc3 ?_) fun hc3 hF => cd_f hf rfl hc3 ?_))
   ·refine sq (reg (pr 1 hf rfl rfl fun a hf => ?_))
    refine wl0 rfl (op_q hf (rq_loadB hf H TF.ls3 1 rfl rfl rfl) rfl (by decide) fun a hf => ?_)
    refine pr 1 hf rfl rfl fun a hf => ?_
    refine wl0 rfl (op_q hf (rq_loadB hf H TF.ls3 0 rfl rfl rfl) rfl (by decide) fun a hf => ?_)
    refine pr 2 hf rfl rfl fun a hf => ?_
    have hf := hf.prune [4] rfl
    refine wl_end (then_n (wp_ret (blk_r (then_r (?_)))))
    obtain rfl := Option.some.inj hF
    refine ret_1 (fn := Try.f89) (r := .tmp 4) hf rfl (rv_tmp hf rfl) ?_
    exact ⟨_, rfl, H.bel, mk_int⟩
   ·refine wp_skip (blk_n (then_n (sq (reg (pr 1 hf rfl rfl fun a hf => ?_)))))
    refine wl0 rfl (op_q hf (rq_loadB hf H TF.ls3 1 rfl rfl rfl) rfl (by decide) fun a hf => ?_)
    refine pr 1 hf rfl rfl fun a hf => ?_
    refine wl0 rfl (op_q hf (rq_loadB hf H TF.ls3 0 rfl rfl rfl) rfl (by decide) fun a hf => ?_)
    refine pr 2 hf rfl rfl fun a hf => ?_
    have hf := hf.prune [4] rfl
    refine wl_end (then_n (wp_ret (?_)))
    obtain rfl := Option.some.inj hF
    refine ret_1 (fn := Try.f89) (r := .tmp 4) hf rfl (rv_tmp hf rfl) ?_
    exact ⟨_, rfl, H.bel, mk_int⟩

/- loop.example/g00897/spec.l2Good -/
set_option maxHeartbeats 1000000 in
theorem spec_l2Good_ok {fu : Nat} {w0 : World} {S : Nat → Prop} {v0_ : Value} {n' : Network} {r : Bool} (h0 : VR w0 S v0_ n') (hF : spec_l2Good fu n' = some r) :
    Calls Try.prog 44 [v0_].toArray w0 fun e w' => ∃ v, e = .returned v ∧ (Below w0.heap.size w0 w' ∧ VR w' (St ⟨w0, []⟩ S [] [] [] true) v r) := by
 obtain ⟨A, c, A2, c2, rfl, hl, hl2⟩ := Network_open h0
 have H := Mem.start ⟨w0, []⟩ S
 have H := H.pushArg (MP.val [(.slice A n'.Nodes.length c)] n'.Nodes) hl
 have H := H.pushArg (MP.val [(.slice A2 n'.Fibers.length c2)] n'.Fibers) hl2
 refine enter Try.func44 rfl rfl (nle rfl) rfl fun a hf => ?_
 rw [spec_l2Good] at hF
 refine sq (reg (wl0 rfl (op_box hf H rfl rfl (by decide) fun b' a w hf H => ?_)))
 refine pr 1 hf rfl rfl fun a hf => ?_
 refine wl_end (then_n (sq (sq ?_)))
 obtain ⟨c3, hGc3, hF⟩ := bind_some hF
 have fh := hf.prune [1] rfl
 have Hm := H.let [true] [] [] [0, 1]
 refine midF 15 (.bool c3) fh Hm ?_ fun a w hf H => ?_
 ·refine reg (pr 1 hf rfl rfl fun a hf => ?_)
  refine wl0 rfl (op_q hf (rq_loadB hf H TF.ls22 0 rfl rfl rfl) rfl (by decide) fun a hf => ?_)
  refine pr 1 hf rfl rfl fun a hf => ?_
  obtain ⟨y, hy, hGc3⟩ := bind_some hGc3
  refine wl0 rfl (op_call hf TF.cl46 rfl (by decide) (spec_l1In_ok (S := fun _ => True) mk_int mk_int mk_int hy) fun v w a hp hf => ?_)
  obtain ⟨hb, hp⟩ := hp
  obtain rfl := VR_bool hp
  have H := H.keep hb
  refine pr 2 hf rfl rfl fun a hf => ?_
  refine iteB hGc3 (fun hc hGc3 => ?_) fun hc hGc3 => ?_
  ·have hf := hf.lit 10 rfl hc
   refine pr 5 hf rfl rfl fun a hf => ?_
   obtain rfl := Option.some.inj hGc3
   have hf := hf.prune [15, 1] rfl
   have H := H.let [true] [] [] [0, 1]
   exact wl_end ⟨hf, H⟩
  ·have hf := hf.lit 10 rfl hc
   refine pr 1 hf rfl rfl fun a hf => ?_
   refine wlg hf rfl rfl rfl (op_q hf (rq_loadB hf H TF.ls30 0 rfl rfl rfl) rfl (by decide) fun a hf => ?_)
   refine pr 3 hf rfl rfl fun a hf => ?_
   obtain rfl := Option.some.inj hGc3
   have hf := hf.prune [15, 1] rfl
   have H := H.let [true] [] [] [0, 1]
   exact wl_end ⟨hf, H⟩
 refine then_n (iteB hF (fun hc2 hF => cd_t hf rfl hc2 ?_) fun hc2 hF => cd_f hf rfl hc2 ?_)
 ·refine sq (reg (pr 1 hf rfl rfl fun a hf => ?_))
  refine wl_end (then_n (wp_ret (then_r (?_))))
  obtain rfl := Option.some.inj hF
  refine ret_1 (fn := Try.f44) (r := .tmp 2) hf rfl (rv_tmp hf rfl) ?_
  exact ⟨_, rfl, H.bel, mk_bool⟩
 ·refine wp_skip (then_n (sq (sq (reg (pr 1 hf rfl rfl fun a hf => ?_)))))
  refine wl_end (then_n ?_)
  obtain ⟨out', hB1, hF⟩ := bind_some hF
  have hf := hf.prune [1, 3] rfl
  have H := H.let [true] [] [] [0, 1]
  refine loopC (fun (s : Int) (a : Act) (w : World) => match s with | i => Fr a 78 [(1, (.pointer (some ⟨b', 0, none⟩))), (3, (.int .i64 i))] ∧ Mem ⟨w0, []⟩ S [⟨b', 32, [(.slice A n'.Nodes.length c), (.slice A2 n'.Fibers.length c2)]⟩] [] [] [(false, MP.val [(.slice A2 n'.Fibers.length c2)] (n'.Fibers : List Fiber)), (false, MP.val [(.slice A n'.Nodes.length c)] (n'.Nodes : List ByteArray))] w) (fun k (s : Int) => spec_l2Good_L1 fu n' k s = some out') (fun s => out' = Out.next s) 0 fu hB1 ⟨hf, H⟩ (fun s h => by cases h) ?_ ?_
  ·rintro fk i a w hR1 hI
   replace hR1 : spec_l2Good_L1 fu n' (fk + 1) i = some out' := hR1
   rw [spec_l2Good_L1] at hR1
   obtain ⟨hf, H⟩ := hI
   refine sq (sq (reg (pr 2 hf rfl rfl fun a hf => ?_)))
   refine wl0 rfl (op_q hf (rq_loadB hf H TF.ls22 0 rfl rfl rfl) rfl (by decide) fun a hf => ?_)
   refine pr 2 hf rfl rfl fun a hf => ?_
   refine wl_end (then_n (iteB hR1 (fun hc3 hR1 => cd_t hf rfl hc3 ?_) fun hc3 hR1 => cd_f hf rfl hc3 ?_))
   ·refine wp_skip (then_n (sq (wp_block (sq ?_))))
    obtain ⟨c4, hGc4, hR1⟩ := bind_some hR1
    have fh2 := hf.prune [1, 3] rfl
    have Hm2 := H.let [true] [] [] [0, 1]
    refine midF 41 (.bool c4) fh2 Hm2 ?_ fun a w hf H => ?_
    ·refine drawn [] (bs := [false, false, false, false, false, false, false, false, false, false, false, false, false, false, false, false, false, false, false]) (fuel := 19) (Checked.mixed Try.checked) rfl rfl fun w hb => ?_
     have H := H.keep hb
     refine tp 0 rfl rfl hf (by kernel_rfl) (fun _ => trivial) rfl fun a hf => ?_
     refine strT H (fun w H => trivial) fun hS => ?_
     refine tS 1 [] rfl rfl rfl rfl hf (by kernel_rfl) (by kernel_rfl) hS (fun w H => rq_loadB hf H TF.ls22 0 rfl rfl rfl) fun a hf => ?_
     refine tp 2 rfl rfl hf (by kernel_rfl) (fun _ => hS) rfl fun a hf => ?_
     obtain ⟨e, he, hGc4⟩ := bind_some hGc4
     obtain ⟨p, o, cs, hx, hr, H⟩ := pre_iaddr H Try.underlying22 TF.sz9 1 rfl he
     refine tP 3 rfl rfl rfl rfl hf (by kernel_rfl) (fun _ => hS) (fun w => rq_iaddrE hf rfl rfl rfl hx w) fun a hf => ?_
     obtain rfl := hr
     refine strT H (fun w H => H.let [true] [] [] [1, 2]) fun hS => ?_
     refine tS 4 [] rfl rfl rfl rfl hf (by kernel_rfl) (by kernel_rfl) hS (fun w H => rq_loadI hf H TF.ls9 0 0 rfl rfl rfl) fun a hf => ?_
     obtain ⟨y2, hy2, hGc4⟩ := bind_some hGc4
     refine n1 5 (by kernel_rfl) rfl rfl (op_call hf TF.cl86 rfl (by decide) (spec_l2Name_ok (S := fun _ => True) mk_str hy2) fun v2 w a hp2 hf => ?_)
     obtain ⟨hb2, hp2⟩ := hp2
     obtain rfl := VR_bool hp2
     have H := H.keep hb2
     have hS := H
     refine ⟨fun _ => hS, ?_⟩
     refine tp 6 rfl rfl hf (by kernel_rfl) (fun _ => hS) rfl fun a hf => ?_
     refine tp 7 rfl rfl hf (by kernel_rfl) (fun _ => hS) rfl fun a hf => ?_
     refine iteB hGc4 (fun hc4 hGc4 => ?_) fun hc4 hGc4 => ?_
     ·have hf := hf.lit 30 rfl hc4
      refine tU 8 rfl rfl rfl rfl rfl rfl rfl hf (by kernel_rfl) (fun _ => hS) fun a hf => ?_
      refine tU 9 rfl rfl rfl rfl rfl rfl rfl hf (by kernel_rfl) (fun _ => hS) fun a hf => ?_
      refine tU 10 rfl rfl rfl rfl rfl rfl rfl hf (by kernel_rfl) (fun _ => hS) fun a hf => ?_
      refine tU 11 rfl rfl rfl rfl rfl rfl rfl hf (by kernel_rfl) (fun _ => hS) fun a hf => ?_
      refine tU 12 rfl rfl rfl rfl rfl rfl rfl hf (by kernel_rfl) (fun _ => hS) fun a hf => ?_
      refine tU 13 rfl rfl rfl rfl rfl rfl rfl hf (by kernel_rfl) (fun _ => hS) fun a hf => ?_
      refine tU 14 rfl rfl rfl rfl rfl rfl rfl hf (by kernel_rfl) (fun _ => hS) fun a hf => ?_
      refine tU 15 rfl rfl rfl rfl rfl rfl rfl hf (by kernel_rfl) (fun _ => hS) fun a hf => ?_
      refine tU 16 rfl rfl rfl rfl rfl rfl rfl hf (by kernel_rfl) (fun _ => hS) fun a hf => ?_
      refine tU 17 rfl rfl rfl rfl rfl rfl rfl hf (by kernel_rfl) (fun _ => hS) fun a hf => ?_
      refine tp 18 rfl rfl hf (by kernel_rfl) (fun _ => hS) rfl fun a hf => ?_
      refine dn (by kernel_rfl) ?_
      obtain rfl := Option.some.inj hGc4
      have hf := hf.prune [41, 1, 3] rfl
      have H := H.let [true] [] [] [1, 2]
      exact ⟨hf, H⟩
     ·have hf := hf.lit 30 rfl hc4
      refine tpg 8 rfl rfl rfl rfl hf (by kernel_rfl) (fun _ => hS) rfl fun a hf => ?_
      refine tSg 9 [] rfl rfl rfl rfl rfl rfl hf (by kernel_rfl) (by kernel_rfl) hS (fun w H => rq_loadB hf H TF.ls22 0 rfl rfl rfl) fun a hf => ?_
      refine tpg 10 rfl rfl rfl rfl hf (by kernel_rfl) (fun _ => hS) rfl fun a hf => ?_
      refine tSg 11 [] rfl rfl rfl rfl rfl rfl hf (by kernel_rfl) (by kernel_rfl) hS (fun w H => rq_loadB hf H TF.ls22 0 rfl rfl rfl) fun a hf => ?_
      refine tpg 12 rfl rfl rfl rfl hf (by kernel_rfl) (fun _ => hS) rfl fun a hf => ?_
      obtain ⟨e2, he2, hGc4⟩ := bind_some hGc4
      obtain ⟨p2, o2, cs2, hx2, hr2, H⟩ := pre_iaddr H Try.underlying22 TF.sz9 2 rfl he2
      refine tPg 13 rfl rfl rfl rfl rfl rfl hf (by kernel_rfl) (fun _ => hS) (fun w => rq_iaddrE hf rfl rfl rfl hx2 w) fun a hf => ?_
      obtain rfl := hr2
      refine strT H (fun w H => H.let [true] [] [] [1, 2, 3]) fun hS => ?_
      refine tSg 14 [] rfl rfl rfl rfl rfl rfl hf (by kernel_rfl) (by kernel_rfl) hS (fun w H => rq_loadI hf H TF.ls9 0 0 rfl rfl rfl) fun a hf => ?_
      refine tpg 16 rfl rfl rfl rfl hf (by kernel_rfl) (fun _ => hS) rfl fun a hf => ?_
      obtain ⟨y3, hy3, hGc4⟩ := bind_some hGc4
      refine n1g 15 (by kernel_rfl) rfl rfl rfl rfl hf (op_call hf TF.cl87 rfl (by decide) (spec_l2Find_ok (S := fun _ => True) (mk_list (rep_true (α := List ByteArray) (H.get 3 rfl))) mk_str hy3) fun v3 w a hp3 hf => ?_)
      obtain ⟨hb3, hp3⟩ := hp3
      obtain rfl := VR_int hp3
      have H := H.keep hb3
      have hS := H
      refine ⟨fun _ => hS, ?_⟩
      refine tpg 17 rfl rfl rfl rfl hf (by kernel_rfl) (fun _ => hS) rfl fun a hf => ?_
      refine tp 18 rfl rfl hf (by kernel_rfl) (fun _ => hS) rfl fun a hf => ?_
      refine dn (by kernel_rfl) ?_
      obtain rfl := Option.some.inj hGc4
      have hf := hf.prune [41, 1, 3] rfl
      have H := H.let [true] [] [] [2, 3]
      exact ⟨hf, H⟩
    refine then_n (iteB hR1 (fun hc5 hR1 => cd_t hf rfl hc5 ?_) fun hc5 hR1 => cd_f hf rfl hc5 ?_)
    ·refine sq (reg (pr 1 hf rfl rfl fun a hf => ?_))
     refine wl_end (then_n (wp_ret (blk_r (then_r (then_r (blk_r (then_r (then_r (?_)))))))))
     obtain rfl := Option.some.inj hR1
     replace hF := on_ret hF
     obtain rfl := Option.some.inj hF
     refine ret_1 (fn := Try.f44) (r := .tmp 2) hf rfl (rv_tmp hf rfl) ?_
     exact ⟨_, rfl, H.bel, mk_bool⟩
    ·refine wp_skip (blk_n (then_n (reg (pr 3 hf rfl rfl fun a hf => ?_))))
     refine wl_end ?_
     have hf := hf.prune [1, 3] rfl
     have H := H.let [true] [] [] [0, 1]
     exact then_n ⟨w64 (i + 1), hR1, hf, H⟩
   ·refine wp_exit (then_x (then_x (blk_e (?_))))
    have hf := hf.prune [1, 3] rfl
    have H := H.let [true] [] [] [0, 1]
    exact ⟨i, (Option.some.inj hR1).symm, hf, H⟩
  rintro a w ⟨i2, rfl, hf, H⟩
  replace hF := on_next hF
  refine then_n (sq (sq (reg (pr 1 hf rfl rfl fun a hf => ?_))))
  refine wl_end (then_n ?_)
  obtain ⟨out2, hB1, hF⟩ := bind_some hF
  have hf := hf.prune [1, 4] rfl
  have H := H.let [true] [] [] [0, 1]
  refine loopC (fun (s : Int) (a : Act) (w : World) => match s with | i3 => Fr a 78 [(1, (.pointer (some ⟨b', 0, none⟩))), (4, (.int .i64 i3))] ∧ Mem ⟨w0, []⟩ S [⟨b', 32, [(.slice A n'.Nodes.length c), (.slice A2 n'.Fibers.length c2)]⟩] [] [] [(false, MP.val [(.slice A2 n'.Fibers.length c2)] (n'.Fibers : List Fiber)), (false, MP.val [(.slice A n'.Nodes.length c)] (n'.Nodes : List ByteArray))] w) (fun k (s : Int) => spec_l2Good_L2 fu n' k s = some out2) (fun s => out2 = Out.next s) 0 fu hB1 ⟨hf, H⟩ (fun s h => by cases h) ?_ ?_
  ·rintro fk i3 a w hR1 hI
   replace hR1 : spec_l2Good_L2 fu n' (fk + 1) i3 = some out2 := hR1
   rw [spec_l2Good_L2] at hR1
   obtain ⟨hf, H⟩ := hI
   refine sq (sq (reg (pr 2 hf rfl rfl fun a hf => ?_)))
   refine wl0 rfl (op_q hf (rq_loadB hf H TF.ls30 0 rfl rfl rfl) rfl (by decide) fun a hf => ?_)
   refine pr 2 hf rfl rfl fun a hf => ?_
   refine wl_end (then_n (iteB hR1 (fun hc6 hR1 => cd_t hf rfl hc6 ?_) fun hc6 hR1 => cd_f hf rfl hc6 ?_))
   ·refine wp_skip (then_n (sq (wp_block (sq ?_))))
    obtain ⟨c5, hGc5, hR1⟩ := bind_some hR1
    have fh3 := hf.prune [1, 4] rfl
    have Hm3 := H.let [true] [] [] [0, 1]
    refine midF 77 (.bool c5) fh3 Hm3 ?_ fun a w hf H => ?_
    ·refine drawn [] (bs := [false, false, false, false, false, false, false, false, false, false, false, false, false, false, false, false, false, false, false, false, false, false, false, false, false, false, false, false, false]) (fuel := 29) (Checked.mixed Try.checked) rfl rfl fun w hb => ?_
     have H := H.keep hb
     refine tp 0 rfl rfl hf (by kernel_rfl) (fun _ => trivial) rfl fun a hf => ?_
     refine strT H (fun w H => trivial) fun hS => ?_
     refine tS 1 [] rfl rfl rfl rfl hf (by kernel_rfl) (by kernel_rfl) hS (fun w H => rq_loadB hf H TF.ls30 0 rfl rfl rfl) fun a hf => ?_
     refine tp 2 rfl rfl hf (by kernel_rfl) (fun _ => hS) rfl fun a hf => ?_
     obtain ⟨e3, he3, hGc5⟩ := bind_some hGc5
     obtain ⟨p3, o3, cs3, hx3, hr3, H⟩ := pre_iaddr H Try.underlying30 TF.sz83 0 rfl he3
     refine tP 3 rfl rfl rfl rfl hf (by kernel_rfl) (fun _ => hS) (fun w => rq_iaddrE hf rfl rfl rfl hx3 w) fun a hf => ?_
     obtain rfl := Fiber_cells hr3
     refine strT H (fun w H => H.let [true] [] [] [1, 2]) fun hS => ?_
     refine tS 4 [] rfl rfl rfl rfl hf (by kernel_rfl) (by kernel_rfl) hS (fun w H => rq_loadIN hf H TF.la83 0 0 rfl rfl rfl rfl) fun a hf => ?_
     refine tp 5 rfl rfl hf (by kernel_rfl) (fun _ => hS) rfl fun a hf => ?_
     refine tS 6 [] rfl rfl rfl rfl hf (by kernel_rfl) (by kernel_rfl) hS (fun w H => rq_loadB hf H TF.ls22 0 rfl rfl rfl) fun a hf => ?_
     refine tp 7 rfl rfl hf (by kernel_rfl) (fun _ => hS) rfl fun a hf => ?_
     obtain ⟨y4, hy4, hGc5⟩ := bind_some hGc5
     refine n1 8 (by kernel_rfl) rfl rfl (op_call hf TF.cl88 rfl (by decide) (spec_l2Fiber_ok (S := fun _ => True) Fiber_mkv mk_int hy4) fun v4 w a hp4 hf => ?_)
     obtain ⟨hb4, hp4⟩ := hp4
     obtain rfl := VR_bool hp4
     have H := H.keep hb4
     have hS := H
     refine ⟨fun _ => hS, ?_⟩
     refine tp 9 rfl rfl hf (by kernel_rfl) (fun _ => hS) rfl fun a hf => ?_
     refine tp 10 rfl rfl hf (by kernel_rfl) (fun _ => hS) rfl fun a hf => ?_
     refine iteB hGc5 (fun hc7 hGc5 => ?_) fun hc7 hGc5 => ?_
     ·have hf := hf.lit 59 rfl hc7
      refine tU 11 rfl rfl rfl rfl rfl rfl rfl hf (by kernel_rfl) (fun _ => hS) fun a hf => ?_
      refine tU 12 rfl rfl rfl rfl rfl rfl rfl hf (by kernel_rfl) (fun _ => hS) fun a hf => ?_
      refine tU 13 rfl rfl rfl rfl rfl rfl rfl hf (by kernel_rfl) (fun _ => hS) fun a hf => ?_
      refine tUU 14 rfl rfl rfl rfl rfl rfl hf (by kernel_rfl) (fun _ => hS) fun a hf => ?_
      refine tUU 15 rfl rfl rfl rfl rfl rfl hf (by kernel_rfl) (fun _ => hS) fun a hf => ?_
      refine tUU 16 rfl rfl rfl rfl rfl rfl hf (by kernel_rfl) (fun _ => hS) fun a hf => ?_
      refine tUU 17 rfl rfl rfl rfl rfl rfl hf (by kernel_rfl) (fun _ => hS) fun a hf => ?_
      refine tUU 18 rfl rfl rfl rfl rfl rfl hf (by kernel_rfl) (fun _ => hS) fun a hf => ?_
      refine tUU 19 rfl rfl rfl rfl rfl rfl hf (by kernel_rfl) (fun _ => hS) fun a hf => ?_
      refine tUU 20 rfl rfl rfl rfl rfl rfl hf (by kernel_rfl) (fun _ => hS) fun a hf => ?_
      refine tUU 21 rfl rfl rfl rfl rfl rfl hf (by kernel_rfl) (fun _ => hS) fun a hf => ?_
      refine tUU 22 rfl rfl rfl rfl rfl rfl hf (by kernel_rfl) (fun _ => hS) fun a hf => ?_
      refine tUU 23 rfl rfl rfl rfl rfl rfl hf (by kernel_rfl) (fun _ => hS) fun a hf => ?_
      refine tUU 24 rfl rfl rfl rfl rfl rfl hf (by kernel_rfl) (fun _ => hS) fun a hf => ?_
      refine tUU 25 rfl rfl rfl rfl rfl rfl hf (by kernel_rfl) (fun _ => hS) fun a hf => ?_
      refine tUU 26 rfl rfl rfl rfl rfl rfl hf (by kernel_rfl) (fun _ => hS) fun a hf => ?_
      refine tU 27 rfl rfl rfl rfl rfl rfl rfl hf (by kernel_rfl) (fun _ => hS) fun a hf => ?_
      refine tp 28 rfl rfl hf (by kernel_rfl) (fun _ => hS) rfl fun a hf => ?_
      refine dn (by kernel_rfl) ?_
      obtain rfl := Option.some.inj hGc5
      have hf := hf.prune [77, 1, 4] rfl
      have H := H.let [true] [] [] [1, 2]
      exact ⟨hf, H⟩
     ·have hf := hf.lit 59 rfl hc7
      refine tpg 11 rfl rfl rfl rfl hf (by kernel_rfl) (fun _ => hS) rfl fun a hf => ?_
      refine tpg 12 rfl rfl rfl rfl hf (by kernel_rfl) (fun _ => hS) rfl fun a hf => ?_
      refine tpg 13 rfl rfl rfl rfl hf (by kernel_rfl) (fun _ => hS) rfl fun a hf => ?_
      refine iteB hGc5 (fun hc8 hGc5 => ?_) fun hc8 hGc5 => ?_
      ·have hf := hf.lit 62 rfl hc8
       refine tpg 14 rfl rfl rfl rfl hf (by kernel_rfl) (fun _ => hS) rfl fun a hf => ?_
       refine tSg 15 [] rfl rfl rfl rfl rfl rfl hf (by kernel_rfl) (by kernel_rfl) hS (fun w H => rq_loadB hf H TF.ls30 0 rfl rfl rfl) fun a hf => ?_
       refine tpg 16 rfl rfl rfl rfl hf (by kernel_rfl) (fun _ => hS) rfl fun a hf => ?_
       refine tpg 17 rfl rfl rfl rfl hf (by kernel_rfl) (fun _ => hS) rfl fun a hf => ?_
       obtain ⟨e4, he4, hGc5⟩ := bind_some hGc5
       obtain ⟨p4, o4, cs4, hx4, hr4, H⟩ := pre_iaddr H Try.underlying30 TF.sz83 1 rfl he4
       refine tPg 18 rfl rfl rfl rfl rfl rfl hf (by kernel_rfl) (fun _ => hS) (fun w => rq_iaddrE hf rfl rfl rfl hx4 w) fun a hf => ?_
       obtain rfl := Fiber_cells hr4
       refine strT H (fun w H => H.let [true] [] [] [1, 2, 3]) fun hS => ?_
       refine tSg 19 [] rfl rfl rfl rfl rfl rfl hf (by kernel_rfl) (by kernel_rfl) hS (fun w H => rq_loadIN hf H TF.la83 0 0 rfl rfl rfl rfl) fun a hf => ?_
       refine tpg 20 rfl rfl rfl rfl hf (by kernel_rfl) (fun _ => hS) rfl fun a hf => ?_
       refine tSg 21 [] rfl rfl rfl rfl rfl rfl hf (by kernel_rfl) (by kernel_rfl) hS (fun w H => rq_loadB hf H TF.ls30 0 rfl rfl rfl) fun a hf => ?_
       refine tpg 22 rfl rfl rfl rfl hf (by kernel_rfl) (fun _ => hS) rfl fun a hf => ?_
       obtain ⟨e5, he5, hGc5⟩ := bind_some hGc5
       obtain ⟨p5, o5, cs5, hx5, hr5, H⟩ := pre_iaddr H Try.underlying30 TF.sz83 2 rfl he5
       refine tPg 23 rfl rfl rfl rfl rfl rfl hf (by kernel_rfl) (fun _ => hS) (fun w => rq_iaddrE hf rfl rfl rfl hx5 w) fun a hf => ?_
       obtain rfl := Fiber_cells hr5
       refine strT H (fun w H => H.let [true] [] [] [1, 2, 3, 4]) fun hS => ?_
       refine tSg 24 [] rfl rfl rfl rfl rfl rfl hf (by kernel_rfl) (by kernel_rfl) hS (fun w H => rq_loadIN hf H TF.la83 0 0 rfl rfl rfl rfl) fun a hf => ?_
       obtain ⟨y5, hy5, hGc5⟩ := bind_some hGc5
       refine n1g 25 (by kernel_rfl) rfl rfl rfl rfl hf (op_call hf TF.cl89 rfl (by decide) (spec_l2Before_ok (S := fun _ => True) Fiber_mkv Fiber_mkv hy5) fun v5 w a hp5 hf => ?_)
       obtain ⟨hb5, hp5⟩ := hp5
       obtain rfl := VR_int hp5
       have H := H.keep hb5
       have hS := H
       refine ⟨fun _ => hS, ?_⟩
       refine tpg 26 rfl rfl rfl rfl hf (by kernel_rfl) (fun _ => hS) rfl fun a hf => ?_
       refine tpg 27 rfl rfl rfl rfl hf (by kernel_rfl) (fun _ => hS) rfl fun a hf => ?_
       refine tp 28 rfl rfl hf (by kernel_rfl) (fun _ => hS) rfl fun a hf => ?_
       refine dn (by kernel_rfl) ?_
       obtain rfl := Option.some.inj hGc5
       have hf := hf.prune [77, 1, 4] rfl
       have H := H.let [true] [] [] [3, 4]
       exact ⟨hf, H⟩
      ·have hf := hf.lit 62 rfl hc8
       refine tU 14 rfl rfl rfl rfl rfl rfl rfl hf (by kernel_rfl) (fun _ => hS) fun a hf => ?_
       refine tU 15 rfl rfl rfl rfl rfl rfl rfl hf (by kernel_rfl) (fun _ => hS) fun a hf => ?_
       refine tU 16 rfl rfl rfl rfl rfl rfl rfl hf (by kernel_rfl) (fun _ => hS) fun a hf => ?_
       refine tU 17 rfl rfl rfl rfl rfl rfl rfl hf (by kernel_rfl) (fun _ => hS) fun a hf => ?_
       refine tU 18 rfl rfl rfl rfl rfl rfl rfl hf (by kernel_rfl) (fun _ => hS) fun a hf => ?_
       refine tU 19 rfl rfl rfl rfl rfl rfl rfl hf (by kernel_rfl) (fun _ => hS) fun a hf => ?_
       refine tU 20 rfl rfl rfl rfl rfl rfl rfl hf (by kernel_rfl) (fun _ => hS) fun a hf => ?_
       refine tU 21 rfl rfl rfl rfl rfl rfl rfl hf (by kernel_rfl) (fun _ => hS) fun a hf => ?_
       refine tU 22 rfl rfl rfl rfl rfl rfl rfl hf (by kernel_rfl) (fun _ => hS) fun a hf => ?_
       refine tU 23 rfl rfl rfl rfl rfl rfl rfl hf (by kernel_rfl) (fun _ => hS) fun a hf => ?_
       refine tU 24 rfl rfl rfl rfl rfl rfl rfl hf (by kernel_rfl) (fun _ => hS) fun a hf => ?_
       refine tU 25 rfl rfl rfl rfl rfl rfl rfl hf (by kernel_rfl) (fun _ => hS) fun a hf => ?_
       refine tU 26 rfl rfl rfl rfl rfl rfl rfl hf (by kernel_rfl) (fun _ => hS) fun a hf => ?_
       refine tpg 27 rfl rfl rfl rfl hf (by kernel_rfl) (fun _ => hS) rfl fun a hf => ?_
       refine tp 28 rfl rfl hf (by kernel_rfl) (fun _ => hS) rfl fun a hf => ?_
       refine dn (by kernel_rfl) ?_
       obtain rfl := Option.some.inj hGc5
       have hf := hf.prune [77, 1, 4] rfl
       have H := H.let [true] [] [] [1, 2]
       exact ⟨hf, H⟩
    refine then_n (iteB hR1 (fun hc9 hR1 => cd_t hf rfl hc9 ?_) fun hc9 hR1 => cd_f hf rfl hc9 ?_)
    ·refine sq (reg (pr 1 hf rfl rfl fun a hf => ?_))
     refine wl_end (then_n (wp_ret (blk_r (then_r (then_r (blk_r (then_r (then_r (?_)))))))))
     obtain rfl := Option.some.inj hR1
     replace hF := on_ret hF
     obtain rfl := Option.some.inj hF
     refine ret_1 (fn := Try.f44) (r := .tmp 2) hf rfl (rv_tmp hf rfl) ?_
     exact ⟨_, rfl, H.bel, mk_bool⟩
    ·refine wp_skip (blk_n (then_n (reg (pr 3 hf rfl rfl fun a hf => ?_))))
     refine wl_end ?_
     have hf := hf.prune [1, 4] rfl
     have H := H.let [true] [] [] [0, 1]
     exact then_n ⟨w64 (i3 + 1), hR1, hf, H⟩
   ·refine wp_exit (then_x (then_x (blk_e (?_))))
    have hf := hf.prune [1, 4] rfl
    have H := H.let [true] [] [] [0, 1]
    exact ⟨i3, (Option.some.inj hR1).symm, hf, H⟩
  rintro a w ⟨i4, rfl, hf, H⟩
  replace hF := on_next hF
  refine then_n (sq (reg (pr 1 hf rfl rfl fun a hf => ?_)))
  refine wl_end (then_n (wp_ret (?_)))
  obtain rfl := Option.some.inj hF
  refine ret_1 (fn := Try.f44) (r := .tmp 2) hf rfl (rv_tmp hf rfl) ?_
  exact ⟨_, rfl, H.bel, mk_bool⟩

/- loop.example/g00897/spec.l2Other -/
set_option maxHeartbeats 1000000 in
theorem spec_l2Other_ok {fu : Nat} {w0 : World} {S : Nat → Prop} {v0_ : Value} {v1_ : Value} {v2_ : Value} {n' : Network} {fiber : Int} {node : Int} {r : Int} (h0 : VR w0 S v0_ n') (h1 : VR w0 S v1_ fiber) (h2 : VR w0 S v2_ node) (hF : spec_l2Other fu n' fiber node = some r) :
    Calls Try.prog 123 [v0_, v1_, v2_].toArray w0 fun e w' => ∃ v, e = .returned v ∧ (Below w0.heap.size w0 w' ∧ VR w' (St ⟨w0, []⟩ S [] [] [] true) v r) := by
 obtain ⟨A, c, A2, c2, rfl, hl, hl2⟩ := Network_open h0
 obtain rfl := VR_int h1
 obtain rfl := VR_int h2
 have H := Mem.start ⟨w0, []⟩ S
 have H := H.pushArg (MP.val [(.slice A n'.Nodes.length c)] n'.Nodes) hl
 have H := H.pushArg (MP.val [(.slice A2 n'.Fibers.length c2)] n'.Fibers) hl2
 refine enter Try.func123 rfl rfl (nle rfl) rfl fun a hf => ?_
 rw [spec_l2Other] at hF
 refine sq (reg (wl0 rfl (op_box hf H rfl rfl (by decide) fun b' a w hf H => ?_)))
 refine pr 1 hf rfl rfl fun a hf => ?_
 refine wl_end (then_n (sq (reg (pr 1 hf rfl rfl fun a hf => ?_))))
 refine wl0 rfl (op_q hf (rq_loadB hf H TF.ls30 0 rfl rfl rfl) rfl (by decide) fun a hf => ?_)
 refine pr 1 hf rfl rfl fun a hf => ?_
 obtain ⟨e, he, hF⟩ := bind_some hF
 refine wl0 rfl (op_iaddr hf H Try.underlying30 TF.sz83 0 rfl rfl rfl he (by decide) fun p o cs a hf hr H => ?_)
 obtain rfl := Fiber_cells hr
 refine wl0 rfl (op_q hf (rq_loadIN hf H TF.la83 0 0 rfl rfl rfl rfl) rfl (by decide) fun a hf => ?_)
 refine wl0 rfl (op_alloc hf H TF.zv83 rfl (by decide) fun b2 a w hf H => ?_)
 refine wl0 rfl (op_storeB hf H 0 TF.sz83 rfl rfl rfl rfl rfl rfl (nle rfl) fun w H => ?_)
 refine wl_end (then_n (sq (sq (reg (pr 1 hf rfl rfl fun a hf => ?_)))))
 refine wl_end (then_n (wp_block (sq (reg (pr 1 hf rfl rfl fun a hf => ?_)))))
 refine wl0 rfl (op_q hf (rq_loadB hf H TF.ls3 0 rfl rfl rfl) rfl (by decide) fun a hf => ?_)
 refine pr 2 hf rfl rfl fun a hf => ?_
 have hf := hf.prune [7, 13, 14] rfl
 refine wl_end (then_n (iteB hF (fun hc hF => cd_t hf rfl hc ?_) fun hc hF => cd_f hf rfl hc ?_))
 ·refine sq (reg (pr 1 hf rfl rfl fun a hf => ?_))
  refine wl0 rfl (op_q hf (rq_loadB hf H TF.ls3 0 rfl rfl rfl) rfl (by decide) fun a hf => ?_)
  refine pr 1 hf rfl rfl fun a hf => ?_
  refine wl_end (then_n (wp_ret (blk_r (then_r (?_)))))
  obtain rfl := Option.some.inj hF
  refine ret_1 (fn := Try.f123) (r := .tmp 6) hf rfl (rv_tmp hf rfl) ?_
  exact ⟨_, rfl, H.bel, mk_int⟩
 ·refine sq (reg (pr 1 hf rfl rfl fun a hf => ?_))
  refine wl0 rfl (op_q hf (rq_loadB hf H TF.ls3 0 rfl rfl rfl) rfl (by decide) fun a hf => ?_)
  refine pr 2 hf rfl rfl fun a hf => ?_
  refine wl_end (then_n (iteB hF (fun hc2 hF => cd_t hf rfl hc2 ?_) fun hc2 hF => cd_f hf rfl hc2 ?_))
  ·refine sq (reg (pr 1 hf rfl rfl fun a hf => ?_))
   refine wl0 rfl (op_q hf (rq_loadB hf H TF.ls3 0 rfl rfl rfl) rfl (by decide) fun a hf => ?_)
   refine pr 1 hf rfl rfl fun a hf => ?_
   refine wl_end (then_n (wp_ret (blk_r (then_r (?_)))))
   obtain rfl := Option.some.inj hF
   refine ret_1 (fn := Try.f123) (r := .tmp 6) hf rfl (rv_tmp hf rfl) ?_
   exact ⟨_, rfl, H.bel, mk_int⟩
  ·refine wp_skip (blk_n (then_n (sq (reg (pr 1 hf rfl rfl fun a hf => ?_)))))
   refine wl_end (then_n (wp_ret (?_)))
   obtain rfl := Option.some.inj hF
   refine ret_1 (fn := Try.f123) (r := .tmp 6) hf rfl (rv_tmp hf rfl) ?_
   exact ⟨_, rfl, H.bel, mk_int⟩

/- loop.example/g00897/spec.l1Has -/
set_option maxHeartbeats 1000000 in
theorem spec_l1Has_ok {fu : Nat} {w0 : World} {S : Nat → Prop} {v0_ : Value} {v1_ : Value} {l : List Int} {n' : Int} {r : Bool} (h0 : VR w0 S v0_ l) (h1 : VR w0 S v1_ n') (hF : spec_l1Has fu l n' = some r) :
    Calls Try.prog 91 [v0_, v1_].toArray w0 fun e w' => ∃ v, e = .returned v ∧ (Below w0.heap.size w0 w' ∧ VR w' (St ⟨w0, []⟩ S [] [] [] true) v r) := by
 obtain ⟨A, c, rfl, hl⟩ := VR_list h0
 obtain rfl := VR_int h1
 have H := Mem.start ⟨w0, []⟩ S
 have H := H.pushArg (MP.val [(.slice A l.length c)] l) hl
 refine enter Try.func91 rfl rfl (nle rfl) rfl fun a hf => ?_
 rw [spec_l1Has] at hF
 refine sq (reg (pr 1 hf rfl rfl fun a hf => ?_))
 refine wl_end (then_n (sq (sq (reg (pr 1 hf rfl rfl fun a hf => ?_)))))
 refine wl_end (then_n ?_)
 obtain ⟨out', hB1, hF⟩ := bind_some hF
 have hf := hf.prune [0, 1, 5] rfl
 have H := H.let [] [] [] [0]
 refine loopC (fun (s : Int) (a : Act) (w : World) => match s with | i => Fr a 18 [(0, (.slice A l.length c)), (1, (.int .i64 n')), (5, (.int .i64 i))] ∧ Mem ⟨w0, []⟩ S [] [] [] [(false, MP.val [(.slice A l.length c)] (l : List Int))] w) (fun k (s : Int) => spec_l1Has_L1 fu l n' k s = some out') (fun s => out' = Out.next s) 0 fu hB1 ⟨hf, H⟩ (fun s h => by cases h) ?_ ?_
 ·rintro fk i a w hR1 hI
  replace hR1 : spec_l1Has_L1 fu l n' (fk + 1) i = some out' := hR1
  rw [spec_l1Has_L1] at hR1
  obtain ⟨hf, H⟩ := hI
  refine sq (sq (reg (pr 4 hf rfl rfl fun a hf => ?_)))
  refine wl_end (then_n (iteB hR1 (fun hc hR1 => cd_t hf rfl hc ?_) fun hc hR1 => cd_f hf rfl hc ?_))
  ·refine wp_skip (then_n (sq (wp_block (sq (reg (pr 2 hf rfl rfl fun a hf => ?_))))))
   obtain ⟨e, he, hR1⟩ := bind_some hR1
   refine wl0 rfl (op_iaddr hf H Try.underlying26 TF.sz3 0 rfl rfl rfl he (by decide) fun p o cs a hf hr H => ?_)
   obtain rfl := hr
   refine wl0 rfl (op_q hf (rq_loadI hf H TF.ls3 0 0 rfl rfl rfl) rfl (by decide) fun a hf => ?_)
   refine pr 2 hf rfl rfl fun a hf => ?_
   refine wl_end (then_n (iteB hR1 (fun hc2 hR1 => cd_t hf rfl hc2 ?_) fun hc2 hR1 => cd_f hf rfl hc2 ?_))
   ·refine sq (reg (pr 1 hf rfl rfl fun a hf => ?_))
    have hf := hf.prune [4] rfl
    refine wl_end (then_n (wp_ret (blk_r (then_r (then_r (blk_r (then_r (then_r (?_)))))))))
    obtain rfl := Option.some.inj hR1
    replace hF := on_ret hF
    obtain rfl := Option.some.inj hF
    refine ret_1 (fn := Try.f91) (r := .tmp 4) hf rfl (rv_tmp hf rfl) ?_
    exact ⟨_, rfl, H.bel, mk_bool⟩
   ·refine wp_skip (blk_n (then_n (reg (pr 3 hf rfl rfl fun a hf => ?_))))
    refine wl_end ?_
    have hf := hf.prune [0, 1, 5] rfl
    have H := H.let [] [] [] [1]
    exact then_n ⟨w64 (i + 1), hR1, hf, H⟩
  ·refine wp_exit (then_x (then_x (blk_e (?_))))
   have hf := hf.prune [0, 1, 5] rfl
   have H := H.let [] [] [] [0]
   exact ⟨i, (Option.some.inj hR1).symm, hf, H⟩
 rintro a w ⟨i2, rfl, hf, H⟩
 replace hF := on_next hF
 refine then_n (sq (reg (pr 1 hf rfl rfl fun a hf => ?_)))
 refine wl_end (then_n (wp_ret (?_)))
 obtain rfl := Option.some.inj hF
 refine ret_1 (fn := Try.f91) (r := .tmp 4) hf rfl (rv_tmp hf rfl) ?_
 exact ⟨_, rfl, H.bel, mk_bool⟩

/- loop.example/g00897/spec.l4Walk -/
set_option maxHeartbeats 1000000 in
theorem spec_l4Walk_ok {fu : Nat} {w0 : World} {S : Nat → Prop} {v0_ : Value} {v1_ : Value} {n' : Network} {r' : Route} {r : List Int × Bool} (h0 : VR w0 S v0_ n') (h1 : VR w0 S v1_ r') (hF : spec_l4Walk fu n' r' = some r) :
    Calls Try.prog 99 [v0_, v1_].toArray w0 fun e w' => ∃ v, e = .returned v ∧ (Below w0.heap.size w0 w' ∧ ∃ F0, ∃ u0 u1, v = .tuple #[u0, u1] ∧ VO w' F0 u0 r.1 ∧ VR w' (St ⟨w0, []⟩ S [] [] [] true) u1 r.2 ∧ New w0 w' F0) := by
 obtain ⟨A, c, A2, c2, rfl, hl, hl2⟩ := Network_open h0
 obtain ⟨A3, c3, rfl, hl3⟩ := Route_open h1
 have H := Mem.start ⟨w0, []⟩ S
 have H := H.pushArg (MP.val [(.slice A n'.Nodes.length c)] n'.Nodes) hl
 have H := H.pushArg (MP.val [(.slice A2 n'.Fibers.length c2)] n'.Fibers) hl2
 have H := H.pushArg (MP.val [(.slice A3 r'.Fibers.length c3)] r'.Fibers) hl3
 refine enter Try.func99 rfl rfl (nle rfl) rfl fun a hf => ?_
 rw [spec_l4Walk] at hF
 refine sq (reg (wl0 rfl (op_box hf H rfl rfl (by decide) fun b' a w hf H => ?_)))
 refine wl0 rfl (op_box hf H rfl rfl (by decide) fun b2 a w hf H => ?_)
 refine pr 2 hf rfl rfl fun a hf => ?_
 refine wl_end (then_n (sq (reg (pr 1 hf rfl rfl fun a hf => ?_))))
 refine wl0 rfl (op_q hf (rq_loadB hf H TF.ls3 0 rfl rfl rfl) rfl (by decide) fun a hf => ?_)
 refine wl0 rfl (op_bslice hf H (.sh true) rfl 3 ([r'.Start] : List Int) [(.int .i64 r'.Start)] rfl (fun w => by kernel_rfl) rfl (by decide) rfl trivial (el1 (y := r'.Start) (rfl)) (by decide) fun A4 a w hf H => ?_)
 refine pr 1 hf rfl rfl fun a hf => ?_
 refine wl_end (then_n (sq (sq ?_)))
 obtain ⟨c4, hGc4, hF⟩ := bind_some hF
 have fh := hf.prune [2, 3, 6] rfl
 have Hm := H.let [true, true] [true] [] [0, 1, 2]
 refine midF 25 (.bool c4) fh Hm ?_ fun a w hf H => ?_
 ·refine reg (pr 1 hf rfl rfl fun a hf => ?_)
  refine wl0 rfl (op_q hf (rq_loadB hf H TF.ls3 0 rfl rfl rfl) rfl (by decide) fun a hf => ?_)
  refine pr 1 hf rfl rfl fun a hf => ?_
  refine wl0 rfl (op_q hf (rq_loadB hf H TF.ls22 1 rfl rfl rfl) rfl (by decide) fun a hf => ?_)
  refine pr 2 hf rfl rfl fun a hf => ?_
  obtain ⟨y, hy, hGc4⟩ := bind_some hGc4
  refine wl0 rfl (op_call hf TF.cl46 rfl (by decide) (spec_l1In_ok (S := fun _ => True) mk_int mk_int mk_int hy) fun v w a hp hf => ?_)
  obtain ⟨hb, hp⟩ := hp
  obtain rfl := VR_bool hp
  have H := H.keep hb
  refine pr 2 hf rfl rfl fun a hf => ?_
  refine iteB hGc4 (fun hc hGc4 => ?_) fun hc hGc4 => ?_
  ·have hf := hf.lit 20 rfl hc
   refine pr 5 hf rfl rfl fun a hf => ?_
   obtain rfl := Option.some.inj hGc4
   have hf := hf.prune [25, 2, 3, 6] rfl
   have H := H.let [true, true] [true] [] [0, 1, 2]
   exact wl_end ⟨hf, H⟩
  ·have hf := hf.lit 20 rfl hc
   refine pr 1 hf rfl rfl fun a hf => ?_
   refine wlg hf rfl rfl rfl (op_q hf (rq_loadB hf H TF.ls26 0 rfl rfl rfl) rfl (by decide) fun a hf => ?_)
   refine pr 3 hf rfl rfl fun a hf => ?_
   obtain rfl := Option.some.inj hGc4
   have hf := hf.prune [25, 2, 3, 6] rfl
   have H := H.let [true, true] [true] [] [0, 1, 2]
   exact wl_end ⟨hf, H⟩
 refine then_n (iteB hF (fun hc2 hF => cd_t hf rfl hc2 ?_) fun hc2 hF => cd_f hf rfl hc2 ?_)
 ·refine sq (reg (pr 3 hf rfl rfl fun a hf => ?_))
  refine wl_end (then_n (wp_ret (then_r (?_))))
  have H := H.rowOwn 0 rfl rfl
  obtain ⟨F, H⟩ := H.freezeOwn 0 rfl
  have H := H.lend 0 rfl
  obtain rfl := Option.some.inj hF
  refine ret_2 (fn := Try.f99) (r := .tmp 4) (s := .tmp 5) hf rfl (rv_tmp hf rfl) (rv_tmp hf rfl) ?_
  have hN := H.ends (X := [(⟨F, MP.own F [(.slice A4 1 1)] ([r'.Start] : List Int)⟩ : DI)])
  simp only [List.flatMap_cons, List.flatMap_nil, List.append_nil, List.append_assoc] at hN
  exact ⟨_, rfl, H.bel, F, _, _, rfl, (mko_list (H.ownAt 0 rfl)), mk_bool, hN⟩
 ·refine wp_skip (then_n (sq (sq (reg (pr 1 hf rfl rfl fun a hf => ?_)))))
  refine wl_end (then_n ?_)
  obtain ⟨out2, hB1, hF⟩ := bind_some hF
  have hf := hf.prune [2, 3, 6, 7] rfl
  have H := H.let [true, true] [true] [] [0, 1, 2]
  refine loopC (fun (s : List Int × Int) (a : Act) (w : World) => match s with | (out', i) => ∃ (A5 : Option Addr) (c5 : Nat) (E : Go.TypeId), Fr a 72 [(2, (.pointer (some ⟨b', 0, none⟩))), (3, (.pointer (some ⟨b2, 0, none⟩))), (6, (.slice A5 out'.length c5)), (7, (.int .i64 i))] ∧ Mem ⟨w0, []⟩ S [⟨b2, 43, [(.int .i64 r'.Start), (.slice A3 r'.Fibers.length c3)]⟩, ⟨b', 32, [(.slice A n'.Nodes.length c), (.slice A2 n'.Fibers.length c2)]⟩] [⟨.sh true, E, A5, c5, (out' : List Int)⟩] [] [(false, MP.val [(.slice A3 r'.Fibers.length c3)] (r'.Fibers : List Int)), (false, MP.val [(.slice A2 n'.Fibers.length c2)] (n'.Fibers : List Fiber)), (false, MP.val [(.slice A n'.Nodes.length c)] (n'.Nodes : List ByteArray))] w) (fun k (s : List Int × Int) => spec_l4Walk_L1 fu n' r' k s.1 s.2 = some out2) (fun s => out2 = Out.next s) ([r'.Start], 0) fu hB1 ⟨A4, 1, 3, hf, H⟩ (fun s h => by cases h) ?_ ?_
  ·rintro fk ⟨out', i⟩ a w hR1 hI
   replace hR1 : spec_l4Walk_L1 fu n' r' (fk + 1) out' i = some out2 := hR1
   rw [spec_l4Walk_L1] at hR1
   obtain ⟨A5, c5, E, hf, H⟩ := hI
   refine sq (sq (reg (pr 2 hf rfl rfl fun a hf => ?_)))
   refine wl0 rfl (op_q hf (rq_loadB hf H TF.ls26 0 rfl rfl rfl) rfl (by decide) fun a hf => ?_)
   refine pr 2 hf rfl rfl fun a hf => ?_
   refine wl_end (then_n (iteB hR1 (fun hc3 hR1 => cd_t hf rfl hc3 ?_) fun hc3 hR1 => cd_f hf rfl hc3 ?_))
   ·refine wp_skip (then_n (sq (wp_block (sq (sq (drawn [] (bs := [false, false, false, false, false, false, false, false, false, false, false]) (fuel := 11) (Checked.mixed Try.checked) rfl rfl fun w hb => ?_))))))
    have H := H.keep hb
    refine tp 0 rfl rfl hf (by kernel_rfl) (fun _ => trivial) rfl fun a hf => ?_
    refine strT H (fun w H => trivial) fun hS => ?_
    refine tS 1 [] rfl rfl rfl rfl hf (by kernel_rfl) (by kernel_rfl) hS (fun w H => rq_loadB hf H TF.ls26 0 rfl rfl rfl) fun a hf => ?_
    refine tp 2 rfl rfl hf (by kernel_rfl) (fun _ => hS) rfl fun a hf => ?_
    obtain ⟨e, he, hR1⟩ := bind_some hR1
    obtain ⟨p, o, cs, hx, hr, H⟩ := pre_iaddr H Try.underlying26 TF.sz3 0 rfl he
    refine tP 3 rfl rfl rfl rfl hf (by kernel_rfl) (fun _ => hS) (fun w => rq_iaddrE hf rfl rfl rfl hx w) fun a hf => ?_
    obtain rfl := hr
    refine strT H (fun w H => H.let [true, true] [true] [] [1, 2, 3]) fun hS => ?_
    refine tS 4 [] rfl rfl rfl rfl hf (by kernel_rfl) (by kernel_rfl) hS (fun w H => rq_loadI hf H TF.ls3 0 0 rfl rfl rfl) fun a hf => ?_
    refine tp 5 rfl rfl hf (by kernel_rfl) (fun _ => hS) rfl fun a hf => ?_
    refine tS 6 [] rfl rfl rfl rfl hf (by kernel_rfl) (by kernel_rfl) hS (fun w H => rq_loadB hf H TF.ls30 1 rfl rfl rfl) fun a hf => ?_
    refine tp 7 rfl rfl hf (by kernel_rfl) (fun _ => hS) rfl fun a hf => ?_
    refine tp 8 rfl rfl hf (by kernel_rfl) (fun _ => hS) rfl fun a hf => ?_
    obtain ⟨y2, hy2, hR1⟩ := bind_some hR1
    refine n1 9 (by kernel_rfl) rfl rfl (op_call hf TF.cl46 rfl (by decide) (spec_l1In_ok (S := fun _ => True) mk_int mk_int mk_int hy2) fun v2 w a hp2 hf => ?_)
    obtain ⟨hb2, hp2⟩ := hp2
    obtain rfl := VR_bool hp2
    have H := H.keep hb2
    have hS := H
    refine ⟨fun _ => hS, ?_⟩
    refine tp 10 rfl rfl hf (by kernel_rfl) (fun _ => hS) rfl fun a hf => ?_
    refine dn (by kernel_rfl) ?_
    have hf := hf.prune [2, 3, 6, 7, 44] rfl
    refine then_n (iteB hR1 (fun hc4 hR1 => cd_t hf rfl hc4 ?_) fun hc4 hR1 => cd_f hf rfl hc4 ?_)
    ·refine sq (reg (pr 3 hf rfl rfl fun a hf => ?_))
     refine wl_end (then_n (wp_ret (then_r (blk_r (then_r (then_r (blk_r (then_r (then_r (?_))))))))))
     have H := H.rowOwn 0 rfl rfl
     obtain ⟨F2, H⟩ := H.freezeOwn 0 rfl
     have H := H.lend 0 rfl
     obtain rfl := Option.some.inj hR1
     replace hF := on_ret hF
     obtain rfl := Option.some.inj hF
     refine ret_2 (fn := Try.f99) (r := .tmp 4) (s := .tmp 5) hf rfl (rv_tmp hf rfl) (rv_tmp hf rfl) ?_
     have hN := H.ends (X := [(⟨F2, MP.own F2 [(.slice A5 out'.length c5)] (out' : List Int)⟩ : DI)])
     simp only [List.flatMap_cons, List.flatMap_nil, List.append_nil, List.append_assoc] at hN
     exact ⟨_, rfl, H.bel, F2, _, _, rfl, (mko_list (H.ownAt 0 rfl)), mk_bool, hN⟩
    ·refine wp_skip (then_n (sq (drawn [] (bs := [false, false, false, false, false, false, false, false, false, false, false, false, false, false]) (fuel := 14) (Checked.mixed Try.checked) rfl rfl fun w hb => ?_)))
     have H := H.keep hb
     refine strT H (fun w H => trivial) fun hS => ?_
     refine tS 0 [] rfl rfl rfl rfl hf (by kernel_rfl) (by kernel_rfl) hS (fun w H => rq_loadBN hf H TF.la32 1 rfl rfl rfl rfl) fun a hf => ?_
     refine tp 1 rfl rfl hf (by kernel_rfl) (fun _ => hS) rfl fun a hf => ?_
     refine tS 2 [] rfl rfl rfl rfl hf (by kernel_rfl) (by kernel_rfl) hS (fun w H => rq_loadB hf H TF.ls26 0 rfl rfl rfl) fun a hf => ?_
     refine tp 3 rfl rfl hf (by kernel_rfl) (fun _ => hS) rfl fun a hf => ?_
     obtain ⟨e2, he2, hR1⟩ := bind_some hR1
     obtain ⟨p2, o2, cs2, hx2, hr2, H⟩ := pre_iaddr H Try.underlying26 TF.sz3 1 rfl he2
     refine tP 4 rfl rfl rfl rfl hf (by kernel_rfl) (fun _ => hS) (fun w => rq_iaddrE hf rfl rfl rfl hx2 w) fun a hf => ?_
     obtain rfl := hr2
     refine strT H (fun w H => H.let [true, true] [true] [] [1, 2, 3, 4]) fun hS => ?_
     refine tS 5 [] rfl rfl rfl rfl hf (by kernel_rfl) (by kernel_rfl) hS (fun w H => rq_loadI hf H TF.ls3 0 0 rfl rfl rfl) fun a hf => ?_
     refine tp 6 rfl rfl hf (by kernel_rfl) (fun _ => hS) rfl fun a hf => ?_
     refine tp 7 rfl rfl hf (by kernel_rfl) (fun _ => hS) rfl fun a hf => ?_
     refine tp 8 rfl rfl hf (by kernel_rfl) (fun _ => hS) rfl fun a hf => ?_
     refine tp 9 rfl rfl hf (by kernel_rfl) (fun _ => hS) rfl fun a hf => ?_
     obtain ⟨e3, he3, hR1⟩ := bind_some hR1
     obtain ⟨p3, o3, hA, hx3⟩ := pre_iaddrR H Try.underlying26 TF.sz3 0 rfl he3
     refine tP 10 rfl rfl rfl rfl hf (by kernel_rfl) (fun _ => hS) (fun w => rq_iaddrE hf rfl rfl rfl hx3 w) fun a hf => ?_
     refine tS 11 [] rfl rfl rfl rfl hf (by kernel_rfl) (by kernel_rfl) hS (fun w H => rq_loadRow (off := 0) hf H TF.ls3 0 rfl rfl hA he3 (fun w T cs h => by obtain rfl := h; rfl)) fun a hf => ?_
     obtain ⟨y3, hy3, hR1⟩ := bind_some hR1
     refine n1 12 (by kernel_rfl) rfl rfl (op_call hf TF.cl123 rfl (by decide) (spec_l2Other_ok (S := fun _ => True) (Network_mkv (x := n') (rep_true (α := List ByteArray) (H.get 4 rfl)) (rep_true (α := List Fiber) (H.get 3 rfl))) mk_int mk_int hy3) fun v3 w a hp3 hf => ?_)
     obtain ⟨hb3, hp3⟩ := hp3
     obtain rfl := VR_int hp3
     have H := H.keep hb3
     have hS := H
     refine ⟨fun _ => hS, ?_⟩
     refine tp 13 rfl rfl hf (by kernel_rfl) (fun _ => hS) rfl fun a hf => ?_
     refine dn (by kernel_rfl) ?_
     have hf := hf.prune [2, 3, 6, 7, 8] rfl
     refine then_n (sq (sq ?_))
     obtain ⟨c6, hGc6, hR1⟩ := bind_some hR1
     have fh2 := hf.prune [2, 3, 6, 7, 8] rfl
     have Hm2 := H.let [true, true] [true] [] [2, 3, 4]
     refine midF 65 (.bool c6) fh2 Hm2 ?_ fun a w hf H => ?_
     ·refine reg (pr 3 hf rfl rfl fun a hf => ?_)
      refine iteB hGc6 (fun hc5 hGc6 => ?_) fun hc5 hGc6 => ?_
      ·have hf := hf.lit 61 rfl hc5
       refine pr 4 hf rfl rfl fun a hf => ?_
       obtain rfl := Option.some.inj hGc6
       have hf := hf.prune [65, 2, 3, 6, 7, 8] rfl
       have H := H.let [true, true] [true] [] [2, 3, 4]
       exact wl_end ⟨hf, H⟩
      ·have hf := hf.lit 61 rfl hc5
       refine pr 2 hf rfl rfl fun a hf => ?_
       obtain ⟨y4, hy4, hGc6⟩ := bind_some hGc6
       refine wlg hf rfl rfl rfl (op_call hf TF.cl91 rfl (by decide) (spec_l1Has_ok (S := fun _ => True) (mk_list (H.rowTrue 0 rfl)) mk_int hy4) fun v4 w a hp4 hf => ?_)
       obtain ⟨hb4, hp4⟩ := hp4
       obtain rfl := VR_bool hp4
       have H := H.keep hb4
       refine pr 1 hf rfl rfl fun a hf => ?_
       obtain rfl := Option.some.inj hGc6
       have hf := hf.prune [65, 2, 3, 6, 7, 8] rfl
       have H := H.let [true, true] [true] [] [2, 3, 4]
       exact wl_end ⟨hf, H⟩
     refine then_n (iteB hR1 (fun hc6 hR1 => cd_t hf rfl hc6 ?_) fun hc6 hR1 => cd_f hf rfl hc6 ?_)
     ·refine sq (reg (pr 3 hf rfl rfl fun a hf => ?_))
      refine wl_end (then_n (wp_ret (then_r (blk_r (then_r (then_r (blk_r (then_r (then_r (?_))))))))))
      have H := H.rowOwn 0 rfl rfl
      obtain ⟨F3, H⟩ := H.freezeOwn 0 rfl
      have H := H.lend 0 rfl
      obtain rfl := Option.some.inj hR1
      replace hF := on_ret hF
      obtain rfl := Option.some.inj hF
      refine ret_2 (fn := Try.f99) (r := .tmp 4) (s := .tmp 5) hf rfl (rv_tmp hf rfl) (rv_tmp hf rfl) ?_
      have hN := H.ends (X := [(⟨F3, MP.own F3 [(.slice A5 out'.length c5)] (out' : List Int)⟩ : DI)])
      simp only [List.flatMap_cons, List.flatMap_nil, List.append_nil, List.append_assoc] at hN
      exact ⟨_, rfl, H.bel, F3, _, _, rfl, (mko_list (H.ownAt 0 rfl)), mk_bool, hN⟩
     ·refine wp_skip (then_n (reg (pr 2 hf rfl rfl fun a hf => ?_)))
      refine wl0 rfl (op_bslice hf H (.sh true) rfl 3 ([y3] : List Int) [(.int .i64 y3)] rfl (fun w => by kernel_rfl) rfl (by decide) rfl trivial (el1 (y := y3) (rfl)) (by decide) fun A6 a w hf H => ?_)
      obtain ⟨l, hl, hR1⟩ := bind_some hR1
      refine wl0 rfl (op_appR hf H Try.underlying26 TF.ai3 rfl (by decide) 1 0 rfl rfl rfl rfl (.inr rfl) hl (by decide) fun E2 A7 c7 a w hf H => ?_)
      refine pr 1 hf rfl rfl fun a hf => ?_
      refine wl_end (blk_n (then_n (reg (pr 3 hf rfl rfl fun a hf => ?_))))
      refine wl_end ?_
      have hf := hf.prune [2, 3, 6, 7] rfl
      have H := H.let [true, true] [false, true] [] [0, 1, 2]
      exact then_n ⟨(l, w64 (i + 1)), hR1, A7, c7, E2, hf, H⟩
   ·refine wp_exit (then_x (then_x (blk_e (?_))))
    have hf := hf.prune [2, 3, 6, 7] rfl
    have H := H.let [true, true] [true] [] [0, 1, 2]
    exact ⟨(out', i), (Option.some.inj hR1).symm, A5, c5, E, hf, H⟩
  rintro a w ⟨⟨out3, i2⟩, rfl, A8, c8, E3, hf, H⟩
  replace hF := on_next hF
  dsimp only at hF
  refine then_n (sq (reg (pr 3 hf rfl rfl fun a hf => ?_)))
  refine wl_end (then_n (wp_ret (?_)))
  have H := H.rowOwn 0 rfl rfl
  obtain ⟨F4, H⟩ := H.freezeOwn 0 rfl
  have H := H.lend 0 rfl
  obtain rfl := Option.some.inj hF
  refine ret_2 (fn := Try.f99) (r := .tmp 4) (s := .tmp 5) hf rfl (rv_tmp hf rfl) (rv_tmp hf rfl) ?_
  have hN := H.ends (X := [(⟨F4, MP.own F4 [(.slice A8 out3.length c8)] (out3 : List Int)⟩ : DI)])
  simp only [List.flatMap_cons, List.flatMap_nil, List.append_nil, List.append_assoc] at hN
  exact ⟨_, rfl, H.bel, F4, _, _, rfl, (mko_list (H.ownAt 0 rfl)), mk_bool, hN⟩

/- loop.example/g00897/spec.l4Good -/
set_option maxHeartbeats 1000000 in
theorem spec_l4Good_ok {fu : Nat} {w0 : World} {S : Nat → Prop} {v0_ : Value} {v1_ : Value} {n' : Network} {r' : Route} {r : Bool} (h0 : VR w0 S v0_ n') (h1 : VR w0 S v1_ r') (hF : spec_l4Good fu n' r' = some r) :
    Calls Try.prog 57 [v0_, v1_].toArray w0 fun e w' => ∃ v, e = .returned v ∧ (Below w0.heap.size w0 w' ∧ VR w' (St ⟨w0, []⟩ S [] [] [] true) v r) := by
 obtain ⟨A, c, A2, c2, rfl, hl, hl2⟩ := Network_open h0
 obtain ⟨A3, c3, rfl, hl3⟩ := Route_open h1
 have H := Mem.start ⟨w0, []⟩ S
 have H := H.pushArg (MP.val [(.slice A n'.Nodes.length c)] n'.Nodes) hl
 have H := H.pushArg (MP.val [(.slice A2 n'.Fibers.length c2)] n'.Fibers) hl2
 have H := H.pushArg (MP.val [(.slice A3 r'.Fibers.length c3)] r'.Fibers) hl3
 refine enter Try.func57 rfl rfl (nle rfl) rfl fun a hf => ?_
 rw [spec_l4Good] at hF
 refine sq (reg (wl0 rfl (op_box hf H rfl rfl (by decide) fun b' a w hf H => ?_)))
 refine wl0 rfl (op_box hf H rfl rfl (by decide) fun b2 a w hf H => ?_)
 refine pr 1 hf rfl rfl fun a hf => ?_
 refine wl_end (then_n (sq (sq (reg (wl0 rfl (op_q hf (rq_loadBN hf H TF.la32 1 rfl rfl rfl rfl) rfl (by decide) fun a hf => ?_))))))
 obtain ⟨y, hy, hF⟩ := bind_some hF
 refine wl0 rfl (op_call hf TF.cl44 rfl (by decide) (spec_l2Good_ok (S := fun _ => True) (Network_mkv (x := n') (rep_true (α := List ByteArray) (H.get 2 rfl)) (rep_true (α := List Fiber) (H.get 1 rfl))) hy) fun v w a hp hf => ?_)
 obtain ⟨hb, hp⟩ := hp
 obtain rfl := VR_bool hp
 have H := H.keep hb
 refine pr 1 hf rfl rfl fun a hf => ?_
 refine wl_end (then_n (iteB hF (fun hc hF => cd_t hf rfl hc ?_) fun hc hF => cd_f hf rfl hc ?_))
 ·refine sq (reg (pr 1 hf rfl rfl fun a hf => ?_))
  refine wl_end (then_n (wp_ret (then_r (?_))))
  obtain rfl := Option.some.inj hF
  refine ret_1 (fn := Try.f57) (r := .tmp 4) hf rfl (rv_tmp hf rfl) ?_
  exact ⟨_, rfl, H.bel, mk_bool⟩
 ·refine wp_skip (then_n (sq (reg (wl0 rfl (op_q hf (rq_loadBN hf H TF.la32 1 rfl rfl rfl rfl) rfl (by decide) fun a hf => ?_)))))
  refine wl0 rfl (op_q hf (rq_loadBN hf H TF.la43 0 rfl rfl rfl rfl) rfl (by decide) fun a hf => ?_)
  obtain ⟨y2, hy2, hF⟩ := bind_some hF
  refine wl0 rfl (op_call hf TF.cl99 rfl (by decide) (spec_l4Walk_ok (S := fun _ => True) (Network_mkv (x := n') (rep_true (α := List ByteArray) (H.get 2 rfl)) (rep_true (α := List Fiber) (H.get 1 rfl))) (Route_mkv (x := r') (rep_true (α := List Int) (H.get 0 rfl))) hy2) fun v2 w a hp2 hf => ?_)
  obtain ⟨hb2, F, v3, v4, rfl, hp3, hp4, hN⟩ := hp2
  obtain ⟨A4, c4, rfl, hl4⟩ := VO_list hp3
  obtain rfl := VR_bool hp4
  have H := H.addOwn hb2 (X := [(⟨F, MP.own F [(.slice A4 y2.1.length c4)] (y2.1 : List Int)⟩ : DI)]) (by simpa using hN.1) (ps1 hl4 ps0) (by simpa using hN.2)
  have H := H.lend 0 rfl
  refine pr 5 hf rfl rfl fun a hf => ?_
  have hf := hf.prune [6] rfl
  refine wl_end (then_n (sq (reg (pr 2 hf rfl rfl fun a hf => ?_))))
  refine wl_end (then_n (wp_ret (?_)))
  obtain rfl := Option.some.inj hF
  refine ret_1 (fn := Try.f57) (r := .tmp 4) hf rfl (rv_tmp hf rfl) ?_
  exact ⟨_, rfl, H.bel, mk_bool⟩

/- loop.example/g00897/spec.l4Nodes -/
set_option maxHeartbeats 1000000 in
theorem spec_l4Nodes_ok {fu : Nat} {w0 : World} {S : Nat → Prop} {v0_ : Value} {v1_ : Value} {n' : Network} {r' : Route} {r : List Int} (h0 : VR w0 S v0_ n') (h1 : VR w0 S v1_ r') (hF : spec_l4Nodes fu n' r' = some r) :
    Calls Try.prog 58 [v0_, v1_].toArray w0 fun e w' => ∃ v, e = .returned v ∧ (Below w0.heap.size w0 w' ∧ ∃ F0, VO w' F0 v r ∧ New w0 w' F0) := by
 obtain ⟨A, c, A2, c2, rfl, hl, hl2⟩ := Network_open h0
 obtain ⟨A3, c3, rfl, hl3⟩ := Route_open h1
 have H := Mem.start ⟨w0, []⟩ S
 have H := H.pushArg (MP.val [(.slice A n'.Nodes.length c)] n'.Nodes) hl
 have H := H.pushArg (MP.val [(.slice A2 n'.Fibers.length c2)] n'.Fibers) hl2
 have H := H.pushArg (MP.val [(.slice A3 r'.Fibers.length c3)] r'.Fibers) hl3
 refine enter Try.func58 rfl rfl (nle rfl) rfl fun a hf => ?_
 rw [spec_l4Nodes] at hF
 refine sq (reg (wl0 rfl (op_box hf H rfl rfl (by decide) fun b' a w hf H => ?_)))
 refine wl0 rfl (op_box hf H rfl rfl (by decide) fun b2 a w hf H => ?_)
 refine pr 1 hf rfl rfl fun a hf => ?_
 refine wl_end (then_n (sq (reg (wl0 rfl (op_q hf (rq_loadBN hf H TF.la32 1 rfl rfl rfl rfl) rfl (by decide) fun a hf => ?_)))))
 refine wl0 rfl (op_q hf (rq_loadBN hf H TF.la43 0 rfl rfl rfl rfl) rfl (by decide) fun a hf => ?_)
 obtain ⟨y, hy, hF⟩ := bind_some hF
 refine wl0 rfl (op_call hf TF.cl99 rfl (by decide) (spec_l4Walk_ok (S := fun _ => True) (Network_mkv (x := n') (rep_true (α := List ByteArray) (H.get 2 rfl)) (rep_true (α := List Fiber) (H.get 1 rfl))) (Route_mkv (x := r') (rep_true (α := List Int) (H.get 0 rfl))) hy) fun v w a hp hf => ?_)
 obtain ⟨hb, F, v2, v3, rfl, hp2, hp3, hN⟩ := hp
 obtain ⟨A4, c4, rfl, hl4⟩ := VO_list hp2
 obtain rfl := VR_bool hp3
 have H := H.addOwn hb (X := [(⟨F, MP.own F [(.slice A4 y.1.length c4)] (y.1 : List Int)⟩ : DI)]) (by simpa using hN.1) (ps1 hl4 ps0) (by simpa using hN.2)
 have H := H.lend 0 rfl
 refine pr 5 hf rfl rfl fun a hf => ?_
 refine wl_end (then_n (sq (reg (pr 2 hf rfl rfl fun a hf => ?_))))
 have hf := hf.prune [4] rfl
 refine wl_end (then_n (wp_ret (?_)))
 obtain rfl := Option.some.inj hF
 refine ret_1 (fn := Try.f58) (r := .tmp 4) hf rfl (rv_tmp hf rfl) ?_
 have hN := H.ends (X := [(⟨F, MP.own F [(.slice A4 y.1.length c4)] (y.1 : List Int)⟩ : DI)])
 simp only [List.flatMap_cons, List.flatMap_nil, List.append_nil, List.append_assoc] at hN
 exact ⟨_, rfl, H.bel, F, (mko_list (H.ownAt 0 rfl)), hN⟩

/- loop.example/g00897/spec.RegeneratorsFor -/
set_option maxHeartbeats 1000000 in
theorem spec_RegeneratorsFor_ok {fu : Nat} {w0 : World} {S : Nat → Prop} {v0_ : Value} {v1_ : Value} {v2_ : Value} {n' : Network} {r' : Route} {reach : Int} {r : List Int × Bool} (h0 : VR w0 S v0_ n') (h1 : VR w0 S v1_ r') (h2 : VR w0 S v2_ reach) (hF : spec_RegeneratorsFor fu n' r' reach = some r) :
    Calls Try.prog 25 [v0_, v1_, v2_].toArray w0 fun e w' => ∃ v, e = .returned v ∧ (Below w0.heap.size w0 w' ∧ ∃ F0, ∃ u0 u1, v = .tuple #[u0, u1] ∧ VO w' F0 u0 r.1 ∧ VR w' (St ⟨w0, []⟩ S [] [] [] true) u1 r.2 ∧ New w0 w' F0) := by
 obtain ⟨A, c, A2, c2, rfl, hl, hl2⟩ := Network_open h0
 obtain ⟨A3, c3, rfl, hl3⟩ := Route_open h1
 obtain rfl := VR_int h2
 have H := Mem.start ⟨w0, []⟩ S
 have H := H.pushArg (MP.val [(.slice A n'.Nodes.length c)] n'.Nodes) hl
 have H := H.pushArg (MP.val [(.slice A2 n'.Fibers.length c2)] n'.Fibers) hl2
 have H := H.pushArg (MP.val [(.slice A3 r'.Fibers.length c3)] r'.Fibers) hl3
 refine enter Try.func25 rfl rfl (nle rfl) rfl fun a hf => ?_
 rw [spec_RegeneratorsFor] at hF
 refine sq (reg (wl0 rfl (op_box hf H rfl rfl (by decide) fun b' a w hf H => ?_)))
 refine wl0 rfl (op_box hf H rfl rfl (by decide) fun b2 a w hf H => ?_)
 refine pr 2 hf rfl rfl fun a hf => ?_
 refine wl_end (then_n (sq (reg (wl0 rfl (op_bslice hf H (.sh true) rfl 3 ([] : List Int) [] rfl (fun w => by kernel_rfl) rfl (by decide) rfl trivial el0 (by decide) fun A4 a w hf H => ?_)))))
 refine pr 1 hf rfl rfl fun a hf => ?_
 refine wl_end (then_n (sq (sq ?_)))
 obtain ⟨c4, hGc4, hF⟩ := bind_some hF
 have fh := hf.prune [2, 3, 4, 8] rfl
 have Hm := H.let [true, true] [true] [] [0, 1, 2]
 refine midF 22 (.bool c4) fh Hm ?_ fun a w hf H => ?_
 ·refine reg (wl0 rfl (op_q hf (rq_loadBN hf H TF.la32 1 rfl rfl rfl rfl) rfl (by decide) fun a hf => ?_))
  refine wl0 rfl (op_q hf (rq_loadBN hf H TF.la43 0 rfl rfl rfl rfl) rfl (by decide) fun a hf => ?_)
  obtain ⟨y, hy, hGc4⟩ := bind_some hGc4
  refine wl0 rfl (op_call hf TF.cl57 rfl (by decide) (spec_l4Good_ok (S := fun _ => True) (Network_mkv (x := n') (rep_true (α := List ByteArray) (H.get 2 rfl)) (rep_true (α := List Fiber) (H.get 1 rfl))) (Route_mkv (x := r') (rep_true (α := List Int) (H.get 0 rfl))) hy) fun v w a hp hf => ?_)
  obtain ⟨hb, hp⟩ := hp
  obtain rfl := VR_bool hp
  have H := H.keep hb
  refine pr 2 hf rfl rfl fun a hf => ?_
  refine iteB hGc4 (fun hc hGc4 => ?_) fun hc hGc4 => ?_
  ·have hf := hf.lit 18 rfl hc
   refine pr 4 hf rfl rfl fun a hf => ?_
   obtain rfl := Option.some.inj hGc4
   have hf := hf.prune [22, 2, 3, 4, 8] rfl
   have H := H.let [true, true] [true] [] [0, 1, 2]
   exact wl_end ⟨hf, H⟩
  ·have hf := hf.lit 18 rfl hc
   refine pr 1 hf rfl rfl fun a hf => ?_
   obtain ⟨y2, hy2, hGc4⟩ := bind_some hGc4
   refine wlg hf rfl rfl rfl (op_call hf TF.cl46 rfl (by decide) (spec_l1In_ok (S := fun _ => True) mk_int mk_int mk_int hy2) fun v2 w a hp2 hf => ?_)
   obtain ⟨hb2, hp2⟩ := hp2
   obtain rfl := VR_bool hp2
   have H := H.keep hb2
   refine pr 2 hf rfl rfl fun a hf => ?_
   obtain rfl := Option.some.inj hGc4
   have hf := hf.prune [22, 2, 3, 4, 8] rfl
   have H := H.let [true, true] [true] [] [0, 1, 2]
   exact wl_end ⟨hf, H⟩
 refine then_n (iteB hF (fun hc2 hF => cd_t hf rfl hc2 ?_) fun hc2 hF => cd_f hf rfl hc2 ?_)
 ·refine sq (reg (pr 3 hf rfl rfl fun a hf => ?_))
  refine wl_end (then_n (wp_ret (then_r (?_))))
  have H := H.rowOwn 0 rfl rfl
  obtain ⟨F, H⟩ := H.freezeOwn 0 rfl
  have H := H.lend 0 rfl
  obtain rfl := Option.some.inj hF
  refine ret_2 (fn := Try.f25) (r := .tmp 6) (s := .tmp 7) hf rfl (rv_tmp hf rfl) (rv_tmp hf rfl) ?_
  have hN := H.ends (X := [(⟨F, MP.own F [(.slice A4 0 0)] (([] : List Int) : List Int)⟩ : DI)])
  simp only [List.flatMap_cons, List.flatMap_nil, List.append_nil, List.append_assoc] at hN
  exact ⟨_, rfl, H.bel, F, _, _, rfl, (mko_list (H.ownAt 0 rfl)), mk_bool, hN⟩
 ·refine wp_skip (then_n (sq (reg (wl0 rfl (op_q hf (rq_loadBN hf H TF.la32 1 rfl rfl rfl rfl) rfl (by decide) fun a hf => ?_)))))
  refine wl0 rfl (op_q hf (rq_loadBN hf H TF.la43 0 rfl rfl rfl rfl) rfl (by decide) fun a hf => ?_)
  obtain ⟨y3, hy3, hF⟩ := bind_some hF
  refine wl0 rfl (op_call hf TF.cl58 rfl (by decide) (spec_l4Nodes_ok (S := fun _ => True) (Network_mkv (x := n') (rep_true (α := List ByteArray) (H.get 2 rfl)) (rep_true (α := List Fiber) (H.get 1 rfl))) (Route_mkv (x := r') (rep_true (α := List Int) (H.get 0 rfl))) hy3) fun v3 w a hp3 hf => ?_)
  obtain ⟨hb3, F2, hp4, hN⟩ := hp3
  obtain ⟨A5, c5, rfl, hl4⟩ := VO_list hp4
  have H := H.addOwn hb3 (X := [(⟨F2, MP.own F2 [(.slice A5 y3.length c5)] (y3 : List Int)⟩ : DI)]) (by simpa using hN.1) (ps1 hl4 ps0) (by simpa using hN.2)
  have H := H.lend 0 rfl
  refine pr 1 hf rfl rfl fun a hf => ?_
  refine wl_end (then_n (sq (reg (pr 1 hf rfl rfl fun a hf => ?_))))
  refine wl_end (then_n (sq (sq (reg (pr 1 hf rfl rfl fun a hf => ?_)))))
  refine wl_end (then_n ?_)
  obtain ⟨out2, hB1, hF⟩ := bind_some hF
  have hf := hf.prune [2, 3, 4, 8, 9, 10, 11] rfl
  have H := H.let [true, true] [true] [true] [0, 1, 2, 3]
  refine loopC (fun (s : List Int × Int × Int) (a : Act) (w : World) => match s with | (out', sum, i) => ∃ (A6 : Option Addr) (c6 : Nat) (E : Go.TypeId), Fr a 64 [(2, (.int .i64 reach)), (3, (.pointer (some ⟨b', 0, none⟩))), (4, (.pointer (some ⟨b2, 0, none⟩))), (8, (.slice A6 out'.length c6)), (9, (.slice A5 y3.length c5)), (10, (.int .i64 sum)), (11, (.int .i64 i))] ∧ Mem ⟨w0, []⟩ S [⟨b2, 43, [(.int .i64 r'.Start), (.slice A3 r'.Fibers.length c3)]⟩, ⟨b', 32, [(.slice A n'.Nodes.length c), (.slice A2 n'.Fibers.length c2)]⟩] [⟨.sh true, E, A6, c6, (out' : List Int)⟩] [⟨F2, MP.own F2 [(.slice A5 y3.length c5)] (y3 : List Int)⟩] [(true, MP.val [(.slice A5 y3.length c5)] (y3 : List Int)), (false, MP.val [(.slice A3 r'.Fibers.length c3)] (r'.Fibers : List Int)), (false, MP.val [(.slice A2 n'.Fibers.length c2)] (n'.Fibers : List Fiber)), (false, MP.val [(.slice A n'.Nodes.length c)] (n'.Nodes : List ByteArray))] w) (fun k (s : List Int × Int × Int) => spec_RegeneratorsFor_L1 fu n' r' reach y3 k s.1 s.2.1 s.2.2 = some out2) (fun s => out2 = Out.next s) (([] : List Int), 0, 0) fu hB1 ⟨A4, 0, 3, hf, H⟩ (fun s h => by cases h) ?_ ?_
  ·rintro fk ⟨out', sum, i⟩ a w hR1 hI
   replace hR1 : spec_RegeneratorsFor_L1 fu n' r' reach y3 (fk + 1) out' sum i = some out2 := hR1
   rw [spec_RegeneratorsFor_L1] at hR1
   obtain ⟨A6, c6, E, hf, H⟩ := hI
   refine sq (sq (reg (pr 2 hf rfl rfl fun a hf => ?_)))
   refine wl0 rfl (op_q hf (rq_loadB hf H TF.ls26 0 rfl rfl rfl) rfl (by decide) fun a hf => ?_)
   refine pr 2 hf rfl rfl fun a hf => ?_
   refine wl_end (then_n (iteB hR1 (fun hc3 hR1 => cd_t hf rfl hc3 ?_) fun hc3 hR1 => cd_f hf rfl hc3 ?_))
   ·refine wp_skip (then_n (sq (wp_block (sq (drawn [] (bs := [false, false, false, false, false, false, false, false, false, false, false]) (fuel := 11) (Checked.mixed Try.checked) rfl rfl fun w hb => ?_)))))
    have H := H.keep hb
    refine tp 0 rfl rfl hf (by kernel_rfl) (fun _ => trivial) rfl fun a hf => ?_
    refine strT H (fun w H => trivial) fun hS => ?_
    refine tS 1 [] rfl rfl rfl rfl hf (by kernel_rfl) (by kernel_rfl) hS (fun w H => rq_loadB hf H TF.ls30 1 rfl rfl rfl) fun a hf => ?_
    refine tp 2 rfl rfl hf (by kernel_rfl) (fun _ => hS) rfl fun a hf => ?_
    refine tS 3 [] rfl rfl rfl rfl hf (by kernel_rfl) (by kernel_rfl) hS (fun w H => rq_loadB hf H TF.ls26 0 rfl rfl rfl) fun a hf => ?_
    refine tp 4 rfl rfl hf (by kernel_rfl) (fun _ => hS) rfl fun a hf => ?_
    obtain ⟨e, he, hR1⟩ := bind_some hR1
    obtain ⟨p, o, cs, hx, hr, H⟩ := pre_iaddr H Try.underlying26 TF.sz3 1 rfl he
    refine tP 5 rfl rfl rfl rfl hf (by kernel_rfl) (fun _ => hS) (fun w => rq_iaddrE hf rfl rfl rfl hx w) fun a hf => ?_
    obtain rfl := hr
    refine strT H (fun w H => H.let [true, true] [true] [true] [1, 2, 3, 4]) fun hS => ?_
    refine tS 6 [] rfl rfl rfl rfl hf (by kernel_rfl) (by kernel_rfl) hS (fun w H => rq_loadI hf H TF.ls3 0 0 rfl rfl rfl) fun a hf => ?_
    obtain ⟨e2, he2, hR1⟩ := bind_some hR1
    obtain ⟨p2, o2, cs2, hx2, hr2, H⟩ := pre_iaddr H Try.underlying30 TF.sz83 3 rfl he2
    refine tP 7 rfl rfl rfl rfl hf (by kernel_rfl) (fun _ => hS) (fun w => rq_iaddrE hf rfl rfl rfl hx2 w) fun a hf => ?_
    obtain rfl := Fiber_cells hr2
    refine tp 8 rfl rfl hf (by kernel_rfl) (fun _ => hS) rfl fun a hf => ?_
    refine strT H (fun w H => H.let [true, true] [true] [true] [1, 2, 3, 4, 5]) fun hS => ?_
    refine tS 9 [] rfl rfl rfl rfl hf (by kernel_rfl) (by kernel_rfl) hS (fun w H => rq_loadI hf H TF.ls3 0 2 rfl rfl rfl) fun a hf => ?_
    refine tp 10 rfl rfl hf (by kernel_rfl) (fun _ => hS) rfl fun a hf => ?_
    refine dn (by kernel_rfl) ?_
    have hf := hf.prune [2, 3, 4, 8, 9, 10, 11, 12] rfl
    refine then_n (sq (sq (reg (pr 3 hf rfl rfl fun a hf => ?_))))
    refine wl_end (then_n (iteB hR1 (fun hc4 hR1 => cd_t hf rfl hc4 ?_) fun hc4 hR1 => cd_f hf rfl hc4 ?_))
    ·refine sq (reg (wl0 rfl (op_bslice hf H (.sh true) rfl 3 ([] : List Int) [] rfl (fun w => by kernel_rfl) rfl (by decide) rfl trivial el0 (by decide) fun A7 a w hf H => ?_)))
     refine pr 2 hf rfl rfl fun a hf => ?_
     refine wl_end (then_n (wp_ret (then_r (blk_r (then_r (then_r (blk_r (then_r (then_r (?_))))))))))
     have H := H.rowOwn 0 rfl rfl
     obtain ⟨F4, H⟩ := H.freezeOwn 0 rfl
     have H := H.lend 0 rfl
     obtain rfl := Option.some.inj hR1
     replace hF := on_ret hF
     obtain rfl := Option.some.inj hF
     refine ret_2 (fn := Try.f25) (r := .tmp 6) (s := .tmp 7) hf rfl (rv_tmp hf rfl) (rv_tmp hf rfl) ?_
     have hN := H.ends (X := [(⟨F4, MP.own F4 [(.slice A7 0 0)] (([] : List Int) : List Int)⟩ : DI)])
     simp only [List.flatMap_cons, List.flatMap_nil, List.append_nil, List.append_assoc] at hN
     exact ⟨_, rfl, H.bel, F4, _, _, rfl, (mko_list (H.ownAt 0 rfl)), mk_bool, hN⟩
    ·refine wp_skip (then_n (sq (sq (reg (pr 5 hf rfl rfl fun a hf => ?_)))))
     refine wl_end (then_n (iteB hR1 (fun hc5 hR1 => cd_t hf rfl hc5 ?_) fun hc5 hR1 => cd_f hf rfl hc5 ?_))
     ·refine sq (reg (pr 3 hf rfl rfl fun a hf => ?_))
      obtain ⟨e3, he3, hR1⟩ := bind_some hR1
      refine wl0 rfl (op_iaddr hf H Try.underlying26 TF.sz3 2 rfl rfl rfl he3 (by decide) fun p3 o3 cs3 a hf hr3 H => ?_)
      obtain rfl := hr3
      refine wl0 rfl (op_q hf (rq_loadI hf H TF.ls3 0 0 rfl rfl rfl) rfl (by decide) fun a hf => ?_)
      refine wl0 rfl (op_bslice hf H (.sh true) rfl 3 ([e3] : List Int) [(.int .i64 e3)] rfl (fun w => by kernel_rfl) rfl (by decide) rfl trivial (el1 (y := e3) (rfl)) (by decide) fun A8 a w hf H => ?_)
      obtain ⟨l, hl, hR1⟩ := bind_some hR1
      refine wl0 rfl (op_appR hf H Try.underlying26 TF.ai3 rfl (by decide) 1 0 rfl rfl rfl rfl (.inr rfl) hl (by decide) fun E2 A9 c7 a w hf H => ?_)
      refine pr 1 hf rfl rfl fun a hf => ?_
      have hf := hf.prune [2, 3, 4, 8, 9, 11, 12] rfl
      refine wl_end (then_n (reg (pr 1 hf rfl rfl fun a hf => ?_)))
      refine wl_end (then_n (reg (pr 4 hf rfl rfl fun a hf => ?_)))
      refine wl_end (blk_n (then_n (reg (pr 3 hf rfl rfl fun a hf => ?_))))
      refine wl_end ?_
      have hf := hf.prune [2, 3, 4, 8, 9, 10, 11] rfl
      have H := H.let [true, true] [false, true] [true] [3, 4, 5, 6]
      exact then_n ⟨(l, w64 (0 + e2.Length), w64 (i + 1)), hR1, A9, c7, E2, hf, H⟩
     ·refine wp_skip (then_n (reg (pr 4 hf rfl rfl fun a hf => ?_)))
      refine wl_end (blk_n (then_n (reg (pr 3 hf rfl rfl fun a hf => ?_))))
      have hf := hf.prune [2, 3, 4, 8, 9, 10, 11] rfl
      refine wl_end ?_
      have hf := hf.prune [2, 3, 4, 8, 9, 10, 11] rfl
      have H := H.let [true, true] [true] [true] [2, 3, 4, 5]
      exact then_n ⟨(out', w64 (sum + e2.Length), w64 (i + 1)), hR1, A6, c6, E, hf, H⟩
   ·refine wp_exit (then_x (then_x (blk_e (?_))))
    have hf := hf.prune [2, 3, 4, 8, 9, 10, 11] rfl
    have H := H.let [true, true] [true] [true] [0, 1, 2, 3]
    exact ⟨(out', sum, i), (Option.some.inj hR1).symm, A6, c6, E, hf, H⟩
  rintro a w ⟨⟨out3, sum2, i2⟩, rfl, A10, c8, E3, hf, H⟩
  replace hF := on_next hF
  dsimp only at hF
  refine then_n (sq (reg (pr 3 hf rfl rfl fun a hf => ?_)))
  refine wl_end (then_n (wp_ret (?_)))
  have H := H.rowOwn 0 rfl rfl
  obtain ⟨F5, H⟩ := H.freezeOwn 0 rfl
  have H := H.lend 0 rfl
  obtain rfl := Option.some.inj hF
  refine ret_2 (fn := Try.f25) (r := .tmp 6) (s := .tmp 7) hf rfl (rv_tmp hf rfl) (rv_tmp hf rfl) ?_
  have hN := H.ends (X := [(⟨F5, MP.own F5 [(.slice A10 out3.length c8)] (out3 : List Int)⟩ : DI)])
  simp only [List.flatMap_cons, List.flatMap_nil, List.append_nil, List.append_assoc] at hN
  exact ⟨_, rfl, H.bel, F5, _, _, rfl, (mko_list (H.ownAt 0 rfl)), mk_bool, hN⟩

/- loop.example/g00897/impl.within -/
set_option maxHeartbeats 1000000 in
theorem impl_within_ok {fu : Nat} {w0 : World} {S : Nat → Prop} {v0_ : Value} {v1_ : Value} {v2_ : Value} {n' : Int} {low : Int} {high : Int} {r : Bool} (h0 : VR w0 S v0_ n') (h1 : VR w0 S v1_ low) (h2 : VR w0 S v2_ high) (hF : impl_within fu n' low high = some r) :
    Calls Try.prog 52 [v0_, v1_, v2_].toArray w0 fun e w' => ∃ v, e = .returned v ∧ (Below w0.heap.size w0 w' ∧ VR w' (St ⟨w0, []⟩ S [] [] [] true) v r) := by
 obtain rfl := VR_int h0
 obtain rfl := VR_int h1
 obtain rfl := VR_int h2
 have H := Mem.start ⟨w0, []⟩ S
 refine enter Try.func52 rfl rfl (nle rfl) rfl fun a hf => ?_
 rw [impl_within] at hF
 refine sq (reg (pr 1 hf rfl rfl fun a hf => ?_))
 refine wl_end (then_n (sq ?_))
 obtain ⟨c, hGc, hF⟩ := bind_some hF
 have fh := hf.prune [] rfl
 have Hm := H.let [] [] [] []
 refine midF 6 (.bool c) fh Hm ?_ fun a w hf H => ?_
 ·refine reg (pr 4 hf rfl rfl fun a hf => ?_)
  refine iteB hGc (fun hc hGc => ?_) fun hc hGc => ?_
  ·have hf := hf.lit 10 rfl hc
   refine pr 5 hf rfl rfl fun a hf => ?_
   obtain rfl := Option.some.inj hGc
   have hf := hf.prune [6] rfl
   have H := H.let [] [] [] []
   exact wl_end ⟨hf, H⟩
  ·have hf := hf.lit 10 rfl hc
   refine pr 5 hf rfl rfl fun a hf => ?_
   obtain rfl := Option.some.inj hGc
   have hf := hf.prune [6] rfl
   have H := H.let [] [] [] []
   exact wl_end ⟨hf, H⟩
 refine then_n (wp_ret (?_))
 obtain rfl := Option.some.inj hF
 refine ret_1 (fn := Try.f52) (r := .tmp 6) hf rfl (rv_tmp hf rfl) ?_
 exact ⟨_, rfl, H.bel, mk_bool⟩

/- loop.example/g00897/impl.isName -/
set_option maxHeartbeats 1000000 in
theorem impl_isName_ok {fu : Nat} {w0 : World} {S : Nat → Prop} {v0_ : Value} {s' : ByteArray} {r : Bool} (h0 : VR w0 S v0_ s') (hF : impl_isName fu s' = some r) :
    Calls Try.prog 93 [v0_].toArray w0 fun e w' => ∃ v, e = .returned v ∧ (Below w0.heap.size w0 w' ∧ VR w' (St ⟨w0, []⟩ S [] [] [] true) v r) := by
 obtain rfl := VR_str h0
 have H := Mem.start ⟨w0, []⟩ S
 refine enter Try.func93 rfl rfl (nle rfl) rfl fun a hf => ?_
 rw [impl_isName] at hF
 refine sq (reg (pr 1 hf rfl rfl fun a hf => ?_))
 refine wl_end (then_n (sq (sq (reg (pr 3 hf rfl rfl fun a hf => ?_)))))
 refine wl_end (then_n ?_)
 obtain ⟨out', hB1, hF⟩ := bind_some hF
 have hf := hf.prune [0, 7, 8] rfl
 have H := H.let [] [] [] []
 refine loopC (fun (s : Int) (a : Act) (w : World) => match s with | i => Fr a 45 [(0, (.string s')), (7, (.int .i64 (s'.size : Int))), (8, (.int .i64 i))] ∧ Mem ⟨w0, []⟩ S [] [] [] [] w) (fun k (s : Int) => impl_isName_L1 fu s' k s = some out') (fun s => out' = Out.next s) 0 fu hB1 ⟨hf, H⟩ (fun s h => by cases h) ?_ ?_
 ·rintro fk i a w hR1 hI
  replace hR1 : impl_isName_L1 fu s' (fk + 1) i = some out' := hR1
  rw [impl_isName_L1] at hR1
  obtain ⟨hf, H⟩ := hI
  refine sq (reg (pr 1 hf rfl rfl fun a hf => ?_))
  refine wl_end (then_n (sq (iteB hR1 (fun hc hR1 => cd_t hf rfl hc ?_) fun hc hR1 => cd_f hf rfl hc ?_)))
  ·refine wp_skip (then_n (sq (wp_block (sq (reg (pr 2 hf rfl rfl fun a hf => ?_))))))
   refine wl_end (then_n (sq (drawn [] (bs := [false, false, false, false, false, false, false, false, false, false, false, false, false, false, false, false, false, false, false, false, false, false]) (fuel := 22) (Checked.mixed Try.checked) rfl rfl fun w hb => ?_)))
   have H := H.keep hb
   refine tp 0 rfl rfl hf (by kernel_rfl) (fun _ => trivial) rfl fun a hf => ?_
   refine tp 1 rfl rfl hf (by kernel_rfl) (fun _ => trivial) rfl fun a hf => ?_
   obtain ⟨e, he, hR1⟩ := bind_some hR1
   refine tP 2 rfl rfl rfl rfl hf (by kernel_rfl) (fun _ => trivial) (fun w => rq_indexS hf Try.underlying9 rfl rfl he) fun a hf => ?_
   refine tP 3 rfl rfl rfl rfl hf (by kernel_rfl) (fun _ => trivial) (fun w => rq_geK hf rfl rfl) fun a hf => ?_
   refine tp 4 rfl rfl hf (by kernel_rfl) (fun _ => trivial) rfl fun a hf => ?_
   refine tp 10 rfl rfl hf (by kernel_rfl) (fun _ => trivial) rfl fun a hf => ?_
   refine tp 11 rfl rfl hf (by kernel_rfl) (fun _ => trivial) rfl fun a hf => ?_
   obtain ⟨e2, he2, hR1⟩ := bind_some hR1
   refine tP 12 rfl rfl rfl rfl hf (by kernel_rfl) (fun _ => trivial) (fun w => rq_indexS hf Try.underlying9 rfl rfl he2) fun a hf => ?_
   refine tP 13 rfl rfl rfl rfl hf (by kernel_rfl) (fun _ => trivial) (fun w => rq_geK hf rfl rfl) fun a hf => ?_
   refine tp 14 rfl rfl hf (by kernel_rfl) (fun _ => trivial) rfl fun a hf => ?_
   refine iteB hR1 (fun hc2 hR1 => ?_) fun hc2 hR1 => ?_
   ·have hf := hf.lit 15 rfl hc2
    refine tpg 5 rfl rfl rfl rfl hf (by kernel_rfl) (fun _ => trivial) rfl fun a hf => ?_
    refine tpg 6 rfl rfl rfl rfl hf (by kernel_rfl) (fun _ => trivial) rfl fun a hf => ?_
    obtain ⟨e3, he3, hR1⟩ := bind_some hR1
    refine tPg 7 rfl rfl rfl rfl rfl rfl hf (by kernel_rfl) (fun _ => trivial) (fun w => rq_indexS hf Try.underlying9 rfl rfl he3) fun a hf => ?_
    refine tPg 8 rfl rfl rfl rfl rfl rfl hf (by kernel_rfl) (fun _ => trivial) (fun w => rq_leK hf rfl rfl) fun a hf => ?_
    refine tp 9 rfl rfl hf (by kernel_rfl) (fun _ => trivial) rfl fun a hf => ?_
    refine tp 20 rfl rfl hf (by kernel_rfl) (fun _ => trivial) rfl fun a hf => ?_
    refine iteB hR1 (fun hc3 hR1 => ?_) fun hc3 hR1 => ?_
    ·have hf := hf.lit 25 rfl hc3
     refine tpg 15 rfl rfl rfl rfl hf (by kernel_rfl) (fun _ => trivial) rfl fun a hf => ?_
     refine tpg 16 rfl rfl rfl rfl hf (by kernel_rfl) (fun _ => trivial) rfl fun a hf => ?_
     obtain ⟨e4, he4, hR1⟩ := bind_some hR1
     refine tPg 17 rfl rfl rfl rfl rfl rfl hf (by kernel_rfl) (fun _ => trivial) (fun w => rq_indexS hf Try.underlying9 rfl rfl he4) fun a hf => ?_
     refine tPg 18 rfl rfl rfl rfl rfl rfl hf (by kernel_rfl) (fun _ => trivial) (fun w => rq_leK hf rfl rfl) fun a hf => ?_
     refine tp 19 rfl rfl hf (by kernel_rfl) (fun _ => trivial) rfl fun a hf => ?_
     refine tp 21 rfl rfl hf (by kernel_rfl) (fun _ => trivial) rfl fun a hf => ?_
     refine dn (by kernel_rfl) ?_
     have hf := hf.prune [0, 3, 4, 5, 7, 8, 16, 17, 18, 19, 26, 27, 28, 29] rfl
     refine then_n (sq ?_)
     obtain ⟨c, hGc, hR1⟩ := bind_some hR1
     have fh := hf.prune [0, 7, 8, 16, 17, 18, 19, 26, 27, 28, 29] rfl
     have Hm := H.let [] [] [] []
     refine midF 40 (.bool c) fh Hm ?_ fun a w hf H => ?_
     ·refine reg (pr 3 hf rfl rfl fun a hf => ?_)
      refine iteB hGc (fun hc4 hGc => ?_) fun hc4 hGc => ?_
      ·have hf := hf.lit 33 rfl hc4
       refine pr 3 hf rfl rfl fun a hf => ?_
       refine iteB hGc (fun hc5 hGc => ?_) fun hc5 hGc => ?_
       ·have hf := hf.lit 36 rfl hc5
        refine pr 4 hf rfl rfl fun a hf => ?_
        obtain rfl := Option.some.inj hGc
        have hf := hf.prune [40, 0, 7, 8, 16, 17, 18, 19, 26, 27, 28, 29] rfl
        have H := H.let [] [] [] []
        exact wl_end ⟨hf, H⟩
       ·have hf := hf.lit 36 rfl hc5
        refine pr 4 hf rfl rfl fun a hf => ?_
        obtain rfl := Option.some.inj hGc
        have hf := hf.prune [40, 0, 7, 8, 16, 17, 18, 19, 26, 27, 28, 29] rfl
        have H := H.let [] [] [] []
        exact wl_end ⟨hf, H⟩
      ·have hf := hf.lit 33 rfl hc4
       refine pr 3 hf rfl rfl fun a hf => ?_
       refine wlsu hf rfl rfl rfl rfl (by decide) fun a hf => ?_
       refine wlsu hf rfl rfl rfl rfl (by decide) fun a hf => ?_
       refine pr 2 hf rfl rfl fun a hf => ?_
       obtain rfl := Option.some.inj hGc
       have hf := hf.prune [40, 0, 7, 8, 16, 17, 18, 19, 26, 27, 28, 29] rfl
       have H := H.let [] [] [] []
       exact wl_end ⟨hf, H⟩
     refine then_n (iteB hR1 (fun hc6 hR1 => cd_t hf rfl hc6 ?_) fun hc6 hR1 => cd_f hf rfl hc6 ?_)
     ·refine sq (reg (pr 1 hf rfl rfl fun a hf => ?_))
      refine wl_end (then_n (wp_ret (blk_r (then_r (then_r (blk_r (then_r (then_r (?_)))))))))
      obtain rfl := Option.some.inj hR1
      replace hF := on_ret hF
      obtain rfl := Option.some.inj hF
      refine ret_1 (fn := Try.f93) (r := .tmp 2) hf rfl (rv_tmp hf rfl) ?_
      exact ⟨_, rfl, H.bel, mk_bool⟩
     ·refine wp_skip (blk_n (then_n (reg (pr 2 hf rfl rfl fun a hf => ?_))))
      refine wl_end ?_
      have hf := hf.prune [0, 7, 8] rfl
      have H := H.let [] [] [] []
      exact then_n ⟨w64 (i + 1), hR1, hf, H⟩
    ·have hf := hf.lit 25 rfl hc3
     refine tU 15 rfl rfl rfl rfl rfl rfl rfl hf (by kernel_rfl) (fun _ => trivial) fun a hf => ?_
     refine tU 16 rfl rfl rfl rfl rfl rfl rfl hf (by kernel_rfl) (fun _ => trivial) fun a hf => ?_
     refine tU 17 rfl rfl rfl rfl rfl rfl rfl hf (by kernel_rfl) (fun _ => trivial) fun a hf => ?_
     refine tU 18 rfl rfl rfl rfl rfl rfl rfl hf (by kernel_rfl) (fun _ => trivial) fun a hf => ?_
     refine tp 19 rfl rfl hf (by kernel_rfl) (fun _ => trivial) rfl fun a hf => ?_
     refine tp 21 rfl rfl hf (by kernel_rfl) (fun _ => trivial) rfl fun a hf => ?_
     refine dn (by kernel_rfl) ?_
     have hf := hf.prune [0, 3, 4, 5, 7, 8, 16, 17, 18, 19] rfl
     refine then_n (sq ?_)
     obtain ⟨c2, hGc2, hR1⟩ := bind_some hR1
     have fh2 := hf.prune [0, 7, 8, 16, 17, 18, 19] rfl
     have Hm2 := H.let [] [] [] []
     refine midF 40 (.bool c2) fh2 Hm2 ?_ fun a w hf H => ?_
     ·refine reg (pr 3 hf rfl rfl fun a hf => ?_)
      refine iteB hGc2 (fun hc7 hGc2 => ?_) fun hc7 hGc2 => ?_
      ·have hf := hf.lit 33 rfl hc7
       refine pr 3 hf rfl rfl fun a hf => ?_
       refine iteB hGc2 (fun hc8 hGc2 => ?_) fun hc8 hGc2 => ?_
       ·have hf := hf.lit 36 rfl hc8
        refine pr 4 hf rfl rfl fun a hf => ?_
        obtain rfl := Option.some.inj hGc2
        have hf := hf.prune [40, 0, 7, 8, 16, 17, 18, 19] rfl
        have H := H.let [] [] [] []
        exact wl_end ⟨hf, H⟩
       ·have hf := hf.lit 36 rfl hc8
        refine pr 4 hf rfl rfl fun a hf => ?_
        obtain rfl := Option.some.inj hGc2
        have hf := hf.prune [40, 0, 7, 8, 16, 17, 18, 19] rfl
        have H := H.let [] [] [] []
        exact wl_end ⟨hf, H⟩
      ·have hf := hf.lit 33 rfl hc7
       refine pr 3 hf rfl rfl fun a hf => ?_
       refine wlsu hf rfl rfl rfl rfl (by decide) fun a hf => ?_
       refine wlsu hf rfl rfl rfl rfl (by decide) fun a hf => ?_
       refine pr 2 hf rfl rfl fun a hf => ?_
       obtain rfl := Option.some.inj hGc2
       have hf := hf.prune [40, 0, 7, 8, 16, 17, 18, 19] rfl
       have H := H.let [] [] [] []
       exact wl_end ⟨hf, H⟩
     refine then_n (iteB hR1 (fun hc9 hR1 => cd_t hf rfl hc9 ?_) fun hc9 hR1 => cd_f hf rfl hc9 ?_)
     ·refine sq (reg (pr 1 hf rfl rfl fun a hf => ?_))
      refine wl_end (then_n (wp_ret (blk_r (then_r (then_r (blk_r (then_r (then_r (?_)))))))))
      obtain rfl := Option.some.inj hR1
      replace hF := on_ret hF
      obtain rfl := Option.some.inj hF
      refine ret_1 (fn := Try.f93) (r := .tmp 2) hf rfl (rv_tmp hf rfl) ?_
      exact ⟨_, rfl, H.bel, mk_bool⟩
     ·refine wp_skip (blk_n (then_n (reg (pr 2 hf rfl rfl fun a hf => ?_))))
      refine wl_end ?_
      have hf := hf.prune [0, 7, 8] rfl
      have H := H.let [] [] [] []
      exact then_n ⟨w64 (i + 1), hR1, hf, H⟩
   ·have hf := hf.lit 15 rfl hc2
    refine tU 5 rfl rfl rfl rfl rfl rfl rfl hf (by kernel_rfl) (fun _ => trivial) fun a hf => ?_
    refine tU 6 rfl rfl rfl rfl rfl rfl rfl hf (by kernel_rfl) (fun _ => trivial) fun a hf => ?_
    refine tU 7 rfl rfl rfl rfl rfl rfl rfl hf (by kernel_rfl) (fun _ => trivial) fun a hf => ?_
    refine tU 8 rfl rfl rfl rfl rfl rfl rfl hf (by kernel_rfl) (fun _ => trivial) fun a hf => ?_
    refine tp 9 rfl rfl hf (by kernel_rfl) (fun _ => trivial) rfl fun a hf => ?_
    refine tp 20 rfl rfl hf (by kernel_rfl) (fun _ => trivial) rfl fun a hf => ?_
    refine iteB hR1 (fun hc10 hR1 => ?_) fun hc10 hR1 => ?_
    ·have hf := hf.lit 25 rfl hc10
     refine tpg 15 rfl rfl rfl rfl hf (by kernel_rfl) (fun _ => trivial) rfl fun a hf => ?_
     refine tpg 16 rfl rfl rfl rfl hf (by kernel_rfl) (fun _ => trivial) rfl fun a hf => ?_
     obtain ⟨e5, he5, hR1⟩ := bind_some hR1
     refine tPg 17 rfl rfl rfl rfl rfl rfl hf (by kernel_rfl) (fun _ => trivial) (fun w => rq_indexS hf Try.underlying9 rfl rfl he5) fun a hf => ?_
     refine tPg 18 rfl rfl rfl rfl rfl rfl hf (by kernel_rfl) (fun _ => trivial) (fun w => rq_leK hf rfl rfl) fun a hf => ?_
     refine tp 19 rfl rfl hf (by kernel_rfl) (fun _ => trivial) rfl fun a hf => ?_
     refine tp 21 rfl rfl hf (by kernel_rfl) (fun _ => trivial) rfl fun a hf => ?_
     refine dn (by kernel_rfl) ?_
     have hf := hf.prune [0, 3, 4, 5, 7, 8, 26, 27, 28, 29] rfl
     refine then_n (sq ?_)
     obtain ⟨c3, hGc3, hR1⟩ := bind_some hR1
     have fh3 := hf.prune [0, 7, 8, 26, 27, 28, 29] rfl
     have Hm3 := H.let [] [] [] []
     refine midF 40 (.bool c3) fh3 Hm3 ?_ fun a w hf H => ?_
     ·refine reg (pr 3 hf rfl rfl fun a hf => ?_)
      refine iteB hGc3 (fun hc11 hGc3 => ?_) fun hc11 hGc3 => ?_
      ·have hf := hf.lit 33 rfl hc11
       refine pr 3 hf rfl rfl fun a hf => ?_
       refine iteB hGc3 (fun hc12 hGc3 => ?_) fun hc12 hGc3 => ?_
       ·have hf := hf.lit 36 rfl hc12
        refine pr 4 hf rfl rfl fun a hf => ?_
        obtain rfl := Option.some.inj hGc3
        have hf := hf.prune [40, 0, 7, 8, 26, 27, 28, 29] rfl
        have H := H.let [] [] [] []
        exact wl_end ⟨hf, H⟩
       ·have hf := hf.lit 36 rfl hc12
        refine pr 4 hf rfl rfl fun a hf => ?_
        obtain rfl := Option.some.inj hGc3
        have hf := hf.prune [40, 0, 7, 8, 26, 27, 28, 29] rfl
        have H := H.let [] [] [] []
        exact wl_end ⟨hf, H⟩
      ·have hf := hf.lit 33 rfl hc11
       refine pr 3 hf rfl rfl fun a hf => ?_
       refine wlsu hf rfl rfl rfl rfl (by decide) fun a hf => ?_
       refine wlsu hf rfl rfl rfl rfl (by decide) fun a hf => ?_
       refine pr 2 hf rfl rfl fun a hf => ?_
       obtain rfl := Option.some.inj hGc3
       have hf := hf.prune [40, 0, 7, 8, 26, 27, 28, 29] rfl
       have H := H.let [] [] [] []
       exact wl_end ⟨hf, H⟩
     refine then_n (iteB hR1 (fun hc13 hR1 => cd_t hf rfl hc13 ?_) fun hc13 hR1 => cd_f hf rfl hc13 ?_)
     ·refine sq (reg (pr 1 hf rfl rfl fun a hf => ?_))
      refine wl_end (then_n (wp_ret (blk_r (then_r (then_r (blk_r (then_r (then_r (?_)))))))))
      obtain rfl := Option.some.inj hR1
      replace hF := on_ret hF
      obtain rfl := Option.some.inj hF
      refine ret_1 (fn := Try.f93) (r := .tmp 2) hf rfl (rv_tmp hf rfl) ?_
      exact ⟨_, rfl, H.bel, mk_bool⟩
     ·refine wp_skip (blk_n (then_n (reg (pr 2 hf rfl rfl fun a hf => ?_))))
      refine wl_end ?_
      have hf := hf.prune [0, 7, 8] rfl
      have H := H.let [] [] [] []
      exact then_n ⟨w64 (i + 1), hR1, hf, H⟩
    ·have hf := hf.lit 25 rfl hc10
     refine tU 15 rfl rfl rfl rfl rfl rfl rfl hf (by kernel_rfl) (fun _ => trivial) fun a hf => ?_
     refine tU 16 rfl rfl rfl rfl rfl rfl rfl hf (by kernel_rfl) (fun _ => trivial) fun a hf => ?_
     refine tU 17 rfl rfl rfl rfl rfl rfl rfl hf (by kernel_rfl) (fun _ => trivial) fun a hf => ?_
     refine tU 18 rfl rfl rfl rfl rfl rfl rfl hf (by kernel_rfl) (fun _ => trivial) fun a hf => ?_
     refine tp 19 rfl rfl hf (by kernel_rfl) (fun _ => trivial) rfl fun a hf => ?_
     refine tp 21 rfl rfl hf (by kernel_rfl) (fun _ => trivial) rfl fun a hf => ?_
     refine dn (by kernel_rfl) ?_
     have hf := hf.prune [0, 3, 4, 5, 7, 8] rfl
     refine then_n (sq ?_)
     obtain ⟨c4, hGc4, hR1⟩ := bind_some hR1
     have fh4 := hf.prune [0, 7, 8] rfl
     have Hm4 := H.let [] [] [] []
     refine midF 40 (.bool c4) fh4 Hm4 ?_ fun a w hf H => ?_
     ·refine reg (pr 3 hf rfl rfl fun a hf => ?_)
      refine iteB hGc4 (fun hc14 hGc4 => ?_) fun hc14 hGc4 => ?_
      ·have hf := hf.lit 33 rfl hc14
       refine pr 3 hf rfl rfl fun a hf => ?_
       refine iteB hGc4 (fun hc15 hGc4 => ?_) fun hc15 hGc4 => ?_
       ·have hf := hf.lit 36 rfl hc15
        refine pr 4 hf rfl rfl fun a hf => ?_
        obtain rfl := Option.some.inj hGc4
        have hf := hf.prune [40, 0, 7, 8] rfl
        have H := H.let [] [] [] []
        exact wl_end ⟨hf, H⟩
       ·have hf := hf.lit 36 rfl hc15
        refine pr 4 hf rfl rfl fun a hf => ?_
        obtain rfl := Option.some.inj hGc4
        have hf := hf.prune [40, 0, 7, 8] rfl
        have H := H.let [] [] [] []
        exact wl_end ⟨hf, H⟩
      ·have hf := hf.lit 33 rfl hc14
       refine pr 3 hf rfl rfl fun a hf => ?_
       refine wlsu hf rfl rfl rfl rfl (by decide) fun a hf => ?_
       refine wlsu hf rfl rfl rfl rfl (by decide) fun a hf => ?_
       refine pr 2 hf rfl rfl fun a hf => ?_
       obtain rfl := Option.some.inj hGc4
       have hf := hf.prune [40, 0, 7, 8] rfl
       have H := H.let [] [] [] []
       exact wl_end ⟨hf, H⟩
     refine then_n (iteB hR1 (fun hc16 hR1 => cd_t hf rfl hc16 ?_) fun hc16 hR1 => cd_f hf rfl hc16 ?_)
     ·refine sq (reg (pr 1 hf rfl rfl fun a hf => ?_))
      refine wl_end (then_n (wp_ret (blk_r (then_r (then_r (blk_r (then_r (then_r (?_)))))))))
      obtain rfl := Option.some.inj hR1
      replace hF := on_ret hF
      obtain rfl := Option.some.inj hF
      refine ret_1 (fn := Try.f93) (r := .tmp 2) hf rfl (rv_tmp hf rfl) ?_
      exact ⟨_, rfl, H.bel, mk_bool⟩
     ·refine wp_skip (blk_n (then_n (reg (pr 2 hf rfl rfl fun a hf => ?_))))
      refine wl_end ?_
      have hf := hf.prune [0, 7, 8] rfl
      have H := H.let [] [] [] []
      exact then_n ⟨w64 (i + 1), hR1, hf, H⟩
  ·refine wp_exit (then_x (then_x (blk_e (?_))))
   have hf := hf.prune [0, 7, 8] rfl
   have H := H.let [] [] [] []
   exact ⟨i, (Option.some.inj hR1).symm, hf, H⟩
 rintro a w ⟨i2, rfl, hf, H⟩
 replace hF := on_next hF
 refine then_n (sq (reg (pr 2 hf rfl rfl fun a hf => ?_)))
 obtain ⟨y, hy, hF⟩ := bind_some hF
 refine wl0 rfl (op_call hf TF.cl52 rfl (by decide) (impl_within_ok (S := fun _ => True) mk_int mk_int mk_int hy) fun v w a hp hf => ?_)
 obtain ⟨hb, hp⟩ := hp
 obtain rfl := VR_bool hp
 have H := H.keep hb
 refine pr 1 hf rfl rfl fun a hf => ?_
 refine wl_end (then_n (wp_ret (?_)))
 obtain rfl := Option.some.inj hF
 refine ret_1 (fn := Try.f93) (r := .tmp 2) hf rfl (rv_tmp hf rfl) ?_
 exact ⟨_, rfl, H.bel, mk_bool⟩

/- slices.Index[[]string,string] -/
set_option maxHeartbeats 1000000 in
theorem slices_Index_string_string_ok {fu : Nat} {w0 : World} {S : Nat → Prop} {v0_ : Value} {v1_ : Value} {s' : List ByteArray} {v : ByteArray} {r : Int} (h0 : VR w0 S v0_ s') (h1 : VR w0 S v1_ v) (hF : slices_Index_string_string fu s' v = some r) :
    Calls Try.prog 120 [v0_, v1_].toArray w0 fun e w' => ∃ v, e = .returned v ∧ (Below w0.heap.size w0 w' ∧ VR w' (St ⟨w0, []⟩ S [] [] [] true) v r) := by
 obtain ⟨A, c, rfl, hl⟩ := VR_list h0
 obtain rfl := VR_str h1
 have H := Mem.start ⟨w0, []⟩ S
 have H := H.pushArg (MP.val [(.slice A s'.length c)] s') hl
 refine enter Try.func120 rfl rfl (nle rfl) rfl fun a hf => ?_
 rw [slices_Index_string_string] at hF
 refine sq (reg (pr 1 hf rfl rfl fun a hf => ?_))
 refine wl_end (then_n (sq (sq (reg (pr 3 hf rfl rfl fun a hf => ?_)))))
 refine wl_end (then_n ?_)
 obtain ⟨out', hB1, hF⟩ := bind_some hF
 have hf := hf.prune [0, 1, 7, 8] rfl
 have H := H.let [] [] [] [0]
 refine loopC (fun (s : Int) (a : Act) (w : World) => match s with | i => Fr a 19 [(0, (.slice A s'.length c)), (1, (.string v)), (7, (.int .i64 (s'.length : Int))), (8, (.int .i64 i))] ∧ Mem ⟨w0, []⟩ S [] [] [] [(false, MP.val [(.slice A s'.length c)] (s' : List ByteArray))] w) (fun k (s : Int) => slices_Index_string_string_L1 fu s' v k s = some out') (fun s => out' = Out.next s) 0 fu hB1 ⟨hf, H⟩ (fun s h => by cases h) ?_ ?_
 ·rintro fk i a w hR1 hI
  replace hR1 : slices_Index_string_string_L1 fu s' v (fk + 1) i = some out' := hR1
  rw [slices_Index_string_string_L1] at hR1
  obtain ⟨hf, H⟩ := hI
  refine sq (reg (pr 1 hf rfl rfl fun a hf => ?_))
  refine wl_end (then_n (sq (iteB hR1 (fun hc hR1 => cd_t hf rfl hc ?_) fun hc hR1 => cd_f hf rfl hc ?_)))
  ·refine wp_skip (then_n (sq (wp_block (sq (reg (pr 2 hf rfl rfl fun a hf => ?_))))))
   refine wl_end (then_n (sq (reg (pr 3 hf rfl rfl fun a hf => ?_))))
   obtain ⟨e, he, hR1⟩ := bind_some hR1
   refine wl0 rfl (op_iaddr hf H Try.underlying22 TF.sz9 0 rfl rfl rfl he (by decide) fun p o cs a hf hr H => ?_)
   obtain rfl := hr
   refine wl0 rfl (op_q hf (rq_loadI hf H TF.ls9 0 0 rfl rfl rfl) rfl (by decide) fun a hf => ?_)
   refine pr 1 hf rfl rfl fun a hf => ?_
   refine wl_end (then_n (iteB hR1 (fun hc2 hR1 => cd_t hf rfl hc2 ?_) fun hc2 hR1 => cd_f hf rfl hc2 ?_))
   ·refine sq (reg (pr 2 hf rfl rfl fun a hf => ?_))
    have hf := hf.prune [4] rfl
    refine wl_end (then_n (wp_ret (blk_r (then_r (then_r (blk_r (then_r (then_r (?_)))))))))
    obtain rfl := Option.some.inj hR1
    replace hF := on_ret hF
    obtain rfl := Option.some.inj hF
    refine ret_1 (fn := Try.f120) (r := .tmp 4) hf rfl (rv_tmp hf rfl) ?_
    exact ⟨_, rfl, H.bel, mk_int⟩
   ·refine wp_skip (blk_n (then_n (reg (pr 2 hf rfl rfl fun a hf => ?_))))
    refine wl_end ?_
    have hf := hf.prune [0, 1, 7, 8] rfl
    have H := H.let [] [] [] [1]
    exact then_n ⟨w64 (i + 1), hR1, hf, H⟩
  ·refine wp_exit (then_x (then_x (blk_e (?_))))
   have hf := hf.prune [0, 1, 7, 8] rfl
   have H := H.let [] [] [] [0]
   exact ⟨i, (Option.some.inj hR1).symm, hf, H⟩
 rintro a w ⟨i2, rfl, hf, H⟩
 replace hF := on_next hF
 refine then_n (sq (reg (pr 1 hf rfl rfl fun a hf => ?_)))
 refine wl_end (then_n (wp_ret (?_)))
 obtain rfl := Option.some.inj hF
 refine ret_1 (fn := Try.f120) (r := .tmp 4) hf rfl (rv_tmp hf rfl) ?_
 exact ⟨_, rfl, H.bel, mk_int⟩

/- slices.Contains[[]string,string] -/
set_option maxHeartbeats 1000000 in
theorem slices_Contains_string_string_ok {fu : Nat} {w0 : World} {S : Nat → Prop} {v0_ : Value} {v1_ : Value} {s' : List ByteArray} {v : ByteArray} {r : Bool} (h0 : VR w0 S v0_ s') (h1 : VR w0 S v1_ v) (hF : slices_Contains_string_string fu s' v = some r) :
    Calls Try.prog 94 [v0_, v1_].toArray w0 fun e w' => ∃ v, e = .returned v ∧ (Below w0.heap.size w0 w' ∧ VR w' (St ⟨w0, []⟩ S [] [] [] true) v r) := by
 obtain ⟨A, c, rfl, hl⟩ := VR_list h0
 obtain rfl := VR_str h1
 have H := Mem.start ⟨w0, []⟩ S
 have H := H.pushArg (MP.val [(.slice A s'.length c)] s') hl
 refine enter Try.func94 rfl rfl (nle rfl) rfl fun a hf => ?_
 rw [slices_Contains_string_string] at hF
 refine sq (reg (pr 1 hf rfl rfl fun a hf => ?_))
 refine wl_end (then_n (sq (reg (pr 2 hf rfl rfl fun a hf => ?_))))
 obtain ⟨y, hy, hF⟩ := bind_some hF
 refine wl0 rfl (op_call hf TF.cl120 rfl (by decide) (slices_Index_string_string_ok (S := fun _ => True) (mk_list (rep_true (α := List ByteArray) (H.get 0 rfl))) mk_str hy) fun v2 w a hp hf => ?_)
 obtain ⟨hb, hp⟩ := hp
 obtain rfl := VR_int hp
 have H := H.keep hb
 refine pr 2 hf rfl rfl fun a hf => ?_
 refine wl_end (then_n (wp_ret (?_)))
 obtain rfl := Option.some.inj hF
 refine ret_1 (fn := Try.f94) (r := .tmp 4) hf rfl (rv_tmp hf rfl) ?_
 exact ⟨_, rfl, H.bel, mk_bool⟩

/- cmp.isNaN[int] -/
set_option maxHeartbeats 1000000 in
theorem cmp_isNaN_int_ok {fu : Nat} {w0 : World} {S : Nat → Prop} {v0_ : Value} {x1 : Int} {r : Bool} (h0 : VR w0 S v0_ x1) (hF : cmp_isNaN_int fu x1 = some r) :
    Calls Try.prog 117 [v0_].toArray w0 fun e w' => ∃ v, e = .returned v ∧ (Below w0.heap.size w0 w' ∧ VR w' (St ⟨w0, []⟩ S [] [] [] true) v r) := by
 obtain rfl := VR_int h0
 have H := Mem.start ⟨w0, []⟩ S
 refine enter Try.func117 rfl rfl (nle rfl) rfl fun a hf => ?_
 rw [cmp_isNaN_int] at hF
 refine sq (reg (pr 1 hf rfl rfl fun a hf => ?_))
 refine wl_end (then_n (sq (reg (pr 4 hf rfl rfl fun a hf => ?_))))
 refine wl_end (then_n (wp_ret (?_)))
 obtain rfl := Option.some.inj hF
 refine ret_1 (fn := Try.f117) (r := .tmp 2) hf rfl (rv_tmp hf rfl) ?_
 exact ⟨_, rfl, H.bel, mk_bool⟩

/- cmp.Compare[int] -/
set_option maxHeartbeats 1000000 in
theorem cmp_Compare_int_ok {fu : Nat} {w0 : World} {S : Nat → Prop} {v0_ : Value} {v1_ : Value} {x1 : Int} {y : Int} {r : Int} (h0 : VR w0 S v0_ x1) (h1 : VR w0 S v1_ y) (hF : cmp_Compare_int fu x1 y = some r) :
    Calls Try.prog 83 [v0_, v1_].toArray w0 fun e w' => ∃ v, e = .returned v ∧ (Below w0.heap.size w0 w' ∧ VR w' (St ⟨w0, []⟩ S [] [] [] true) v r) := by
 obtain rfl := VR_int h0
 obtain rfl := VR_int h1
 have H := Mem.start ⟨w0, []⟩ S
 refine enter Try.func83 rfl rfl (nle rfl) rfl fun a hf => ?_
 rw [cmp_Compare_int] at hF
 refine sq (reg (pr 1 hf rfl rfl fun a hf => ?_))
 refine wl_end (then_n (sq (reg (pr 1 hf rfl rfl fun a hf => ?_))))
 obtain ⟨y2, hy2, hF⟩ := bind_some hF
 refine wl0 rfl (op_call hf TF.cl117 rfl (by decide) (cmp_isNaN_int_ok (S := fun _ => True) mk_int hy2) fun v w a hp hf => ?_)
 obtain ⟨hb, hp⟩ := hp
 obtain rfl := VR_bool hp
 have H := H.keep hb
 refine pr 1 hf rfl rfl fun a hf => ?_
 refine wl_end (then_n (sq (reg (pr 1 hf rfl rfl fun a hf => ?_))))
 obtain ⟨y3, hy3, hF⟩ := bind_some hF
 refine wl0 rfl (op_call hf TF.cl117 rfl (by decide) (cmp_isNaN_int_ok (S := fun _ => True) mk_int hy3) fun v2 w a hp2 hf => ?_)
 obtain ⟨hb2, hp2⟩ := hp2
 obtain rfl := VR_bool hp2
 have H := H.keep hb2
 refine pr 1 hf rfl rfl fun a hf => ?_
 refine wl_end (then_n (sq (sq (reg (pr 1 hf rfl rfl fun a hf => ?_)))))
 refine wl_end (then_n (iteB hF (fun hc hF => cd_t hf rfl hc ?_) fun hc hF => cd_f hf rfl hc ?_))
 ·refine sq (sq (reg (pr 1 hf rfl rfl fun a hf => ?_)))
  refine wl_end (then_n (iteB hF (fun hc2 hF => cd_t hf rfl hc2 ?_) fun hc2 hF => cd_f hf rfl hc2 ?_))
  ·refine sq (reg (pr 1 hf rfl rfl fun a hf => ?_))
   refine wl_end (then_n (wp_ret (then_r (then_r (?_)))))
   obtain rfl := Option.some.inj hF
   refine ret_1 (fn := Try.f83) (r := .tmp 4) hf rfl (rv_tmp hf rfl) ?_
   exact ⟨_, rfl, H.bel, mk_int⟩
  ·refine wp_skip (then_n (sq (reg (pr 1 hf rfl rfl fun a hf => ?_))))
   refine wl_end (then_n (wp_ret (then_r (?_))))
   obtain rfl := Option.some.inj hF
   refine ret_1 (fn := Try.f83) (r := .tmp 4) hf rfl (rv_tmp hf rfl) ?_
   exact ⟨_, rfl, H.bel, mk_int⟩
 ·refine wp_skip (then_n (sq (sq (reg (pr 1 hf rfl rfl fun a hf => ?_)))))
  refine wl_end (then_n (iteB hF (fun hc3 hF => cd_t hf rfl hc3 ?_) fun hc3 hF => cd_f hf rfl hc3 ?_))
  ·refine sq (reg (pr 1 hf rfl rfl fun a hf => ?_))
   refine wl_end (then_n (wp_ret (then_r (?_))))
   obtain rfl := Option.some.inj hF
   refine ret_1 (fn := Try.f83) (r := .tmp 4) hf rfl (rv_tmp hf rfl) ?_
   exact ⟨_, rfl, H.bel, mk_int⟩
  ·refine wp_skip (then_n (sq (sq (reg (pr 3 hf rfl rfl fun a hf => ?_)))))
   refine wl_end (then_n (iteB hF (fun hc4 hF => cd_t hf rfl hc4 ?_) fun hc4 hF => cd_f hf rfl hc4 ?_))
   ·refine sq (reg (pr 1 hf rfl rfl fun a hf => ?_))
    have hf := hf.prune [4] rfl
    refine wl_end (then_n (wp_ret (then_r (?_))))
    obtain rfl := Option.some.inj hF
    refine ret_1 (fn := Try.f83) (r := .tmp 4) hf rfl (rv_tmp hf rfl) ?_
    exact ⟨_, rfl, H.bel, mk_int⟩
   ·refine wp_skip (then_n (sq (sq (reg (pr 3 hf rfl rfl fun a hf => ?_)))))
    have hf := hf.prune [19] rfl
    refine wl_end (then_n (iteB hF (fun hc5 hF => cd_t hf rfl hc5 ?_) fun hc5 hF => cd_f hf rfl hc5 ?_))
    ·refine sq (reg (pr 1 hf rfl rfl fun a hf => ?_))
     refine wl_end (then_n (wp_ret (then_r (?_))))
     obtain rfl := Option.some.inj hF
     refine ret_1 (fn := Try.f83) (r := .tmp 4) hf rfl (rv_tmp hf rfl) ?_
     exact ⟨_, rfl, H.bel, mk_int⟩
    ·refine wp_skip (then_n (sq (reg (pr 1 hf rfl rfl fun a hf => ?_))))
     refine wl_end (then_n (wp_ret (?_)))
     obtain rfl := Option.some.inj hF
     refine ret_1 (fn := Try.f83) (r := .tmp 4) hf rfl (rv_tmp hf rfl) ?_
     exact ⟨_, rfl, H.bel, mk_int⟩

/- cmp.Or[int] -/
set_option maxHeartbeats 1000000 in
theorem cmp_Or_int_ok {fu : Nat} {w0 : World} {S : Nat → Prop} {v0_ : Value} {vals : List Int} {r : Int} (h0 : VR w0 S v0_ vals) (hF : cmp_Or_int fu vals = some r) :
    Calls Try.prog 121 [v0_].toArray w0 fun e w' => ∃ v, e = .returned v ∧ (Below w0.heap.size w0 w' ∧ VR w' (St ⟨w0, []⟩ S [] [] [] true) v r) := by
 obtain ⟨A, c, rfl, hl⟩ := VR_list h0
 have H := Mem.start ⟨w0, []⟩ S
 have H := H.pushArg (MP.val [(.slice A vals.length c)] vals) hl
 refine enter Try.func121 rfl rfl (nle rfl) rfl fun a hf => ?_
 rw [cmp_Or_int] at hF
 refine sq (reg (pr 1 hf rfl rfl fun a hf => ?_))
 refine wl_end (then_n (sq (reg (pr 1 hf rfl rfl fun a hf => ?_))))
 refine wl_end (then_n (sq (sq (reg (pr 3 hf rfl rfl fun a hf => ?_)))))
 refine wl_end (then_n ?_)
 obtain ⟨out', hB1, hF⟩ := bind_some hF
 have hf := hf.prune [3, 6, 7, 8] rfl
 have H := H.let [] [] [] [0]
 refine loopC (fun (s : Int) (a : Act) (w : World) => match s with | i => Fr a 18 [(3, (.int .i64 0)), (6, (.slice A vals.length c)), (7, (.int .i64 (vals.length : Int))), (8, (.int .i64 i))] ∧ Mem ⟨w0, []⟩ S [] [] [] [(false, MP.val [(.slice A vals.length c)] (vals : List Int))] w) (fun k (s : Int) => cmp_Or_int_L1 fu vals k s = some out') (fun s => out' = Out.next s) 0 fu hB1 ⟨hf, H⟩ (fun s h => by cases h) ?_ ?_
 ·rintro fk i a w hR1 hI
  replace hR1 : cmp_Or_int_L1 fu vals (fk + 1) i = some out' := hR1
  rw [cmp_Or_int_L1] at hR1
  obtain ⟨hf, H⟩ := hI
  refine sq (reg (pr 1 hf rfl rfl fun a hf => ?_))
  refine wl_end (then_n (sq (iteB hR1 (fun hc hR1 => cd_t hf rfl hc ?_) fun hc hR1 => cd_f hf rfl hc ?_)))
  ·refine wp_skip (then_n (sq (wp_block (sq (reg ?_)))))
   obtain ⟨e, he, hR1⟩ := bind_some hR1
   refine wl0 rfl (op_iaddr hf H Try.underlying26 TF.sz3 0 rfl rfl rfl he (by decide) fun p o cs a hf hr H => ?_)
   obtain rfl := hr
   refine wl0 rfl (op_q hf (rq_loadI hf H TF.ls3 0 0 rfl rfl rfl) rfl (by decide) fun a hf => ?_)
   refine pr 1 hf rfl rfl fun a hf => ?_
   refine wl_end (then_n (sq (reg (pr 3 hf rfl rfl fun a hf => ?_))))
   refine wl_end (then_n (iteB hR1 (fun hc2 hR1 => cd_t hf rfl hc2 ?_) fun hc2 hR1 => cd_f hf rfl hc2 ?_))
   ·refine sq (reg (pr 2 hf rfl rfl fun a hf => ?_))
    refine wl_end (then_n (wp_ret (blk_r (then_r (then_r (blk_r (then_r (then_r (?_)))))))))
    obtain rfl := Option.some.inj hR1
    replace hF := on_ret hF
    obtain rfl := Option.some.inj hF
    refine ret_1 (fn := Try.f121) (r := .tmp 2) hf rfl (rv_tmp hf rfl) ?_
    exact ⟨_, rfl, H.bel, mk_int⟩
   ·refine wp_skip (blk_n (then_n (reg (pr 2 hf rfl rfl fun a hf => ?_))))
    refine wl_end ?_
    have hf := hf.prune [3, 6, 7, 8] rfl
    have H := H.let [] [] [] [1]
    exact then_n ⟨w64 (i + 1), hR1, hf, H⟩
  ·refine wp_exit (then_x (then_x (blk_e (?_))))
   have hf := hf.prune [3, 6, 7, 8] rfl
   have H := H.let [] [] [] [0]
   exact ⟨i, (Option.some.inj hR1).symm, hf, H⟩
 rintro a w ⟨i2, rfl, hf, H⟩
 replace hF := on_next hF
 refine then_n (sq (reg (pr 2 hf rfl rfl fun a hf => ?_)))
 refine wl_end (then_n (wp_ret (?_)))
 obtain rfl := Option.some.inj hF
 refine ret_1 (fn := Try.f121) (r := .tmp 2) hf rfl (rv_tmp hf rfl) ?_
 exact ⟨_, rfl, H.bel, mk_int⟩

/- loop.example/g00897/impl.compareFibers -/
set_option maxHeartbeats 1000000 in
theorem impl_compareFibers_ok {fu : Nat} {w0 : World} {S : Nat → Prop} {v0_ : Value} {v1_ : Value} {a' : Fiber} {b' : Fiber} {r : Int} (h0 : VR w0 S v0_ a') (h1 : VR w0 S v1_ b') (hF : impl_compareFibers fu a' b' = some r) :
    Calls Try.prog 95 [v0_, v1_].toArray w0 fun e w' => ∃ v, e = .returned v ∧ (Below w0.heap.size w0 w' ∧ VR w' (St ⟨w0, []⟩ S [] [] [] true) v r) := by
 obtain rfl := Fiber_open h0
 obtain rfl := Fiber_open h1
 have H := Mem.start ⟨w0, []⟩ S
 refine enter Try.func95 rfl rfl (nle rfl) rfl fun a hf => ?_
 rw [impl_compareFibers] at hF
 refine sq (reg (wl0 rfl (op_box hf H rfl rfl (by decide) fun b2 a w hf H => ?_)))
 refine wl0 rfl (op_box hf H rfl rfl (by decide) fun b3 a w hf H => ?_)
 refine pr 1 hf rfl rfl fun a hf => ?_
 refine wl_end (then_n (sq (drawn [] (bs := [false, false, false, false, false, false, false, false, false, false, false, false, false, false, false, false, false, false, false, false, false, false, false]) (fuel := 23) (Checked.mixed Try.checked) rfl rfl fun w hb => ?_)))
 have H := H.keep hb
 refine tp 0 rfl rfl hf (by kernel_rfl) (fun _ => trivial) rfl fun a hf => ?_
 refine strT H (fun w H => trivial) fun hS => ?_
 refine tS 1 [] rfl rfl rfl rfl hf (by kernel_rfl) (by kernel_rfl) hS (fun w H => rq_loadB hf H TF.ls3 1 rfl rfl rfl) fun a hf => ?_
 refine tp 2 rfl rfl hf (by kernel_rfl) (fun _ => hS) rfl fun a hf => ?_
 refine tS 3 [] rfl rfl rfl rfl hf (by kernel_rfl) (by kernel_rfl) hS (fun w H => rq_loadB hf H TF.ls3 0 rfl rfl rfl) fun a hf => ?_
 refine tp 5 rfl rfl hf (by kernel_rfl) (fun _ => hS) rfl fun a hf => ?_
 refine tS 6 [] rfl rfl rfl rfl hf (by kernel_rfl) (by kernel_rfl) hS (fun w H => rq_loadB hf H TF.ls3 1 rfl rfl rfl) fun a hf => ?_
 refine tp 7 rfl rfl hf (by kernel_rfl) (fun _ => hS) rfl fun a hf => ?_
 refine tS 8 [] rfl rfl rfl rfl hf (by kernel_rfl) (by kernel_rfl) hS (fun w H => rq_loadB hf H TF.ls3 0 rfl rfl rfl) fun a hf => ?_
 refine tp 10 rfl rfl hf (by kernel_rfl) (fun _ => hS) rfl fun a hf => ?_
 refine tS 11 [] rfl rfl rfl rfl hf (by kernel_rfl) (by kernel_rfl) hS (fun w H => rq_loadB hf H TF.ls3 1 rfl rfl rfl) fun a hf => ?_
 refine tp 12 rfl rfl hf (by kernel_rfl) (fun _ => hS) rfl fun a hf => ?_
 refine tS 13 [] rfl rfl rfl rfl hf (by kernel_rfl) (by kernel_rfl) hS (fun w H => rq_loadB hf H TF.ls3 0 rfl rfl rfl) fun a hf => ?_
 refine tp 15 rfl rfl hf (by kernel_rfl) (fun _ => hS) rfl fun a hf => ?_
 refine tS 16 [] rfl rfl rfl rfl hf (by kernel_rfl) (by kernel_rfl) hS (fun w H => rq_loadB hf H TF.ls3 1 rfl rfl rfl) fun a hf => ?_
 refine tp 17 rfl rfl hf (by kernel_rfl) (fun _ => hS) rfl fun a hf => ?_
 refine tS 18 [] rfl rfl rfl rfl hf (by kernel_rfl) (by kernel_rfl) hS (fun w H => rq_loadB hf H TF.ls3 0 rfl rfl rfl) fun a hf => ?_
 obtain ⟨y, hy, hF⟩ := bind_some hF
 refine n1 4 (by kernel_rfl) rfl rfl (op_call hf TF.cl83 rfl (by decide) (cmp_Compare_int_ok (S := fun _ => True) mk_int mk_int hy) fun v w a hp hf => ?_)
 obtain ⟨hb, hp⟩ := hp
 obtain rfl := VR_int hp
 have H := H.keep hb
 have hS := H
 refine ⟨fun _ => hS, ?_⟩
 obtain ⟨y2, hy2, hF⟩ := bind_some hF
 refine n1 9 (by kernel_rfl) rfl rfl (op_call hf TF.cl83 rfl (by decide) (cmp_Compare_int_ok (S := fun _ => True) mk_int mk_int hy2) fun v2 w a hp2 hf => ?_)
 obtain ⟨hb2, hp2⟩ := hp2
 obtain rfl := VR_int hp2
 have H := H.keep hb2
 have hS := H
 refine ⟨fun _ => hS, ?_⟩
 obtain ⟨y3, hy3, hF⟩ := bind_some hF
 refine n1 14 (by kernel_rfl) rfl rfl (op_call hf TF.cl83 rfl (by decide) (cmp_Compare_int_ok (S := fun _ => True) mk_int mk_int hy3) fun v3 w a hp3 hf => ?_)
 obtain ⟨hb3, hp3⟩ := hp3
 obtain rfl := VR_int hp3
 have H := H.keep hb3
 have hS := H
 refine ⟨fun _ => hS, ?_⟩
 obtain ⟨y4, hy4, hF⟩ := bind_some hF
 refine n1 19 (by kernel_rfl) rfl rfl (op_call hf TF.cl83 rfl (by decide) (cmp_Compare_int_ok (S := fun _ => True) mk_int mk_int hy4) fun v4 w a hp4 hf => ?_)
 obtain ⟨hb4, hp4⟩ := hp4
 obtain rfl := VR_int hp4
 have H := H.keep hb4
 have hS := H
 refine ⟨fun _ => hS, ?_⟩
 refine n1 20 (by kernel_rfl) rfl rfl (op_bslice hf H (.sh true) rfl 3 ([y, y2, y3, y4] : List Int) [(.int .i64 y), (.int .i64 y2), (.int .i64 y3), (.int .i64 y4)] rfl (fun w => by kernel_rfl) rfl (by decide) rfl trivial (elI [y, y2, y3, y4]) (by decide) fun A a w hf H => ?_)
 have hS := H.let [true, true] [false] [] []
 refine ⟨fun _ => hS, ?_⟩
 obtain ⟨y5, hy5, hF⟩ := bind_some hF
 refine n1 21 (by kernel_rfl) rfl rfl (op_call hf TF.cl121 rfl (by decide) (cmp_Or_int_ok (S := fun _ => True) (mk_list (H.rowTrue 0 rfl)) hy5) fun v5 w a hp5 hf => ?_)
 obtain ⟨hb5, hp5⟩ := hp5
 obtain rfl := VR_int hp5
 have H := H.keep hb5
 have hS := H.let [true, true] [false] [] []
 refine ⟨fun _ => hS, ?_⟩
 refine tp 22 rfl rfl hf (by kernel_rfl) (fun _ => hS) rfl fun a hf => ?_
 refine dn (by kernel_rfl) ?_
 have hf := hf.prune [4] rfl
 refine then_n (wp_ret (?_))
 obtain rfl := Option.some.inj hF
 refine ret_1 (fn := Try.f95) (r := .tmp 4) hf rfl (rv_tmp hf rfl) ?_
 exact ⟨_, rfl, H.bel, mk_int⟩

/- loop.example/g00897/impl.IsValidNetwork -/
set_option maxHeartbeats 1000000 in
theorem impl_IsValidNetwork_ok {fu : Nat} {w0 : World} {S : Nat → Prop} {v0_ : Value} {n' : Network} {r : Bool} (h0 : VR w0 S v0_ n') (hF : impl_IsValidNetwork fu n' = some r) :
    Calls Try.prog 50 [v0_].toArray w0 fun e w' => ∃ v, e = .returned v ∧ (Below w0.heap.size w0 w' ∧ VR w' (St ⟨w0, []⟩ S [] [] [] true) v r) := by
 obtain ⟨A, c, A2, c2, rfl, hl, hl2⟩ := Network_open h0
 have H := Mem.start ⟨w0, []⟩ S
 have H := H.pushArg (MP.val [(.slice A n'.Nodes.length c)] n'.Nodes) hl
 have H := H.pushArg (MP.val [(.slice A2 n'.Fibers.length c2)] n'.Fibers) hl2
 refine enter Try.func50 rfl rfl (nle rfl) rfl fun a hf => ?_
 rw [impl_IsValidNetwork] at hF
 refine sq (reg (wl0 rfl (op_box hf H rfl rfl (by decide) fun b' a w hf H => ?_)))
 refine pr 1 hf rfl rfl fun a hf => ?_
 refine wl_end (then_n (sq (sq (reg (pr 1 hf rfl rfl fun a hf => ?_)))))
 refine wl0 rfl (op_q hf (rq_loadB hf H TF.ls22 0 rfl rfl rfl) rfl (by decide) fun a hf => ?_)
 refine pr 2 hf rfl rfl fun a hf => ?_
 refine wl_end (then_n ?_)
 obtain ⟨out', hB1, hF⟩ := bind_some hF
 have hf := hf.prune [1, 8, 9, 10] rfl
 have H := H.let [true] [] [] [0, 1]
 refine loopC (fun (s : Int) (a : Act) (w : World) => match s with | i => Fr a 91 [(1, (.pointer (some ⟨b', 0, none⟩))), (8, (.slice A n'.Nodes.length c)), (9, (.int .i64 (n'.Nodes.length : Int))), (10, (.int .i64 i))] ∧ Mem ⟨w0, []⟩ S [⟨b', 32, [(.slice A n'.Nodes.length c), (.slice A2 n'.Fibers.length c2)]⟩] [] [] [(false, MP.val [(.slice A2 n'.Fibers.length c2)] (n'.Fibers : List Fiber)), (false, MP.val [(.slice A n'.Nodes.length c)] (n'.Nodes : List ByteArray))] w) (fun k (s : Int) => impl_IsValidNetwork_L1 fu n' k s = some out') (fun s => out' = Out.next s) 0 fu hB1 ⟨hf, H⟩ (fun s h => by cases h) ?_ ?_
 ·rintro fk i a w hR1 hI
  replace hR1 : impl_IsValidNetwork_L1 fu n' (fk + 1) i = some out' := hR1
  rw [impl_IsValidNetwork_L1] at hR1
  obtain ⟨hf, H⟩ := hI
  refine sq (reg (pr 1 hf rfl rfl fun a hf => ?_))
  refine wl_end (then_n (sq (iteB hR1 (fun hc hR1 => cd_t hf rfl hc ?_) fun hc hR1 => cd_f hf rfl hc ?_)))
  ·refine wp_skip (then_n (sq (wp_block (sq (reg (pr 1 hf rfl rfl fun a hf => ?_))))))
   obtain ⟨e, he, hR1⟩ := bind_some hR1
   refine wl0 rfl (op_iaddr hf H Try.underlying22 TF.sz9 1 rfl rfl rfl he (by decide) fun p o cs a hf hr H => ?_)
   obtain rfl := hr
   refine wl0 rfl (op_q hf (rq_loadI hf H TF.ls9 0 0 rfl rfl rfl) rfl (by decide) fun a hf => ?_)
   refine pr 2 hf rfl rfl fun a hf => ?_
   refine wl_end (then_n (sq ?_))
   obtain ⟨c3, hGc3, hR1⟩ := bind_some hR1
   have fh := hf.prune [1, 8, 9, 10] rfl
   have Hm := H.let [true] [] [] [1, 2]
   refine midF 25 (.bool c3) fh Hm ?_ fun a w hf H => ?_
   ·refine reg (pr 1 hf rfl rfl fun a hf => ?_)
    obtain ⟨y, hy, hGc3⟩ := bind_some hGc3
    refine wl0 rfl (op_call hf TF.cl93 rfl (by decide) (impl_isName_ok (S := fun _ => True) mk_str hy) fun v w a hp hf => ?_)
    obtain ⟨hb, hp⟩ := hp
    obtain rfl := VR_bool hp
    have H := H.keep hb
    refine pr 2 hf rfl rfl fun a hf => ?_
    refine iteB hGc3 (fun hc2 hGc3 => ?_) fun hc2 hGc3 => ?_
    ·have hf := hf.lit 18 rfl hc2
     refine pr 7 hf rfl rfl fun a hf => ?_
     obtain rfl := Option.some.inj hGc3
     have hf := hf.prune [25, 1, 8, 9, 10] rfl
     have H := H.let [true] [] [] [1, 2]
     exact wl_end ⟨hf, H⟩
    ·have hf := hf.lit 18 rfl hc2
     refine pr 1 hf rfl rfl fun a hf => ?_
     refine wlg hf rfl rfl rfl (op_q hf (rq_loadB hf H TF.ls22 0 rfl rfl rfl) rfl (by decide) fun a hf => ?_)
     refine pr 1 hf rfl rfl fun a hf => ?_
     obtain ⟨l, hl, hGc3⟩ := bind_some hGc3
     refine wlg hf rfl rfl rfl (op_sliceI hf H Try.underlying22 TF.sz9 2 rfl rfl rfl rfl hl (by decide) fun A3 c4 a hf H => ?_)
     refine pr 1 hf rfl rfl fun a hf => ?_
     obtain ⟨y2, hy2, hGc3⟩ := bind_some hGc3
     refine wlg hf rfl rfl rfl (op_call hf TF.cl94 rfl (by decide) (slices_Contains_string_string_ok (S := fun _ => True) (mk_list (rep_true (α := List ByteArray) (H.get 0 rfl))) mk_str hy2) fun v2 w a hp2 hf => ?_)
     obtain ⟨hb2, hp2⟩ := hp2
     obtain rfl := VR_bool hp2
     have H := H.keep hb2
     refine pr 1 hf rfl rfl fun a hf => ?_
     obtain rfl := Option.some.inj hGc3
     have hf := hf.prune [25, 1, 8, 9, 10] rfl
     have H := H.let [true] [] [] [2, 3]
     exact wl_end ⟨hf, H⟩
   refine then_n (iteB hR1 (fun hc3 hR1 => cd_t hf rfl hc3 ?_) fun hc3 hR1 => cd_f hf rfl hc3 ?_)
   ·refine sq (reg (pr 1 hf rfl rfl fun a hf => ?_))
    refine wl_end (then_n (wp_ret (blk_r (then_r (then_r (blk_r (then_r (then_r (?_)))))))))
    obtain rfl := Option.some.inj hR1
    replace hF := on_ret hF
    obtain rfl := Option.some.inj hF
    refine ret_1 (fn := Try.f50) (r := .tmp 2) hf rfl (rv_tmp hf rfl) ?_
    exact ⟨_, rfl, H.bel, mk_bool⟩
   ·refine wp_skip (blk_n (then_n (reg (pr 2 hf rfl rfl fun a hf => ?_))))
    refine wl_end ?_
    have hf := hf.prune [1, 8, 9, 10] rfl
    have H := H.let [true] [] [] [0, 1]
    exact then_n ⟨w64 (i + 1), hR1, hf, H⟩
  ·refine wp_exit (then_x (then_x (blk_e (?_))))
   have hf := hf.prune [1, 8, 9, 10] rfl
   have H := H.let [true] [] [] [0, 1]
   exact ⟨i, (Option.some.inj hR1).symm, hf, H⟩
 rintro a w ⟨i2, rfl, hf, H⟩
 replace hF := on_next hF
 refine then_n (sq (sq (reg (pr 1 hf rfl rfl fun a hf => ?_))))
 refine wl0 rfl (op_q hf (rq_loadB hf H TF.ls30 0 rfl rfl rfl) rfl (by decide) fun a hf => ?_)
 refine pr 2 hf rfl rfl fun a hf => ?_
 refine wl_end (then_n ?_)
 obtain ⟨out2, hB1, hF⟩ := bind_some hF
 have hf := hf.prune [1, 28, 29, 30] rfl
 have H := H.let [true] [] [] [0, 1]
 refine loopC (fun (s : Int) (a : Act) (w : World) => match s with | i3 => Fr a 91 [(1, (.pointer (some ⟨b', 0, none⟩))), (28, (.slice A2 n'.Fibers.length c2)), (29, (.int .i64 (n'.Fibers.length : Int))), (30, (.int .i64 i3))] ∧ Mem ⟨w0, []⟩ S [⟨b', 32, [(.slice A n'.Nodes.length c), (.slice A2 n'.Fibers.length c2)]⟩] [] [] [(false, MP.val [(.slice A2 n'.Fibers.length c2)] (n'.Fibers : List Fiber)), (false, MP.val [(.slice A n'.Nodes.length c)] (n'.Nodes : List ByteArray))] w) (fun k (s : Int) => impl_IsValidNetwork_L2 fu n' k s = some out2) (fun s => out2 = Out.next s) 0 fu hB1 ⟨hf, H⟩ (fun s h => by cases h) ?_ ?_
 ·rintro fk i3 a w hR1 hI
  replace hR1 : impl_IsValidNetwork_L2 fu n' (fk + 1) i3 = some out2 := hR1
  rw [impl_IsValidNetwork_L2] at hR1
  obtain ⟨hf, H⟩ := hI
  refine sq (reg (pr 1 hf rfl rfl fun a hf => ?_))
  refine wl_end (then_n (sq (iteB hR1 (fun hc4 hR1 => cd_t hf rfl hc4 ?_) fun hc4 hR1 => cd_f hf rfl hc4 ?_)))
  ·refine wp_skip (then_n (sq (wp_block (sq (reg (pr 1 hf rfl rfl fun a hf => ?_))))))
   obtain ⟨e2, he2, hR1⟩ := bind_some hR1
   refine wl0 rfl (op_iaddr hf H Try.underlying30 TF.sz83 0 rfl rfl rfl he2 (by decide) fun p2 o2 cs2 a hf hr2 H => ?_)
   obtain rfl := Fiber_cells hr2
   refine wl0 rfl (op_q hf (rq_loadIN hf H TF.la83 0 0 rfl rfl rfl rfl) rfl (by decide) fun a hf => ?_)
   refine wl0 rfl (op_alloc hf H TF.zv83 rfl (by decide) fun b2 a w hf H => ?_)
   refine pr 1 hf rfl rfl fun a hf => ?_
   refine wl0 rfl (op_storeB hf H 0 TF.sz83 rfl rfl rfl rfl rfl rfl (nle rfl) fun w H => ?_)
   refine wl_end (then_n (sq ?_))
   obtain ⟨c5, hGc5, hR1⟩ := bind_some hR1
   have fh2 := hf.prune [1, 28, 29, 30] rfl
   have Hm2 := H.let [false, true] [] [] [1, 2]
   refine midF 79 (.bool c5) fh2 Hm2 ?_ fun a w hf H => ?_
   ·refine drawn [] (bs := [false, false, false, false, false, false, false, false, false, false, false, false, false, false, false, false, false, false, false, false, false, false, false, false, false, false, false, false, false, false, false, false, false, false, false, false, false, false, false, false, false, false, false, false, false]) (fuel := 45) (Checked.mixed Try.checked) rfl rfl fun w hb => ?_
    have H := H.keep hb
    refine tp 0 rfl rfl hf (by kernel_rfl) (fun _ => trivial) rfl fun a hf => ?_
    refine strT H (fun w H => trivial) fun hS => ?_
    refine tS 1 [] rfl rfl rfl rfl hf (by kernel_rfl) (by kernel_rfl) hS (fun w H => rq_loadB hf H TF.ls3 0 rfl rfl rfl) fun a hf => ?_
    refine tp 2 rfl rfl hf (by kernel_rfl) (fun _ => hS) rfl fun a hf => ?_
    refine tp 3 rfl rfl hf (by kernel_rfl) (fun _ => hS) rfl fun a hf => ?_
    refine iteB hGc5 (fun hc5 hGc5 => ?_) fun hc5 hGc5 => ?_
    ·have hf := hf.lit 38 rfl hc5
     refine tU 4 rfl rfl rfl rfl rfl rfl rfl hf (by kernel_rfl) (fun _ => hS) fun a hf => ?_
     refine tU 5 rfl rfl rfl rfl rfl rfl rfl hf (by kernel_rfl) (fun _ => hS) fun a hf => ?_
     refine tU 6 rfl rfl rfl rfl rfl rfl rfl hf (by kernel_rfl) (fun _ => hS) fun a hf => ?_
     refine tU 7 rfl rfl rfl rfl rfl rfl rfl hf (by kernel_rfl) (fun _ => hS) fun a hf => ?_
     refine tU 8 rfl rfl rfl rfl rfl rfl rfl hf (by kernel_rfl) (fun _ => hS) fun a hf => ?_
     refine tp 9 rfl rfl hf (by kernel_rfl) (fun _ => hS) rfl fun a hf => ?_
     refine tp 10 rfl rfl hf (by kernel_rfl) (fun _ => hS) rfl fun a hf => ?_
     refine tU 11 rfl rfl rfl rfl rfl rfl rfl hf (by kernel_rfl) (fun _ => hS) fun a hf => ?_
     refine tU 12 rfl rfl rfl rfl rfl rfl rfl hf (by kernel_rfl) (fun _ => hS) fun a hf => ?_
     refine tU 13 rfl rfl rfl rfl rfl rfl rfl hf (by kernel_rfl) (fun _ => hS) fun a hf => ?_
     refine tU 14 rfl rfl rfl rfl rfl rfl rfl hf (by kernel_rfl) (fun _ => hS) fun a hf => ?_
     refine tU 15 rfl rfl rfl rfl rfl rfl rfl hf (by kernel_rfl) (fun _ => hS) fun a hf => ?_
     refine tU 16 rfl rfl rfl rfl rfl rfl rfl hf (by kernel_rfl) (fun _ => hS) fun a hf => ?_
     refine tp 17 rfl rfl hf (by kernel_rfl) (fun _ => hS) rfl fun a hf => ?_
     refine tp 18 rfl rfl hf (by kernel_rfl) (fun _ => hS) rfl fun a hf => ?_
     refine tU 19 rfl rfl rfl rfl rfl rfl rfl hf (by kernel_rfl) (fun _ => hS) fun a hf => ?_
     refine tU 20 rfl rfl rfl rfl rfl rfl rfl hf (by kernel_rfl) (fun _ => hS) fun a hf => ?_
     refine tU 21 rfl rfl rfl rfl rfl rfl rfl hf (by kernel_rfl) (fun _ => hS) fun a hf => ?_
     refine tU 22 rfl rfl rfl rfl rfl rfl rfl hf (by kernel_rfl) (fun _ => hS) fun a hf => ?_
     refine tp 23 rfl rfl hf (by kernel_rfl) (fun _ => hS) rfl fun a hf => ?_
     refine tp 24 rfl rfl hf (by kernel_rfl) (fun _ => hS) rfl fun a hf => ?_
     refine tU 25 rfl rfl rfl rfl rfl rfl rfl hf (by kernel_rfl) (fun _ => hS) fun a hf => ?_
     refine tU 26 rfl rfl rfl rfl rfl rfl rfl hf (by kernel_rfl) (fun _ => hS) fun a hf => ?_
     refine tU 27 rfl rfl rfl rfl rfl rfl rfl hf (by kernel_rfl) (fun _ => hS) fun a hf => ?_
     refine tU 28 rfl rfl rfl rfl rfl rfl rfl hf (by kernel_rfl) (fun _ => hS) fun a hf => ?_
     refine tp 29 rfl rfl hf (by kernel_rfl) (fun _ => hS) rfl fun a hf => ?_
     refine tp 30 rfl rfl hf (by kernel_rfl) (fun _ => hS) rfl fun a hf => ?_
     refine tU 31 rfl rfl rfl rfl rfl rfl rfl hf (by kernel_rfl) (fun _ => hS) fun a hf => ?_
     refine tU 32 rfl rfl rfl rfl rfl rfl rfl hf (by kernel_rfl) (fun _ => hS) fun a hf => ?_
     refine tU 33 rfl rfl rfl rfl rfl rfl rfl hf (by kernel_rfl) (fun _ => hS) fun a hf => ?_
     refine tUU 34 rfl rfl rfl rfl rfl rfl hf (by kernel_rfl) (fun _ => hS) fun a hf => ?_
     refine tUU 35 rfl rfl rfl rfl rfl rfl hf (by kernel_rfl) (fun _ => hS) fun a hf => ?_
     refine tUU 36 rfl rfl rfl rfl rfl rfl hf (by kernel_rfl) (fun _ => hS) fun a hf => ?_
     refine tUU 37 rfl rfl rfl rfl rfl rfl hf (by kernel_rfl) (fun _ => hS) fun a hf => ?_
     refine tUU 38 rfl rfl rfl rfl rfl rfl hf (by kernel_rfl) (fun _ => hS) fun a hf => ?_
     refine tUU 39 rfl rfl rfl rfl rfl rfl hf (by kernel_rfl) (fun _ => hS) fun a hf => ?_
     refine tUU 40 rfl rfl rfl rfl rfl rfl hf (by kernel_rfl) (fun _ => hS) fun a hf => ?_
     refine tUU 41 rfl rfl rfl rfl rfl rfl hf (by kernel_rfl) (fun _ => hS) fun a hf => ?_
     refine tUU 42 rfl rfl rfl rfl rfl rfl hf (by kernel_rfl) (fun _ => hS) fun a hf => ?_
     refine tU 43 rfl rfl rfl rfl rfl rfl rfl hf (by kernel_rfl) (fun _ => hS) fun a hf => ?_
     refine tp 44 rfl rfl hf (by kernel_rfl) (fun _ => hS) rfl fun a hf => ?_
     refine dn (by kernel_rfl) ?_
     obtain rfl := Option.some.inj hGc5
     have hf := hf.prune [79, 1, 28, 29, 30] rfl
     have H := H.let [false, true] [] [] [1, 2]
     exact ⟨hf, H⟩
    ·have hf := hf.lit 38 rfl hc5
     refine tpg 4 rfl rfl rfl rfl hf (by kernel_rfl) (fun _ => hS) rfl fun a hf => ?_
     refine tSg 5 [] rfl rfl rfl rfl rfl rfl hf (by kernel_rfl) (by kernel_rfl) hS (fun w H => rq_loadB hf H TF.ls3 0 rfl rfl rfl) fun a hf => ?_
     refine tpg 6 rfl rfl rfl rfl hf (by kernel_rfl) (fun _ => hS) rfl fun a hf => ?_
     refine tSg 7 [] rfl rfl rfl rfl rfl rfl hf (by kernel_rfl) (by kernel_rfl) hS (fun w H => rq_loadB hf H TF.ls3 0 rfl rfl rfl) fun a hf => ?_
     refine tpg 8 rfl rfl rfl rfl hf (by kernel_rfl) (fun _ => hS) rfl fun a hf => ?_
     refine tp 9 rfl rfl hf (by kernel_rfl) (fun _ => hS) rfl fun a hf => ?_
     refine tp 10 rfl rfl hf (by kernel_rfl) (fun _ => hS) rfl fun a hf => ?_
     refine iteB hGc5 (fun hc6 hGc5 => ?_) fun hc6 hGc5 => ?_
     ·have hf := hf.lit 45 rfl hc6
      refine tU 11 rfl rfl rfl rfl rfl rfl rfl hf (by kernel_rfl) (fun _ => hS) fun a hf => ?_
      refine tU 12 rfl rfl rfl rfl rfl rfl rfl hf (by kernel_rfl) (fun _ => hS) fun a hf => ?_
      refine tU 13 rfl rfl rfl rfl rfl rfl rfl hf (by kernel_rfl) (fun _ => hS) fun a hf => ?_
      refine tU 14 rfl rfl rfl rfl rfl rfl rfl hf (by kernel_rfl) (fun _ => hS) fun a hf => ?_
      refine tU 15 rfl rfl rfl rfl rfl rfl rfl hf (by kernel_rfl) (fun _ => hS) fun a hf => ?_
      refine tU 16 rfl rfl rfl rfl rfl rfl rfl hf (by kernel_rfl) (fun _ => hS) fun a hf => ?_
      refine tp 17 rfl rfl hf (by kernel_rfl) (fun _ => hS) rfl fun a hf => ?_
      refine tp 18 rfl rfl hf (by kernel_rfl) (fun _ => hS) rfl fun a hf => ?_
      refine tU 19 rfl rfl rfl rfl rfl rfl rfl hf (by kernel_rfl) (fun _ => hS) fun a hf => ?_
      refine tU 20 rfl rfl rfl rfl rfl rfl rfl hf (by kernel_rfl) (fun _ => hS) fun a hf => ?_
      refine tU 21 rfl rfl rfl rfl rfl rfl rfl hf (by kernel_rfl) (fun _ => hS) fun a hf => ?_
      refine tU 22 rfl rfl rfl rfl rfl rfl rfl hf (by kernel_rfl) (fun _ => hS) fun a hf => ?_
      refine tp 23 rfl rfl hf (by kernel_rfl) (fun _ => hS) rfl fun a hf => ?_
      refine tp 24 rfl rfl hf (by kernel_rfl) (fun _ => hS) rfl fun a hf => ?_
      refine tU 25 rfl rfl rfl rfl rfl rfl rfl hf (by kernel_rfl) (fun _ => hS) fun a hf => ?_
      refine tU 26 rfl rfl rfl rfl rfl rfl rfl hf (by kernel_rfl) (fun _ => hS) fun a hf => ?_
      refine tU 27 rfl rfl rfl rfl rfl rfl rfl hf (by kernel_rfl) (fun _ => hS) fun a hf => ?_
      refine tU 28 rfl rfl rfl rfl rfl rfl rfl hf (by kernel_rfl) (fun _ => hS) fun a hf => ?_
      refine tp 29 rfl rfl hf (by kernel_rfl) (fun _ => hS) rfl fun a hf => ?_
      refine tp 30 rfl rfl hf (by kernel_rfl) (fun _ => hS) rfl fun a hf => ?_
      refine tU 31 rfl rfl rfl rfl rfl rfl rfl hf (by kernel_rfl) (fun _ => hS) fun a hf => ?_
      refine tU 32 rfl rfl rfl rfl rfl rfl rfl hf (by kernel_rfl) (fun _ => hS) fun a hf => ?_
      refine tU 33 rfl rfl rfl rfl rfl rfl rfl hf (by kernel_rfl) (fun _ => hS) fun a hf => ?_
      refine tUU 34 rfl rfl rfl rfl rfl rfl hf (by kernel_rfl) (fun _ => hS) fun a hf => ?_
      refine tUU 35 rfl rfl rfl rfl rfl rfl hf (by kernel_rfl) (fun _ => hS) fun a hf => ?_
      refine tUU 36 rfl rfl rfl rfl rfl rfl hf (by kernel_rfl) (fun _ => hS) fun a hf => ?_
      refine tUU 37 rfl rfl rfl rfl rfl rfl hf (by kernel_rfl) (fun _ => hS) fun a hf => ?_
      refine tUU 38 rfl rfl rfl rfl rfl rfl hf (by kernel_rfl) (fun _ => hS) fun a hf => ?_
      refine tUU 39 rfl rfl rfl rfl rfl rfl hf (by kernel_rfl) (fun _ => hS) fun a hf => ?_
      refine tUU 40 rfl rfl rfl rfl rfl rfl hf (by kernel_rfl) (fun _ => hS) fun a hf => ?_
      refine tUU 41 rfl rfl rfl rfl rfl rfl hf (by kernel_rfl) (fun _ => hS) fun a hf => ?_
      refine tUU 42 rfl rfl rfl rfl rfl rfl hf (by kernel_rfl) (fun _ => hS) fun a hf => ?_
      refine tU 43 rfl rfl rfl rfl rfl rfl rfl hf (by kernel_rfl) (fun _ => hS) fun a hf => ?_
      refine tp 44 rfl rfl hf (by kernel_rfl) (fun _ => hS) rfl fun a hf => ?_
      refine dn (by kernel_rfl) ?_
      obtain rfl := Option.some.inj hGc5
      have hf := hf.prune [79, 1, 28, 29, 30] rfl
      have H := H.let [false, true] [] [] [1, 2]
      exact ⟨hf, H⟩
     ·have hf := hf.lit 45 rfl hc6
      refine tpg 11 rfl rfl rfl rfl hf (by kernel_rfl) (fun _ => hS) rfl fun a hf => ?_
      refine tSg 12 [] rfl rfl rfl rfl rfl rfl hf (by kernel_rfl) (by kernel_rfl) hS (fun w H => rq_loadB hf H TF.ls3 0 rfl rfl rfl) fun a hf => ?_
      refine tpg 13 rfl rfl rfl rfl hf (by kernel_rfl) (fun _ => hS) rfl fun a hf => ?_
      refine tSg 14 [] rfl rfl rfl rfl rfl rfl hf (by kernel_rfl) (by kernel_rfl) hS (fun w H => rq_loadB hf H TF.ls22 1 rfl rfl rfl) fun a hf => ?_
      refine tpg 15 rfl rfl rfl rfl hf (by kernel_rfl) (fun _ => hS) rfl fun a hf => ?_
      refine tpg 16 rfl rfl rfl rfl hf (by kernel_rfl) (fun _ => hS) rfl fun a hf => ?_
      refine tp 17 rfl rfl hf (by kernel_rfl) (fun _ => hS) rfl fun a hf => ?_
      refine tp 18 rfl rfl hf (by kernel_rfl) (fun _ => hS) rfl fun a hf => ?_
      refine iteB hGc5 (fun hc7 hGc5 => ?_) fun hc7 hGc5 => ?_
      ·have hf := hf.lit 53 rfl hc7
       refine tU 19 rfl rfl rfl rfl rfl rfl rfl hf (by kernel_rfl) (fun _ => hS) fun a hf => ?_
       refine tU 20 rfl rfl rfl rfl rfl rfl rfl hf (by kernel_rfl) (fun _ => hS) fun a hf => ?_
       refine tU 21 rfl rfl rfl rfl rfl rfl rfl hf (by kernel_rfl) (fun _ => hS) fun a hf => ?_
       refine tU 22 rfl rfl rfl rfl rfl rfl rfl hf (by kernel_rfl) (fun _ => hS) fun a hf => ?_
       refine tp 23 rfl rfl hf (by kernel_rfl) (fun _ => hS) rfl fun a hf => ?_
       refine tp 24 rfl rfl hf (by kernel_rfl) (fun _ => hS) rfl fun a hf => ?_
       refine tU 25 rfl rfl rfl rfl rfl rfl rfl hf (by kernel_rfl) (fun _ => hS) fun a hf => ?_
       refine tU 26 rfl rfl rfl rfl rfl rfl rfl hf (by kernel_rfl) (fun _ => hS) fun a hf => ?_
       refine tU 27 rfl rfl rfl rfl rfl rfl rfl hf (by kernel_rfl) (fun _ => hS) fun a hf => ?_
       refine tU 28 rfl rfl rfl rfl rfl rfl rfl hf (by kernel_rfl) (fun _ => hS) fun a hf => ?_
       refine tp 29 rfl rfl hf (by kernel_rfl) (fun _ => hS) rfl fun a hf => ?_
       refine tp 30 rfl rfl hf (by kernel_rfl) (fun _ => hS) rfl fun a hf => ?_
       refine tU 31 rfl rfl rfl rfl rfl rfl rfl hf (by kernel_rfl) (fun _ => hS) fun a hf => ?_
       refine tU 32 rfl rfl rfl rfl rfl rfl rfl hf (by kernel_rfl) (fun _ => hS) fun a hf => ?_
       refine tU 33 rfl rfl rfl rfl rfl rfl rfl hf (by kernel_rfl) (fun _ => hS) fun a hf => ?_
       refine tUU 34 rfl rfl rfl rfl rfl rfl hf (by kernel_rfl) (fun _ => hS) fun a hf => ?_
       refine tUU 35 rfl rfl rfl rfl rfl rfl hf (by kernel_rfl) (fun _ => hS) fun a hf => ?_
       refine tUU 36 rfl rfl rfl rfl rfl rfl hf (by kernel_rfl) (fun _ => hS) fun a hf => ?_
       refine tUU 37 rfl rfl rfl rfl rfl rfl hf (by kernel_rfl) (fun _ => hS) fun a hf => ?_
       refine tUU 38 rfl rfl rfl rfl rfl rfl hf (by kernel_rfl) (fun _ => hS) fun a hf => ?_
       refine tUU 39 rfl rfl rfl rfl rfl rfl hf (by kernel_rfl) (fun _ => hS) fun a hf => ?_
       refine tUU 40 rfl rfl rfl rfl rfl rfl hf (by kernel_rfl) (fun _ => hS) fun a hf => ?_
       refine tUU 41 rfl rfl rfl rfl rfl rfl hf (by kernel_rfl) (fun _ => hS) fun a hf => ?_
       refine tUU 42 rfl rfl rfl rfl rfl rfl hf (by kernel_rfl) (fun _ => hS) fun a hf => ?_
       refine tU 43 rfl rfl rfl rfl rfl rfl rfl hf (by kernel_rfl) (fun _ => hS) fun a hf => ?_
       refine tp 44 rfl rfl hf (by kernel_rfl) (fun _ => hS) rfl fun a hf => ?_
       refine dn (by kernel_rfl) ?_
       obtain rfl := Option.some.inj hGc5
       have hf := hf.prune [79, 1, 28, 29, 30] rfl
       have H := H.let [false, true] [] [] [1, 2]
       exact ⟨hf, H⟩
      ·have hf := hf.lit 53 rfl hc7
       refine tpg 19 rfl rfl rfl rfl hf (by kernel_rfl) (fun _ => hS) rfl fun a hf => ?_
       refine tSg 20 [] rfl rfl rfl rfl rfl rfl hf (by kernel_rfl) (by kernel_rfl) hS (fun w H => rq_loadB hf H TF.ls3 0 rfl rfl rfl) fun a hf => ?_
       obtain ⟨y3, hy3, hGc5⟩ := bind_some hGc5
       refine n1g 21 (by kernel_rfl) rfl rfl rfl rfl hf (op_call hf TF.cl52 rfl (by decide) (impl_within_ok (S := fun _ => True) mk_int mk_int mk_int hy3) fun v3 w a hp3 hf => ?_)
       obtain ⟨hb3, hp3⟩ := hp3
       obtain rfl := VR_bool hp3
       have H := H.keep hb3
       have hS := H
       refine ⟨fun _ => hS, ?_⟩
       refine tpg 22 rfl rfl rfl rfl hf (by kernel_rfl) (fun _ => hS) rfl fun a hf => ?_
       refine tp 23 rfl rfl hf (by kernel_rfl) (fun _ => hS) rfl fun a hf => ?_
       refine tp 24 rfl rfl hf (by kernel_rfl) (fun _ => hS) rfl fun a hf => ?_
       refine iteB hGc5 (fun hc8 hGc5 => ?_) fun hc8 hGc5 => ?_
       ·have hf := hf.lit 59 rfl hc8
        refine tU 25 rfl rfl rfl rfl rfl rfl rfl hf (by kernel_rfl) (fun _ => hS) fun a hf => ?_
        refine tU 26 rfl rfl rfl rfl rfl rfl rfl hf (by kernel_rfl) (fun _ => hS) fun a hf => ?_
        refine tU 27 rfl rfl rfl rfl rfl rfl rfl hf (by kernel_rfl) (fun _ => hS) fun a hf => ?_
        refine tU 28 rfl rfl rfl rfl rfl rfl rfl hf (by kernel_rfl) (fun _ => hS) fun a hf => ?_
        refine tp 29 rfl rfl hf (by kernel_rfl) (fun _ => hS) rfl fun a hf => ?_
        refine tp 30 rfl rfl hf (by kernel_rfl) (fun _ => hS) rfl fun a hf => ?_
        refine tU 31 rfl rfl rfl rfl rfl rfl rfl hf (by kernel_rfl) (fun _ => hS) fun a hf => ?_
        refine tU 32 rfl rfl rfl rfl rfl rfl rfl hf (by kernel_rfl) (fun _ => hS) fun a hf => ?_
        refine tU 33 rfl rfl rfl rfl rfl rfl rfl hf (by kernel_rfl) (fun _ => hS) fun a hf => ?_
        refine tUU 34 rfl rfl rfl rfl rfl rfl hf (by kernel_rfl) (fun _ => hS) fun a hf => ?_
        refine tUU 35 rfl rfl rfl rfl rfl rfl hf (by kernel_rfl) (fun _ => hS) fun a hf => ?_
        refine tUU 36 rfl rfl rfl rfl rfl rfl hf (by kernel_rfl) (fun _ => hS) fun a hf => ?_
        refine tUU 37 rfl rfl rfl rfl rfl rfl hf (by kernel_rfl) (fun _ => hS) fun a hf => ?_
        refine tUU 38 rfl rfl rfl rfl rfl rfl hf (by kernel_rfl) (fun _ => hS) fun a hf => ?_
        refine tUU 39 rfl rfl rfl rfl rfl rfl hf (by kernel_rfl) (fun _ => hS) fun a hf => ?_
        refine tUU 40 rfl rfl rfl rfl rfl rfl hf (by kernel_rfl) (fun _ => hS) fun a hf => ?_
        refine tUU 41 rfl rfl rfl rfl rfl rfl hf (by kernel_rfl) (fun _ => hS) fun a hf => ?_
        refine tUU 42 rfl rfl rfl rfl rfl rfl hf (by kernel_rfl) (fun _ => hS) fun a hf => ?_
        refine tU 43 rfl rfl rfl rfl rfl rfl rfl hf (by kernel_rfl) (fun _ => hS) fun a hf => ?_
        refine tp 44 rfl rfl hf (by kernel_rfl) (fun _ => hS) rfl fun a hf => ?_
        refine dn (by kernel_rfl) ?_
        obtain rfl := Option.some.inj hGc5
        have hf := hf.prune [79, 1, 28, 29, 30] rfl
        have H := H.let [false, true] [] [] [1, 2]
        exact ⟨hf, H⟩
       ·have hf := hf.lit 59 rfl hc8
        refine tpg 25 rfl rfl rfl rfl hf (by kernel_rfl) (fun _ => hS) rfl fun a hf => ?_
        refine tSg 26 [] rfl rfl rfl rfl rfl rfl hf (by kernel_rfl) (by kernel_rfl) hS (fun w H => rq_loadB hf H TF.ls3 0 rfl rfl rfl) fun a hf => ?_
        obtain ⟨y4, hy4, hGc5⟩ := bind_some hGc5
        refine n1g 27 (by kernel_rfl) rfl rfl rfl rfl hf (op_call hf TF.cl52 rfl (by decide) (impl_within_ok (S := fun _ => True) mk_int mk_int mk_int hy4) fun v4 w a hp4 hf => ?_)
        obtain ⟨hb4, hp4⟩ := hp4
        obtain rfl := VR_bool hp4
        have H := H.keep hb4
        have hS := H
        refine ⟨fun _ => hS, ?_⟩
        refine tpg 28 rfl rfl rfl rfl hf (by kernel_rfl) (fun _ => hS) rfl fun a hf => ?_
        refine tp 29 rfl rfl hf (by kernel_rfl) (fun _ => hS) rfl fun a hf => ?_
        refine tp 30 rfl rfl hf (by kernel_rfl) (fun _ => hS) rfl fun a hf => ?_
        refine iteB hGc5 (fun hc9 hGc5 => ?_) fun hc9 hGc5 => ?_
        ·have hf := hf.lit 65 rfl hc9
         refine tU 31 rfl rfl rfl rfl rfl rfl rfl hf (by kernel_rfl) (fun _ => hS) fun a hf => ?_
         refine tU 32 rfl rfl rfl rfl rfl rfl rfl hf (by kernel_rfl) (fun _ => hS) fun a hf => ?_
         refine tU 33 rfl rfl rfl rfl rfl rfl rfl hf (by kernel_rfl) (fun _ => hS) fun a hf => ?_
         refine tUU 34 rfl rfl rfl rfl rfl rfl hf (by kernel_rfl) (fun _ => hS) fun a hf => ?_
         refine tUU 35 rfl rfl rfl rfl rfl rfl hf (by kernel_rfl) (fun _ => hS) fun a hf => ?_
         refine tUU 36 rfl rfl rfl rfl rfl rfl hf (by kernel_rfl) (fun _ => hS) fun a hf => ?_
         refine tUU 37 rfl rfl rfl rfl rfl rfl hf (by kernel_rfl) (fun _ => hS) fun a hf => ?_
         refine tUU 38 rfl rfl rfl rfl rfl rfl hf (by kernel_rfl) (fun _ => hS) fun a hf => ?_
         refine tUU 39 rfl rfl rfl rfl rfl rfl hf (by kernel_rfl) (fun _ => hS) fun a hf => ?_
         refine tUU 40 rfl rfl rfl rfl rfl rfl hf (by kernel_rfl) (fun _ => hS) fun a hf => ?_
         refine tUU 41 rfl rfl rfl rfl rfl rfl hf (by kernel_rfl) (fun _ => hS) fun a hf => ?_
         refine tUU 42 rfl rfl rfl rfl rfl rfl hf (by kernel_rfl) (fun _ => hS) fun a hf => ?_
         refine tU 43 rfl rfl rfl rfl rfl rfl rfl hf (by kernel_rfl) (fun _ => hS) fun a hf => ?_
         refine tp 44 rfl rfl hf (by kernel_rfl) (fun _ => hS) rfl fun a hf => ?_
         refine dn (by kernel_rfl) ?_
         obtain rfl := Option.some.inj hGc5
         have hf := hf.prune [79, 1, 28, 29, 30] rfl
         have H := H.let [false, true] [] [] [1, 2]
         exact ⟨hf, H⟩
        ·have hf := hf.lit 65 rfl hc9
         refine tpg 31 rfl rfl rfl rfl hf (by kernel_rfl) (fun _ => hS) rfl fun a hf => ?_
         refine tpg 32 rfl rfl rfl rfl hf (by kernel_rfl) (fun _ => hS) rfl fun a hf => ?_
         refine tpg 33 rfl rfl rfl rfl hf (by kernel_rfl) (fun _ => hS) rfl fun a hf => ?_
         refine iteB hGc5 (fun hc10 hGc5 => ?_) fun hc10 hGc5 => ?_
         ·have hf := hf.lit 68 rfl hc10
          refine tpg 34 rfl rfl rfl rfl hf (by kernel_rfl) (fun _ => hS) rfl fun a hf => ?_
          refine tSg 35 [] rfl rfl rfl rfl rfl rfl hf (by kernel_rfl) (by kernel_rfl) hS (fun w H => rq_loadB hf H TF.ls30 1 rfl rfl rfl) fun a hf => ?_
          refine tpg 36 rfl rfl rfl rfl hf (by kernel_rfl) (fun _ => hS) rfl fun a hf => ?_
          refine tpg 37 rfl rfl rfl rfl hf (by kernel_rfl) (fun _ => hS) rfl fun a hf => ?_
          obtain ⟨e3, he3, hGc5⟩ := bind_some hGc5
          obtain ⟨p3, o3, cs3, hx, hr3, H⟩ := pre_iaddr H Try.underlying30 TF.sz83 1 rfl he3
          refine tPg 38 rfl rfl rfl rfl rfl rfl hf (by kernel_rfl) (fun _ => hS) (fun w => rq_iaddrE hf rfl rfl rfl hx w) fun a hf => ?_
          obtain rfl := Fiber_cells hr3
          refine strT H (fun w H => H.let [true, true] [] [] [1, 2, 3]) fun hS => ?_
          refine tSg 39 [] rfl rfl rfl rfl rfl rfl hf (by kernel_rfl) (by kernel_rfl) hS (fun w H => rq_loadIN hf H TF.la83 0 0 rfl rfl rfl rfl) fun a hf => ?_
          refine tSg 40 [] rfl rfl rfl rfl rfl rfl hf (by kernel_rfl) (by kernel_rfl) hS (fun w H => rq_loadBN hf H TF.la83 0 rfl rfl rfl rfl) fun a hf => ?_
          obtain ⟨y5, hy5, hGc5⟩ := bind_some hGc5
          refine n1g 41 (by kernel_rfl) rfl rfl rfl rfl hf (op_call hf TF.cl95 rfl (by decide) (impl_compareFibers_ok (S := fun _ => True) Fiber_mkv Fiber_mkv hy5) fun v5 w a hp5 hf => ?_)
          obtain ⟨hb5, hp5⟩ := hp5
          obtain rfl := VR_int hp5
          have H := H.keep hb5
          have hS := H
          refine ⟨fun _ => hS, ?_⟩
          refine tpg 42 rfl rfl rfl rfl hf (by kernel_rfl) (fun _ => hS) rfl fun a hf => ?_
          refine tpg 43 rfl rfl rfl rfl hf (by kernel_rfl) (fun _ => hS) rfl fun a hf => ?_
          refine tp 44 rfl rfl hf (by kernel_rfl) (fun _ => hS) rfl fun a hf => ?_
          refine dn (by kernel_rfl) ?_
          obtain rfl := Option.some.inj hGc5
          have hf := hf.prune [79, 1, 28, 29, 30] rfl
          have H := H.let [false, true] [] [] [2, 3]
          exact ⟨hf, H⟩
         ·have hf := hf.lit 68 rfl hc10
          refine tU 34 rfl rfl rfl rfl rfl rfl rfl hf (by kernel_rfl) (fun _ => hS) fun a hf => ?_
          refine tU 35 rfl rfl rfl rfl rfl rfl rfl hf (by kernel_rfl) (fun _ => hS) fun a hf => ?_
          refine tU 36 rfl rfl rfl rfl rfl rfl rfl hf (by kernel_rfl) (fun _ => hS) fun a hf => ?_
          refine tU 37 rfl rfl rfl rfl rfl rfl rfl hf (by kernel_rfl) (fun _ => hS) fun a hf => ?_
          refine tU 38 rfl rfl rfl rfl rfl rfl rfl hf (by kernel_rfl) (fun _ => hS) fun a hf => ?_
          refine tU 39 rfl rfl rfl rfl rfl rfl rfl hf (by kernel_rfl) (fun _ => hS) fun a hf => ?_
          refine tU 40 rfl rfl rfl rfl rfl rfl rfl hf (by kernel_rfl) (fun _ => hS) fun a hf => ?_
          refine tU 41 rfl rfl rfl rfl rfl rfl rfl hf (by kernel_rfl) (fun _ => hS) fun a hf => ?_
          refine tU 42 rfl rfl rfl rfl rfl rfl rfl hf (by kernel_rfl) (fun _ => hS) fun a hf => ?_
          refine tpg 43 rfl rfl rfl rfl hf (by kernel_rfl) (fun _ => hS) rfl fun a hf => ?_
          refine tp 44 rfl rfl hf (by kernel_rfl) (fun _ => hS) rfl fun a hf => ?_
          refine dn (by kernel_rfl) ?_
          obtain rfl := Option.some.inj hGc5
          have hf := hf.prune [79, 1, 28, 29, 30] rfl
          have H := H.let [false, true] [] [] [1, 2]
          exact ⟨hf, H⟩
   refine then_n (iteB hR1 (fun hc11 hR1 => cd_t hf rfl hc11 ?_) fun hc11 hR1 => cd_f hf rfl hc11 ?_)
   ·refine sq (reg (pr 1 hf rfl rfl fun a hf => ?_))
    refine wl_end (then_n (wp_ret (blk_r (then_r (then_r (blk_r (then_r (then_r (?_)))))))))
    obtain rfl := Option.some.inj hR1
    replace hF := on_ret hF
    obtain rfl := Option.some.inj hF
    refine ret_1 (fn := Try.f50) (r := .tmp 2) hf rfl (rv_tmp hf rfl) ?_
    exact ⟨_, rfl, H.bel, mk_bool⟩
   ·refine wp_skip (blk_n (then_n (reg (pr 2 hf rfl rfl fun a hf => ?_))))
    refine wl_end ?_
    have hf := hf.prune [1, 28, 29, 30] rfl
    have H := H.let [true] [] [] [0, 1]
    exact then_n ⟨w64 (i3 + 1), hR1, hf, H⟩
  ·refine wp_exit (then_x (then_x (blk_e (?_))))
   have hf := hf.prune [1, 28, 29, 30] rfl
   have H := H.let [true] [] [] [0, 1]
   exact ⟨i3, (Option.some.inj hR1).symm, hf, H⟩
 rintro a w ⟨i4, rfl, hf, H⟩
 replace hF := on_next hF
 refine then_n (sq ?_)
 obtain ⟨c6, hGc6, hF⟩ := bind_some hF
 have fh3 := hf.prune [] rfl
 have Hm3 := H.let [false] [] [] []
 refine midF 2 (.bool c6) fh3 Hm3 ?_ fun a w hf H => ?_
 ·refine reg (pr 1 hf rfl rfl fun a hf => ?_)
  refine wl0 rfl (op_q hf (rq_loadB hf H TF.ls22 0 rfl rfl rfl) rfl (by decide) fun a hf => ?_)
  refine pr 1 hf rfl rfl fun a hf => ?_
  obtain ⟨y6, hy6, hGc6⟩ := bind_some hGc6
  refine wl0 rfl (op_call hf TF.cl52 rfl (by decide) (impl_within_ok (S := fun _ => True) mk_int mk_int mk_int hy6) fun v6 w a hp6 hf => ?_)
  obtain ⟨hb6, hp6⟩ := hp6
  obtain rfl := VR_bool hp6
  have H := H.keep hb6
  refine pr 1 hf rfl rfl fun a hf => ?_
  refine iteB hGc6 (fun hc12 hGc6 => ?_) fun hc12 hGc6 => ?_
  ·have hf := hf.lit 85 rfl hc12
   refine pr 1 hf rfl rfl fun a hf => ?_
   refine wlg hf rfl rfl rfl (op_q hf (rq_loadB hf H TF.ls30 0 rfl rfl rfl) rfl (by decide) fun a hf => ?_)
   refine pr 4 hf rfl rfl fun a hf => ?_
   obtain rfl := Option.some.inj hGc6
   have hf := hf.prune [2] rfl
   have H := H.let [false] [] [] []
   exact wl_end ⟨hf, H⟩
  ·have hf := hf.lit 85 rfl hc12
   refine pr 6 hf rfl rfl fun a hf => ?_
   obtain rfl := Option.some.inj hGc6
   have hf := hf.prune [2] rfl
   have H := H.let [false] [] [] []
   exact wl_end ⟨hf, H⟩
 refine then_n (wp_ret (?_))
 obtain rfl := Option.some.inj hF
 refine ret_1 (fn := Try.f50) (r := .tmp 2) hf rfl (rv_tmp hf rfl) ?_
 exact ⟨_, rfl, H.bel, mk_bool⟩

/- loop.example/g00897/impl.otherEnd -/
set_option maxHeartbeats 1000000 in
theorem impl_otherEnd_ok {fu : Nat} {w0 : World} {S : Nat → Prop} {v0_ : Value} {v1_ : Value} {f : Fiber} {node : Int} {r : Int} (h0 : VR w0 S v0_ f) (h1 : VR w0 S v1_ node) (hF : impl_otherEnd fu f node = some r) :
    Calls Try.prog 124 [v0_, v1_].toArray w0 fun e w' => ∃ v, e = .returned v ∧ (Below w0.heap.size w0 w' ∧ VR w' (St ⟨w0, []⟩ S [] [] [] true) v r) := by
 obtain rfl := Fiber_open h0
 obtain rfl := VR_int h1
 have H := Mem.start ⟨w0, []⟩ S
 refine enter Try.func124 rfl rfl (nle rfl) rfl fun a hf => ?_
 rw [impl_otherEnd] at hF
 refine sq (reg (wl0 rfl (op_box hf H rfl rfl (by decide) fun b' a w hf H => ?_)))
 refine pr 1 hf rfl rfl fun a hf => ?_
 refine wl_end (then_n (sq (sq (reg (pr 1 hf rfl rfl fun a hf => ?_)))))
 refine wl_end (then_n (wp_block (sq (reg (pr 1 hf rfl rfl fun a hf => ?_)))))
 refine wl0 rfl (op_q hf (rq_loadB hf H TF.ls3 0 rfl rfl rfl) rfl (by decide) fun a hf => ?_)
 refine pr 2 hf rfl rfl fun a hf => ?_
 refine wl_end (then_n (iteB hF (fun hc hF => cd_t hf rfl hc ?_) fun hc hF => cd_f hf rfl hc ?_))
 ·refine sq (reg (pr 1 hf rfl rfl fun a hf => ?_))
  refine wl0 rfl (op_q hf (rq_loadB hf H TF.ls3 0 rfl rfl rfl) rfl (by decide) fun a hf => ?_)
  refine pr 1 hf rfl rfl fun a hf => ?_
  refine wl_end (then_n (wp_ret (blk_r (then_r (?_)))))
  obtain rfl := Option.some.inj hF
  refine ret_1 (fn := Try.f124) (r := .tmp 4) hf rfl (rv_tmp hf rfl) ?_
  exact ⟨_, rfl, H.bel, mk_int⟩
 ·refine sq (reg (pr 1 hf rfl rfl fun a hf => ?_))
  refine wl0 rfl (op_q hf (rq_loadB hf H TF.ls3 0 rfl rfl rfl) rfl (by decide) fun a hf => ?_)
  refine pr 2 hf rfl rfl fun a hf => ?_
  refine wl_end (then_n (iteB hF (fun hc2 hF => cd_t hf rfl hc2 ?_) fun hc2 hF => cd_f hf rfl hc2 ?_))
  ·refine sq (reg (pr 1 hf rfl rfl fun a hf => ?_))
   refine wl0 rfl (op_q hf (rq_loadB hf H TF.ls3 0 rfl rfl rfl) rfl (by decide) fun a hf => ?_)
   refine pr 1 hf rfl rfl fun a hf => ?_
   have hf := hf.prune [4] rfl
   refine wl_end (then_n (wp_ret (blk_r (then_r (?_)))))
   obtain rfl := Option.some.inj hF
   refine ret_1 (fn := Try.f124) (r := .tmp 4) hf rfl (rv_tmp hf rfl) ?_
   exact ⟨_, rfl, H.bel, mk_int⟩
  ·refine wp_skip (blk_n (then_n (sq (reg (pr 1 hf rfl rfl fun a hf => ?_)))))
   refine wl_end (then_n (wp_ret (?_)))
   obtain rfl := Option.some.inj hF
   refine ret_1 (fn := Try.f124) (r := .tmp 4) hf rfl (rv_tmp hf rfl) ?_
   exact ⟨_, rfl, H.bel, mk_int⟩

/- slices.Index[[]int,int] -/
set_option maxHeartbeats 1000000 in
theorem slices_Index_int_int_ok {fu : Nat} {w0 : World} {S : Nat → Prop} {v0_ : Value} {v1_ : Value} {s' : List Int} {v : Int} {r : Int} (h0 : VR w0 S v0_ s') (h1 : VR w0 S v1_ v) (hF : slices_Index_int_int fu s' v = some r) :
    Calls Try.prog 122 [v0_, v1_].toArray w0 fun e w' => ∃ v, e = .returned v ∧ (Below w0.heap.size w0 w' ∧ VR w' (St ⟨w0, []⟩ S [] [] [] true) v r) := by
 obtain ⟨A, c, rfl, hl⟩ := VR_list h0
 obtain rfl := VR_int h1
 have H := Mem.start ⟨w0, []⟩ S
 have H := H.pushArg (MP.val [(.slice A s'.length c)] s') hl
 refine enter Try.func122 rfl rfl (nle rfl) rfl fun a hf => ?_
 rw [slices_Index_int_int] at hF
 refine sq (reg (pr 1 hf rfl rfl fun a hf => ?_))
 refine wl_end (then_n (sq (sq (reg (pr 3 hf rfl rfl fun a hf => ?_)))))
 refine wl_end (then_n ?_)
 obtain ⟨out', hB1, hF⟩ := bind_some hF
 have hf := hf.prune [0, 1, 7, 8] rfl
 have H := H.let [] [] [] [0]
 refine loopC (fun (s : Int) (a : Act) (w : World) => match s with | i => Fr a 19 [(0, (.slice A s'.length c)), (1, (.int .i64 v)), (7, (.int .i64 (s'.length : Int))), (8, (.int .i64 i))] ∧ Mem ⟨w0, []⟩ S [] [] [] [(false, MP.val [(.slice A s'.length c)] (s' : List Int))] w) (fun k (s : Int) => slices_Index_int_int_L1 fu s' v k s = some out') (fun s => out' = Out.next s) 0 fu hB1 ⟨hf, H⟩ (fun s h => by cases h) ?_ ?_
 ·rintro fk i a w hR1 hI
  replace hR1 : slices_Index_int_int_L1 fu s' v (fk + 1) i = some out' := hR1
  rw [slices_Index_int_int_L1] at hR1
  obtain ⟨hf, H⟩ := hI
  refine sq (reg (pr 1 hf rfl rfl fun a hf => ?_))
  refine wl_end (then_n (sq (iteB hR1 (fun hc hR1 => cd_t hf rfl hc ?_) fun hc hR1 => cd_f hf rfl hc ?_)))
  ·refine wp_skip (then_n (sq (wp_block (sq (reg (pr 2 hf rfl rfl fun a hf => ?_))))))
   refine wl_end (then_n (sq (reg (pr 3 hf rfl rfl fun a hf => ?_))))
   obtain ⟨e, he, hR1⟩ := bind_some hR1
   refine wl0 rfl (op_iaddr hf H Try.underlying26 TF.sz3 0 rfl rfl rfl he (by decide) fun p o cs a hf hr H => ?_)
   obtain rfl := hr
   refine wl0 rfl (op_q hf (rq_loadI hf H TF.ls3 0 0 rfl rfl rfl) rfl (by decide) fun a hf => ?_)
   refine pr 1 hf rfl rfl fun a hf => ?_
   refine wl_end (then_n (iteB hR1 (fun hc2 hR1 => cd_t hf rfl hc2 ?_) fun hc2 hR1 => cd_f hf rfl hc2 ?_))
   ·refine sq (reg (pr 2 hf rfl rfl fun a hf => ?_))
    have hf := hf.prune [4] rfl
    refine wl_end (then_n (wp_ret (blk_r (then_r (then_r (blk_r (then_r (then_r (?_)))))))))
    obtain rfl := Option.some.inj hR1
    replace hF := on_ret hF
    obtain rfl := Option.some.inj hF
    refine ret_1 (fn := Try.f122) (r := .tmp 4) hf rfl (rv_tmp hf rfl) ?_
    exact ⟨_, rfl, H.bel, mk_int⟩
   ·refine wp_skip (blk_n (then_n (reg (pr 2 hf rfl rfl fun a hf => ?_))))
    refine wl_end ?_
    have hf := hf.prune [0, 1, 7, 8] rfl
    have H := H.let [] [] [] [1]
    exact then_n ⟨w64 (i + 1), hR1, hf, H⟩
  ·refine wp_exit (then_x (then_x (blk_e (?_))))
   have hf := hf.prune [0, 1, 7, 8] rfl
   have H := H.let [] [] [] [0]
   exact ⟨i, (Option.some.inj hR1).symm, hf, H⟩
 rintro a w ⟨i2, rfl, hf, H⟩
 replace hF := on_next hF
 refine then_n (sq (reg (pr 1 hf rfl rfl fun a hf => ?_)))
 refine wl_end (then_n (wp_ret (?_)))
 obtain rfl := Option.some.inj hF
 refine ret_1 (fn := Try.f122) (r := .tmp 4) hf rfl (rv_tmp hf rfl) ?_
 exact ⟨_, rfl, H.bel, mk_int⟩

/- slices.Contains[[]int,int] -/
set_option maxHeartbeats 1000000 in
theorem slices_Contains_int_int_ok {fu : Nat} {w0 : World} {S : Nat → Prop} {v0_ : Value} {v1_ : Value} {s' : List Int} {v : Int} {r : Bool} (h0 : VR w0 S v0_ s') (h1 : VR w0 S v1_ v) (hF : slices_Contains_int_int fu s' v = some r) :
    Calls Try.prog 96 [v0_, v1_].toArray w0 fun e w' => ∃ v, e = .returned v ∧ (Below w0.heap.size w0 w' ∧ VR w' (St ⟨w0, []⟩ S [] [] [] true) v r) := by
 obtain ⟨A, c, rfl, hl⟩ := VR_list h0
 obtain rfl := VR_int h1
 have H := Mem.start ⟨w0, []⟩ S
 have H := H.pushArg (MP.val [(.slice A s'.length c)] s') hl
 refine enter Try.func96 rfl rfl (nle rfl) rfl fun a hf => ?_
 rw [slices_Contains_int_int] at hF
 refine sq (reg (pr 1 hf rfl rfl fun a hf => ?_))
 refine wl_end (then_n (sq (reg (pr 2 hf rfl rfl fun a hf => ?_))))
 obtain ⟨y, hy, hF⟩ := bind_some hF
 refine wl0 rfl (op_call hf TF.cl122 rfl (by decide) (slices_Index_int_int_ok (S := fun _ => True) (mk_list (rep_true (α := List Int) (H.get 0 rfl))) mk_int hy) fun v2 w a hp hf => ?_)
 obtain ⟨hb, hp⟩ := hp
 obtain rfl := VR_int hp
 have H := H.keep hb
 refine pr 2 hf rfl rfl fun a hf => ?_
 refine wl_end (then_n (wp_ret (?_)))
 obtain rfl := Option.some.inj hF
 refine ret_1 (fn := Try.f96) (r := .tmp 4) hf rfl (rv_tmp hf rfl) ?_
 exact ⟨_, rfl, H.bel, mk_bool⟩

/- loop.example/g00897/impl.visited -/
set_option maxHeartbeats 1000000 in
theorem impl_visited_ok {fu : Nat} {w0 : World} {S : Nat → Prop} {v0_ : Value} {v1_ : Value} {n' : Network} {r' : Route} {r : List Int × Bool} (h0 : VR w0 S v0_ n') (h1 : VR w0 S v1_ r') (hF : impl_visited fu n' r' = some r) :
    Calls Try.prog 100 [v0_, v1_].toArray w0 fun e w' => ∃ v, e = .returned v ∧ (Below w0.heap.size w0 w' ∧ ∃ F0, ∃ u0 u1, v = .tuple #[u0, u1] ∧ VO w' F0 u0 r.1 ∧ VR w' (St ⟨w0, []⟩ S [] [] [] true) u1 r.2 ∧ New w0 w' F0) := by
 obtain ⟨A, c, A2, c2, rfl, hl, hl2⟩ := Network_open h0
 obtain ⟨A3, c3, rfl, hl3⟩ := Route_open h1
 have H := Mem.start ⟨w0, []⟩ S
 have H := H.pushArg (MP.val [(.slice A n'.Nodes.length c)] n'.Nodes) hl
 have H := H.pushArg (MP.val [(.slice A2 n'.Fibers.length c2)] n'.Fibers) hl2
 have H := H.pushArg (MP.val [(.slice A3 r'.Fibers.length c3)] r'.Fibers) hl3
 refine enter Try.func100 rfl rfl (nle rfl) rfl fun a hf => ?_
 rw [impl_visited] at hF
 refine sq (reg (wl0 rfl (op_box hf H rfl rfl (by decide) fun b' a w hf H => ?_)))
 refine wl0 rfl (op_box hf H rfl rfl (by decide) fun b2 a w hf H => ?_)
 refine pr 2 hf rfl rfl fun a hf => ?_
 refine wl_end (then_n (sq (sq ?_)))
 obtain ⟨c4, hGc4, hF⟩ := bind_some hF
 have fh := hf.prune [2, 3] rfl
 have Hm := H.let [true, true] [] [] [0, 1, 2]
 refine midF 23 (.bool c4) fh Hm ?_ fun a w hf H => ?_
 ·refine reg (pr 1 hf rfl rfl fun a hf => ?_)
  refine wl0 rfl (op_q hf (rq_loadB hf H TF.ls3 0 rfl rfl rfl) rfl (by decide) fun a hf => ?_)
  refine pr 1 hf rfl rfl fun a hf => ?_
  refine wl0 rfl (op_q hf (rq_loadB hf H TF.ls22 1 rfl rfl rfl) rfl (by decide) fun a hf => ?_)
  refine pr 2 hf rfl rfl fun a hf => ?_
  obtain ⟨y, hy, hGc4⟩ := bind_some hGc4
  refine wl0 rfl (op_call hf TF.cl52 rfl (by decide) (impl_within_ok (S := fun _ => True) mk_int mk_int mk_int hy) fun v w a hp hf => ?_)
  obtain ⟨hb, hp⟩ := hp
  obtain rfl := VR_bool hp
  have H := H.keep hb
  refine pr 2 hf rfl rfl fun a hf => ?_
  refine iteB hGc4 (fun hc hGc4 => ?_) fun hc hGc4 => ?_
  ·have hf := hf.lit 18 rfl hc
   refine pr 5 hf rfl rfl fun a hf => ?_
   obtain rfl := Option.some.inj hGc4
   have hf := hf.prune [23, 2, 3] rfl
   have H := H.let [true, true] [] [] [0, 1, 2]
   exact wl_end ⟨hf, H⟩
  ·have hf := hf.lit 18 rfl hc
   refine pr 1 hf rfl rfl fun a hf => ?_
   refine wlg hf rfl rfl rfl (op_q hf (rq_loadB hf H TF.ls26 0 rfl rfl rfl) rfl (by decide) fun a hf => ?_)
   refine pr 3 hf rfl rfl fun a hf => ?_
   obtain rfl := Option.some.inj hGc4
   have hf := hf.prune [23, 2, 3] rfl
   have H := H.let [true, true] [] [] [0, 1, 2]
   exact wl_end ⟨hf, H⟩
 refine then_n (iteB hF (fun hc2 hF => cd_t hf rfl hc2 ?_) fun hc2 hF => cd_f hf rfl hc2 ?_)
 ·refine sq (reg (pr 2 hf rfl rfl fun a hf => ?_))
  refine wl_end (then_n (wp_ret (then_r (?_))))
  have H := H.ownNil (Int)
  have H := H.lend 0 rfl
  obtain rfl := Option.some.inj hF
  refine ret_2 (fn := Try.f100) (r := .tmp 4) (s := .tmp 5) hf rfl (rv_tmp hf rfl) (rv_tmp hf rfl) ?_
  have hN := H.ends (X := [(⟨[], MP.own [] [(.slice none 0 0)] ([] : List Int)⟩ : DI)])
  simp only [List.flatMap_cons, List.flatMap_nil, List.append_nil, List.append_assoc] at hN
  exact ⟨_, rfl, H.bel, [], _, _, rfl, (mko_list (H.ownAt 0 rfl)), mk_bool, hN⟩
 ·refine wp_skip (then_n (sq (drawn [] (bs := [false, false, false, false, false, false, false]) (fuel := 7) (Checked.mixed Try.checked) rfl rfl fun w hb => ?_)))
  have H := H.keep hb
  refine tp 0 rfl rfl hf (by kernel_rfl) (fun _ => trivial) rfl fun a hf => ?_
  refine strT H (fun w H => trivial) fun hS => ?_
  refine tS 1 [] rfl rfl rfl rfl hf (by kernel_rfl) (by kernel_rfl) hS (fun w H => rq_loadB hf H TF.ls3 0 rfl rfl rfl) fun a hf => ?_
  refine tp 3 rfl rfl hf (by kernel_rfl) (fun _ => hS) rfl fun a hf => ?_
  refine tS 4 [] rfl rfl rfl rfl hf (by kernel_rfl) (by kernel_rfl) hS (fun w H => rq_loadB hf H TF.ls3 0 rfl rfl rfl) fun a hf => ?_
  refine n1 2 (by kernel_rfl) rfl rfl (op_bslice hf H (.sh true) rfl 3 ([r'.Start] : List Int) [(.int .i64 r'.Start)] rfl (fun w => by kernel_rfl) rfl (by decide) rfl trivial (el1 (y := r'.Start) (rfl)) (by decide) fun A4 a w hf H => ?_)
  have hS := H.let [true, true] [false] [] [0, 1, 2]
  refine ⟨fun _ => hS, ?_⟩
  refine tp 5 rfl rfl hf (by kernel_rfl) (fun _ => hS) rfl fun a hf => ?_
  refine tp 6 rfl rfl hf (by kernel_rfl) (fun _ => hS) rfl fun a hf => ?_
  refine dn (by kernel_rfl) ?_
  refine then_n (sq (sq (reg (pr 1 hf rfl rfl fun a hf => ?_))))
  refine wl0 rfl (op_q hf (rq_loadB hf H TF.ls26 0 rfl rfl rfl) rfl (by decide) fun a hf => ?_)
  refine pr 2 hf rfl rfl fun a hf => ?_
  refine wl_end (then_n ?_)
  obtain ⟨out2, hB1, hF⟩ := bind_some hF
  have hf := hf.prune [2, 6, 7, 30, 31, 32] rfl
  have H := H.let [false, true] [true] [] [0, 1, 2]
  refine loopC (fun (s : List Int × Int × Int) (a : Act) (w : World) => match s with | (out', at', i) => ∃ (A5 : Option Addr) (c5 : Nat) (E : Go.TypeId), Fr a 63 [(2, (.pointer (some ⟨b', 0, none⟩))), (6, (.slice A5 out'.length c5)), (7, (.int .i64 at')), (30, (.slice A3 r'.Fibers.length c3)), (31, (.int .i64 (r'.Fibers.length : Int))), (32, (.int .i64 i))] ∧ Mem ⟨w0, []⟩ S [⟨b', 32, [(.slice A n'.Nodes.length c), (.slice A2 n'.Fibers.length c2)]⟩] [⟨.sh true, E, A5, c5, (out' : List Int)⟩] [] [(false, MP.val [(.slice A3 r'.Fibers.length c3)] (r'.Fibers : List Int)), (false, MP.val [(.slice A2 n'.Fibers.length c2)] (n'.Fibers : List Fiber)), (false, MP.val [(.slice A n'.Nodes.length c)] (n'.Nodes : List ByteArray))] w) (fun k (s : List Int × Int × Int) => impl_visited_L1 fu n' r' k s.1 s.2.1 s.2.2 = some out2) (fun s => out2 = Out.next s) ([r'.Start], r'.Start, 0) fu hB1 ⟨A4, 1, 3, hf, H⟩ (fun s h => by cases h) ?_ ?_
  ·rintro fk ⟨out', at', i⟩ a w hR1 hI
   replace hR1 : impl_visited_L1 fu n' r' (fk + 1) out' at' i = some out2 := hR1
   rw [impl_visited_L1] at hR1
   obtain ⟨A5, c5, E, hf, H⟩ := hI
   refine sq (reg (pr 1 hf rfl rfl fun a hf => ?_))
   refine wl_end (then_n (sq (iteB hR1 (fun hc3 hR1 => cd_t hf rfl hc3 ?_) fun hc3 hR1 => cd_f hf rfl hc3 ?_)))
   ·refine wp_skip (then_n (sq (wp_block (sq (reg ?_)))))
    obtain ⟨e, he, hR1⟩ := bind_some hR1
    refine wl0 rfl (op_iaddr hf H Try.underlying26 TF.sz3 0 rfl rfl rfl he (by decide) fun p o cs a hf hr H => ?_)
    obtain rfl := hr
    refine wl0 rfl (op_q hf (rq_loadI hf H TF.ls3 0 0 rfl rfl rfl) rfl (by decide) fun a hf => ?_)
    refine pr 1 hf rfl rfl fun a hf => ?_
    refine wl_end (then_n (sq (sq (reg (pr 2 hf rfl rfl fun a hf => ?_)))))
    refine wl0 rfl (op_q hf (rq_loadB hf H TF.ls30 0 rfl rfl rfl) rfl (by decide) fun a hf => ?_)
    refine pr 2 hf rfl rfl fun a hf => ?_
    obtain ⟨y2, hy2, hR1⟩ := bind_some hR1
    refine wl0 rfl (op_call hf TF.cl52 rfl (by decide) (impl_within_ok (S := fun _ => True) mk_int mk_int mk_int hy2) fun v2 w a hp2 hf => ?_)
    obtain ⟨hb2, hp2⟩ := hp2
    obtain rfl := VR_bool hp2
    have H := H.keep hb2
    refine pr 1 hf rfl rfl fun a hf => ?_
    refine wl_end (then_n (iteB hR1 (fun hc4 hR1 => cd_t hf rfl hc4 ?_) fun hc4 hR1 => cd_f hf rfl hc4 ?_))
    ·refine sq (reg (pr 2 hf rfl rfl fun a hf => ?_))
     have hf := hf.prune [4, 5] rfl
     refine wl_end (then_n (wp_ret (then_r (blk_r (then_r (then_r (blk_r (then_r (then_r (?_))))))))))
     have H := H.ownNil (Int)
     have H := H.lend 0 rfl
     obtain rfl := Option.some.inj hR1
     replace hF := on_ret hF
     obtain rfl := Option.some.inj hF
     refine ret_2 (fn := Try.f100) (r := .tmp 4) (s := .tmp 5) hf rfl (rv_tmp hf rfl) (rv_tmp hf rfl) ?_
     have hN := H.ends (X := [(⟨[], MP.own [] [(.slice none 0 0)] ([] : List Int)⟩ : DI)])
     simp only [List.flatMap_cons, List.flatMap_nil, List.append_nil, List.append_assoc] at hN
     exact ⟨_, rfl, H.bel, [], _, _, rfl, (mko_list (H.ownAt 0 rfl)), mk_bool, hN⟩
    ·refine wp_skip (then_n (sq (reg (pr 1 hf rfl rfl fun a hf => ?_))))
     refine wl0 rfl (op_q hf (rq_loadB hf H TF.ls30 0 rfl rfl rfl) rfl (by decide) fun a hf => ?_)
     refine pr 1 hf rfl rfl fun a hf => ?_
     obtain ⟨e2, he2, hR1⟩ := bind_some hR1
     refine wl0 rfl (op_iaddr hf H Try.underlying30 TF.sz83 2 rfl rfl rfl he2 (by decide) fun p2 o2 cs2 a hf hr2 H => ?_)
     obtain rfl := Fiber_cells hr2
     refine wl0 rfl (op_q hf (rq_loadIN hf H TF.la83 0 0 rfl rfl rfl rfl) rfl (by decide) fun a hf => ?_)
     refine pr 1 hf rfl rfl fun a hf => ?_
     obtain ⟨y3, hy3, hR1⟩ := bind_some hR1
     refine wl0 rfl (op_call hf TF.cl124 rfl (by decide) (impl_otherEnd_ok (S := fun _ => True) Fiber_mkv mk_int hy3) fun v3 w a hp3 hf => ?_)
     obtain ⟨hb3, hp3⟩ := hp3
     obtain rfl := VR_int hp3
     have H := H.keep hb3
     refine pr 1 hf rfl rfl fun a hf => ?_
     have hf := hf.prune [2, 6, 7, 30, 31, 32] rfl
     refine wl_end (then_n (sq (sq ?_)))
     obtain ⟨c6, hGc6, hR1⟩ := bind_some hR1
     have fh2 := hf.prune [2, 6, 7, 30, 31, 32] rfl
     have Hm2 := H.let [true] [true] [] [2, 3, 4]
     refine midF 56 (.bool c6) fh2 Hm2 ?_ fun a w hf H => ?_
     ·refine reg (pr 3 hf rfl rfl fun a hf => ?_)
      refine iteB hGc6 (fun hc5 hGc6 => ?_) fun hc5 hGc6 => ?_
      ·have hf := hf.lit 52 rfl hc5
       refine pr 4 hf rfl rfl fun a hf => ?_
       obtain rfl := Option.some.inj hGc6
       have hf := hf.prune [56, 2, 6, 7, 30, 31, 32] rfl
       have H := H.let [true] [true] [] [2, 3, 4]
       exact wl_end ⟨hf, H⟩
      ·have hf := hf.lit 52 rfl hc5
       refine pr 2 hf rfl rfl fun a hf => ?_
       obtain ⟨y4, hy4, hGc6⟩ := bind_some hGc6
       refine wlg hf rfl rfl rfl (op_call hf TF.cl96 rfl (by decide) (slices_Contains_int_int_ok (S := fun _ => True) (mk_list (H.rowTrue 0 rfl)) mk_int hy4) fun v4 w a hp4 hf => ?_)
       obtain ⟨hb4, hp4⟩ := hp4
       obtain rfl := VR_bool hp4
       have H := H.keep hb4
       refine pr 1 hf rfl rfl fun a hf => ?_
       obtain rfl := Option.some.inj hGc6
       have hf := hf.prune [56, 2, 6, 7, 30, 31, 32] rfl
       have H := H.let [true] [true] [] [2, 3, 4]
       exact wl_end ⟨hf, H⟩
     refine then_n (iteB hR1 (fun hc6 hR1 => cd_t hf rfl hc6 ?_) fun hc6 hR1 => cd_f hf rfl hc6 ?_)
     ·refine sq (reg (pr 2 hf rfl rfl fun a hf => ?_))
      refine wl_end (then_n (wp_ret (then_r (blk_r (then_r (then_r (blk_r (then_r (then_r (?_))))))))))
      have H := H.ownNil (Int)
      have H := H.lend 0 rfl
      obtain rfl := Option.some.inj hR1
      replace hF := on_ret hF
      obtain rfl := Option.some.inj hF
      refine ret_2 (fn := Try.f100) (r := .tmp 4) (s := .tmp 5) hf rfl (rv_tmp hf rfl) (rv_tmp hf rfl) ?_
      have hN := H.ends (X := [(⟨[], MP.own [] [(.slice none 0 0)] ([] : List Int)⟩ : DI)])
      simp only [List.flatMap_cons, List.flatMap_nil, List.append_nil, List.append_assoc] at hN
      exact ⟨_, rfl, H.bel, [], _, _, rfl, (mko_list (H.ownAt 0 rfl)), mk_bool, hN⟩
     ·refine wp_skip (then_n (reg (pr 2 hf rfl rfl fun a hf => ?_)))
      refine wl0 rfl (op_bslice hf H (.sh true) rfl 3 ([y3] : List Int) [(.int .i64 y3)] rfl (fun w => by kernel_rfl) rfl (by decide) rfl trivial (el1 (y := y3) (rfl)) (by decide) fun A6 a w hf H => ?_)
      obtain ⟨l, hl, hR1⟩ := bind_some hR1
      refine wl0 rfl (op_appR hf H Try.underlying26 TF.ai3 rfl (by decide) 1 0 rfl rfl rfl rfl (.inr rfl) hl (by decide) fun E2 A7 c7 a w hf H => ?_)
      refine pr 1 hf rfl rfl fun a hf => ?_
      refine wl_end (blk_n (then_n (reg (pr 2 hf rfl rfl fun a hf => ?_))))
      refine wl_end ?_
      have hf := hf.prune [2, 6, 7, 30, 31, 32] rfl
      have H := H.let [true] [false, true] [] [0, 1, 2]
      exact then_n ⟨(l, y3, w64 (i + 1)), hR1, A7, c7, E2, hf, H⟩
   ·refine wp_exit (then_x (then_x (blk_e (?_))))
    have hf := hf.prune [2, 6, 7, 30, 31, 32] rfl
    have H := H.let [true] [true] [] [0, 1, 2]
    exact ⟨(out', at', i), (Option.some.inj hR1).symm, A5, c5, E, hf, H⟩
  rintro a w ⟨⟨out3, at2, i2⟩, rfl, A8, c8, E3, hf, H⟩
  replace hF := on_next hF
  dsimp only at hF
  refine then_n (sq (reg (pr 3 hf rfl rfl fun a hf => ?_)))
  refine wl_end (then_n (wp_ret (?_)))
  have H := H.rowOwn 0 rfl rfl
  obtain ⟨F, H⟩ := H.freezeOwn 0 rfl
  have H := H.lend 0 rfl
  obtain rfl := Option.some.inj hF
  refine ret_2 (fn := Try.f100) (r := .tmp 4) (s := .tmp 5) hf rfl (rv_tmp hf rfl) (rv_tmp hf rfl) ?_
  have hN := H.ends (X := [(⟨F, MP.own F [(.slice A8 out3.length c8)] (out3 : List Int)⟩ : DI)])
  simp only [List.flatMap_cons, List.flatMap_nil, List.append_nil, List.append_assoc] at hN
  exact ⟨_, rfl, H.bel, F, _, _, rfl, (mko_list (H.ownAt 0 rfl)), mk_bool, hN⟩

/- loop.example/g00897/impl.RouteNodes -/
set_option maxHeartbeats 1000000 in
theorem impl_RouteNodes_ok {fu : Nat} {w0 : World} {S : Nat → Prop} {v0_ : Value} {v1_ : Value} {n' : Network} {r' : Route} {r : List Int × Bool} (h0 : VR w0 S v0_ n') (h1 : VR w0 S v1_ r') (hF : impl_RouteNodes fu n' r' = some r) :
    Calls Try.prog 59 [v0_, v1_].toArray w0 fun e w' => ∃ v, e = .returned v ∧ (Below w0.heap.size w0 w' ∧ ∃ F0, ∃ u0 u1, v = .tuple #[u0, u1] ∧ VO w' F0 u0 r.1 ∧ VR w' (St ⟨w0, []⟩ S [] [] [] true) u1 r.2 ∧ New w0 w' F0) := by
 obtain ⟨A, c, A2, c2, rfl, hl, hl2⟩ := Network_open h0
 obtain ⟨A3, c3, rfl, hl3⟩ := Route_open h1
 have H := Mem.start ⟨w0, []⟩ S
 have H := H.pushArg (MP.val [(.slice A n'.Nodes.length c)] n'.Nodes) hl
 have H := H.pushArg (MP.val [(.slice A2 n'.Fibers.length c2)] n'.Fibers) hl2
 have H := H.pushArg (MP.val [(.slice A3 r'.Fibers.length c3)] r'.Fibers) hl3
 refine enter Try.func59 rfl rfl (nle rfl) rfl fun a hf => ?_
 rw [impl_RouteNodes] at hF
 refine sq (reg (wl0 rfl (op_box hf H rfl rfl (by decide) fun b' a w hf H => ?_)))
 refine wl0 rfl (op_box hf H rfl rfl (by decide) fun b2 a w hf H => ?_)
 refine pr 2 hf rfl rfl fun a hf => ?_
 refine wl_end (then_n (sq (sq (reg (wl0 rfl (op_q hf (rq_loadBN hf H TF.la32 1 rfl rfl rfl rfl) rfl (by decide) fun a hf => ?_))))))
 obtain ⟨y, hy, hF⟩ := bind_some hF
 refine wl0 rfl (op_call hf TF.cl50 rfl (by decide) (impl_IsValidNetwork_ok (S := fun _ => True) (Network_mkv (x := n') (rep_true (α := List ByteArray) (H.get 2 rfl)) (rep_true (α := List Fiber) (H.get 1 rfl))) hy) fun v w a hp hf => ?_)
 obtain ⟨hb, hp⟩ := hp
 obtain rfl := VR_bool hp
 have H := H.keep hb
 refine pr 1 hf rfl rfl fun a hf => ?_
 refine wl_end (then_n (iteB hF (fun hc hF => cd_t hf rfl hc ?_) fun hc hF => cd_f hf rfl hc ?_))
 ·refine sq (reg (pr 2 hf rfl rfl fun a hf => ?_))
  refine wl_end (then_n (wp_ret (then_r (?_))))
  have H := H.ownNil (Int)
  have H := H.lend 0 rfl
  obtain rfl := Option.some.inj hF
  refine ret_2 (fn := Try.f59) (r := .tmp 4) (s := .tmp 5) hf rfl (rv_tmp hf rfl) (rv_tmp hf rfl) ?_
  have hN := H.ends (X := [(⟨[], MP.own [] [(.slice none 0 0)] ([] : List Int)⟩ : DI)])
  simp only [List.flatMap_cons, List.flatMap_nil, List.append_nil, List.append_assoc] at hN
  exact ⟨_, rfl, H.bel, [], _, _, rfl, (mko_list (H.ownAt 0 rfl)), mk_bool, hN⟩
 ·refine wp_skip (then_n (sq (reg (wl0 rfl (op_q hf (rq_loadBN hf H TF.la32 1 rfl rfl rfl rfl) rfl (by decide) fun a hf => ?_)))))
  refine wl0 rfl (op_q hf (rq_loadBN hf H TF.la43 0 rfl rfl rfl rfl) rfl (by decide) fun a hf => ?_)
  obtain ⟨y2, hy2, hF⟩ := bind_some hF
  refine wl0 rfl (op_call hf TF.cl100 rfl (by decide) (impl_visited_ok (S := fun _ => True) (Network_mkv (x := n') (rep_true (α := List ByteArray) (H.get 2 rfl)) (rep_true (α := List Fiber) (H.get 1 rfl))) (Route_mkv (x := r') (rep_true (α := List Int) (H.get 0 rfl))) hy2) fun v2 w a hp2 hf => ?_)
  obtain ⟨hb2, F, v3, v4, rfl, hp3, hp4, hN⟩ := hp2
  obtain ⟨A4, c4, rfl, hl4⟩ := VO_list hp3
  obtain rfl := VR_bool hp4
  have H := H.addOwn hb2 (X := [(⟨F, MP.own F [(.slice A4 y2.1.length c4)] (y2.1 : List Int)⟩ : DI)]) (by simpa using hN.1) (ps1 hl4 ps0) (by simpa using hN.2)
  have H := H.lend 0 rfl
  refine pr 4 hf rfl rfl fun a hf => ?_
  refine wl_end (then_n (wp_ret (?_)))
  obtain rfl := Option.some.inj hF
  refine ret_2 (fn := Try.f59) (r := .tmp 4) (s := .tmp 5) hf rfl (rv_tmp hf rfl) (rv_tmp hf rfl) ?_
  have hN := H.ends (X := [(⟨F, MP.own F [(.slice A4 y2.1.length c4)] (y2.1 : List Int)⟩ : DI)])
  simp only [List.flatMap_cons, List.flatMap_nil, List.append_nil, List.append_assoc] at hN
  exact ⟨_, rfl, H.bel, F, _, _, rfl, (mko_list (H.ownAt 0 rfl)), mk_bool, hN⟩

/- loop.example/g00897/impl.IsValidRoute -/
set_option maxHeartbeats 1000000 in
theorem impl_IsValidRoute_ok {fu : Nat} {w0 : World} {S : Nat → Prop} {v0_ : Value} {v1_ : Value} {n' : Network} {r' : Route} {r : Bool} (h0 : VR w0 S v0_ n') (h1 : VR w0 S v1_ r') (hF : impl_IsValidRoute fu n' r' = some r) :
    Calls Try.prog 62 [v0_, v1_].toArray w0 fun e w' => ∃ v, e = .returned v ∧ (Below w0.heap.size w0 w' ∧ VR w' (St ⟨w0, []⟩ S [] [] [] true) v r) := by
 obtain ⟨A, c, A2, c2, rfl, hl, hl2⟩ := Network_open h0
 obtain ⟨A3, c3, rfl, hl3⟩ := Route_open h1
 have H := Mem.start ⟨w0, []⟩ S
 have H := H.pushArg (MP.val [(.slice A n'.Nodes.length c)] n'.Nodes) hl
 have H := H.pushArg (MP.val [(.slice A2 n'.Fibers.length c2)] n'.Fibers) hl2
 have H := H.pushArg (MP.val [(.slice A3 r'.Fibers.length c3)] r'.Fibers) hl3
 refine enter Try.func62 rfl rfl (nle rfl) rfl fun a hf => ?_
 rw [impl_IsValidRoute] at hF
 refine sq (reg (wl0 rfl (op_box hf H rfl rfl (by decide) fun b' a w hf H => ?_)))
 refine wl0 rfl (op_box hf H rfl rfl (by decide) fun b2 a w hf H => ?_)
 refine pr 1 hf rfl rfl fun a hf => ?_
 refine wl_end (then_n (sq (reg (wl0 rfl (op_q hf (rq_loadBN hf H TF.la32 1 rfl rfl rfl rfl) rfl (by decide) fun a hf => ?_)))))
 refine wl0 rfl (op_q hf (rq_loadBN hf H TF.la43 0 rfl rfl rfl rfl) rfl (by decide) fun a hf => ?_)
 obtain ⟨y, hy, hF⟩ := bind_some hF
 refine wl0 rfl (op_call hf TF.cl59 rfl (by decide) (impl_RouteNodes_ok (S := fun _ => True) (Network_mkv (x := n') (rep_true (α := List ByteArray) (H.get 2 rfl)) (rep_true (α := List Fiber) (H.get 1 rfl))) (Route_mkv (x := r') (rep_true (α := List Int) (H.get 0 rfl))) hy) fun v w a hp hf => ?_)
 obtain ⟨hb, F, v2, v3, rfl, hp2, hp3, hN⟩ := hp
 obtain ⟨A4, c4, rfl, hl4⟩ := VO_list hp2
 obtain rfl := VR_bool hp3
 have H := H.addOwn hb (X := [(⟨F, MP.own F [(.slice A4 y.1.length c4)] (y.1 : List Int)⟩ : DI)]) (by simpa using hN.1) (ps1 hl4 ps0) (by simpa using hN.2)
 have H := H.lend 0 rfl
 refine pr 5 hf rfl rfl fun a hf => ?_
 refine wl_end (then_n (sq (reg (pr 2 hf rfl rfl fun a hf => ?_))))
 have hf := hf.prune [4] rfl
 refine wl_end (then_n (wp_ret (?_)))
 obtain rfl := Option.some.inj hF
 refine ret_1 (fn := Try.f62) (r := .tmp 4) hf rfl (rv_tmp hf rfl) ?_
 exact ⟨_, rfl, H.bel, mk_bool⟩

/- loop.example/g00897/impl.regenerators -/
set_option maxHeartbeats 1000000 in
theorem impl_regenerators_ok {fu : Nat} {w0 : World} {S : Nat → Prop} {v0_ : Value} {v1_ : Value} {v2_ : Value} {n' : Network} {r' : Route} {reach : Int} {r : List Int × Bool} (h0 : VR w0 S v0_ n') (h1 : VR w0 S v1_ r') (h2 : VR w0 S v2_ reach) (hF : impl_regenerators fu n' r' reach = some r) :
    Calls Try.prog 63 [v0_, v1_, v2_].toArray w0 fun e w' => ∃ v, e = .returned v ∧ (Below w0.heap.size w0 w' ∧ ∃ F0, ∃ u0 u1, v = .tuple #[u0, u1] ∧ VO w' F0 u0 r.1 ∧ VR w' (St ⟨w0, []⟩ S [] [] [] true) u1 r.2 ∧ New w0 w' F0) := by
 obtain ⟨A, c, A2, c2, rfl, hl, hl2⟩ := Network_open h0
 obtain ⟨A3, c3, rfl, hl3⟩ := Route_open h1
 obtain rfl := VR_int h2
 have H := Mem.start ⟨w0, []⟩ S
 have H := H.pushArg (MP.val [(.slice A n'.Nodes.length c)] n'.Nodes) hl
 have H := H.pushArg (MP.val [(.slice A2 n'.Fibers.length c2)] n'.Fibers) hl2
 have H := H.pushArg (MP.val [(.slice A3 r'.Fibers.length c3)] r'.Fibers) hl3
 refine enter Try.func63 rfl rfl (nle rfl) rfl fun a hf => ?_
 rw [impl_regenerators] at hF
 refine sq (reg (wl0 rfl (op_box hf H rfl rfl (by decide) fun b' a w hf H => ?_)))
 refine wl0 rfl (op_box hf H rfl rfl (by decide) fun b2 a w hf H => ?_)
 refine pr 2 hf rfl rfl fun a hf => ?_
 refine wl_end (then_n (sq (reg (wl0 rfl (op_q hf (rq_loadBN hf H TF.la32 1 rfl rfl rfl rfl) rfl (by decide) fun a hf => ?_)))))
 refine wl0 rfl (op_q hf (rq_loadBN hf H TF.la43 0 rfl rfl rfl rfl) rfl (by decide) fun a hf => ?_)
 obtain ⟨y, hy, hF⟩ := bind_some hF
 refine wl0 rfl (op_call hf TF.cl100 rfl (by decide) (impl_visited_ok (S := fun _ => True) (Network_mkv (x := n') (rep_true (α := List ByteArray) (H.get 2 rfl)) (rep_true (α := List Fiber) (H.get 1 rfl))) (Route_mkv (x := r') (rep_true (α := List Int) (H.get 0 rfl))) hy) fun v w a hp hf => ?_)
 obtain ⟨hb, F, v2, v3, rfl, hp2, hp3, hN⟩ := hp
 obtain ⟨A4, c4, rfl, hl4⟩ := VO_list hp2
 obtain rfl := VR_bool hp3
 have H := H.addOwn hb (X := [(⟨F, MP.own F [(.slice A4 y.1.length c4)] (y.1 : List Int)⟩ : DI)]) (by simpa using hN.1) (ps1 hl4 ps0) (by simpa using hN.2)
 have H := H.lend 0 rfl
 refine pr 5 hf rfl rfl fun a hf => ?_
 refine wl_end (then_n (sq (reg (wl0 rfl (op_bslice hf H (.sh true) rfl 3 ([] : List Int) [] rfl (fun w => by kernel_rfl) rfl (by decide) rfl trivial el0 (by decide) fun A5 a w hf H => ?_)))))
 refine pr 2 hf rfl rfl fun a hf => ?_
 refine wl_end (then_n (sq (sq (reg (pr 1 hf rfl rfl fun a hf => ?_)))))
 refine wl0 rfl (op_q hf (rq_loadB hf H TF.ls26 0 rfl rfl rfl) rfl (by decide) fun a hf => ?_)
 refine pr 2 hf rfl rfl fun a hf => ?_
 have hf := hf.prune [2, 3, 8, 10, 11, 23, 24, 25] rfl
 refine wl_end (then_n ?_)
 obtain ⟨out2, hB1, hF⟩ := bind_some hF
 have hf := hf.prune [2, 3, 8, 10, 11, 23, 24, 25] rfl
 have H := H.let [false, true] [true] [true] [0, 1, 2, 3]
 refine loopC (fun (s : List Int × Int × Int) (a : Act) (w : World) => match s with | (out', far, i) => ∃ (A6 : Option Addr) (c5 : Nat) (E : Go.TypeId), Fr a 56 [(2, (.int .i64 reach)), (3, (.pointer (some ⟨b', 0, none⟩))), (8, (.slice A4 y.1.length c4)), (10, (.slice A6 out'.length c5)), (11, (.int .i64 far)), (23, (.slice A3 r'.Fibers.length c3)), (24, (.int .i64 (r'.Fibers.length : Int))), (25, (.int .i64 i))] ∧ Mem ⟨w0, []⟩ S [⟨b', 32, [(.slice A n'.Nodes.length c), (.slice A2 n'.Fibers.length c2)]⟩] [⟨.sh true, E, A6, c5, (out' : List Int)⟩] [⟨F, MP.own F [(.slice A4 y.1.length c4)] (y.1 : List Int)⟩] [(true, MP.val [(.slice A4 y.1.length c4)] (y.1 : List Int)), (false, MP.val [(.slice A3 r'.Fibers.length c3)] (r'.Fibers : List Int)), (false, MP.val [(.slice A2 n'.Fibers.length c2)] (n'.Fibers : List Fiber)), (false, MP.val [(.slice A n'.Nodes.length c)] (n'.Nodes : List ByteArray))] w) (fun k (s : List Int × Int × Int) => impl_regenerators_L1 fu n' r' reach y k s.1 s.2.1 s.2.2 = some out2) (fun s => out2 = Out.next s) (([] : List Int), 0, 0) fu hB1 ⟨A5, 0, 3, hf, H⟩ (fun s h => by cases h) ?_ ?_
 ·rintro fk ⟨out', far, i⟩ a w hR1 hI
  replace hR1 : impl_regenerators_L1 fu n' r' reach y (fk + 1) out' far i = some out2 := hR1
  rw [impl_regenerators_L1] at hR1
  obtain ⟨A6, c5, E, hf, H⟩ := hI
  refine sq (reg (pr 1 hf rfl rfl fun a hf => ?_))
  refine wl_end (then_n (sq (iteB hR1 (fun hc hR1 => cd_t hf rfl hc ?_) fun hc hR1 => cd_f hf rfl hc ?_)))
  ·refine wp_skip (then_n (sq (wp_block (sq (reg (pr 1 hf rfl rfl fun a hf => ?_))))))
   obtain ⟨e, he, hR1⟩ := bind_some hR1
   refine wl0 rfl (op_iaddr hf H Try.underlying26 TF.sz3 1 rfl rfl rfl he (by decide) fun p o cs a hf hr H => ?_)
   obtain rfl := hr
   refine wl0 rfl (op_q hf (rq_loadI hf H TF.ls3 0 0 rfl rfl rfl) rfl (by decide) fun a hf => ?_)
   refine pr 2 hf rfl rfl fun a hf => ?_
   refine wl_end (then_n (sq (reg (pr 1 hf rfl rfl fun a hf => ?_))))
   refine wl0 rfl (op_q hf (rq_loadB hf H TF.ls30 0 rfl rfl rfl) rfl (by decide) fun a hf => ?_)
   refine pr 1 hf rfl rfl fun a hf => ?_
   obtain ⟨e2, he2, hR1⟩ := bind_some hR1
   refine wl0 rfl (op_iaddr hf H Try.underlying30 TF.sz83 3 rfl rfl rfl he2 (by decide) fun p2 o2 cs2 a hf hr2 H => ?_)
   obtain rfl := Fiber_cells hr2
   refine pr 1 hf rfl rfl fun a hf => ?_
   refine wl0 rfl (op_q hf (rq_loadI hf H TF.ls3 0 2 rfl rfl rfl) rfl (by decide) fun a hf => ?_)
   refine pr 1 hf rfl rfl fun a hf => ?_
   refine wl_end (then_n (sq (sq (reg (pr 3 hf rfl rfl fun a hf => ?_)))))
   have hf := hf.prune [2, 3, 8, 10, 11, 12, 14, 23, 24, 25, 38] rfl
   refine wl_end (then_n (iteB hR1 (fun hc2 hR1 => cd_t hf rfl hc2 ?_) fun hc2 hR1 => cd_f hf rfl hc2 ?_))
   ·refine sq (reg (pr 2 hf rfl rfl fun a hf => ?_))
    refine wl_end (then_n (wp_ret (then_r (blk_r (then_r (then_r (blk_r (then_r (then_r (?_))))))))))
    have H := H.ownNil (Int)
    have H := H.lend 0 rfl
    obtain rfl := Option.some.inj hR1
    replace hF := on_ret hF
    obtain rfl := Option.some.inj hF
    refine ret_2 (fn := Try.f63) (r := .tmp 6) (s := .tmp 7) hf rfl (rv_tmp hf rfl) (rv_tmp hf rfl) ?_
    have hN := H.ends (X := [(⟨[], MP.own [] [(.slice none 0 0)] ([] : List Int)⟩ : DI)])
    simp only [List.flatMap_cons, List.flatMap_nil, List.append_nil, List.append_assoc] at hN
    exact ⟨_, rfl, H.bel, [], _, _, rfl, (mko_list (H.ownAt 0 rfl)), mk_bool, hN⟩
   ·refine wp_skip (then_n (sq (sq (reg (pr 5 hf rfl rfl fun a hf => ?_)))))
    refine wl_end (then_n (iteB hR1 (fun hc3 hR1 => cd_t hf rfl hc3 ?_) fun hc3 hR1 => cd_f hf rfl hc3 ?_))
    ·refine reg (pr 3 hf rfl rfl fun a hf => ?_)
     obtain ⟨e3, he3, hR1⟩ := bind_some hR1
     refine wl0 rfl (op_iaddr hf H Try.underlying26 TF.sz3 2 rfl rfl rfl he3 (by decide) fun p3 o3 cs3 a hf hr3 H => ?_)
     obtain rfl := hr3
     refine wl0 rfl (op_q hf (rq_loadI hf H TF.ls3 0 0 rfl rfl rfl) rfl (by decide) fun a hf => ?_)
     refine wl0 rfl (op_bslice hf H (.sh true) rfl 3 ([e3] : List Int) [(.int .i64 e3)] rfl (fun w => by kernel_rfl) rfl (by decide) rfl trivial (el1 (y := e3) (rfl)) (by decide) fun A7 a w hf H => ?_)
     obtain ⟨l, hl, hR1⟩ := bind_some hR1
     refine wl0 rfl (op_appR hf H Try.underlying26 TF.ai3 rfl (by decide) 1 0 rfl rfl rfl rfl (.inr rfl) hl (by decide) fun E2 A8 c6 a w hf H => ?_)
     refine pr 2 hf rfl rfl fun a hf => ?_
     have hf := hf.prune [2, 3, 8, 10, 11, 14, 23, 24, 25] rfl
     refine wl_end (then_n (reg (pr 4 hf rfl rfl fun a hf => ?_)))
     refine wl_end (blk_n (then_n (reg (pr 2 hf rfl rfl fun a hf => ?_))))
     refine wl_end ?_
     have hf := hf.prune [2, 3, 8, 10, 11, 23, 24, 25] rfl
     have H := H.let [true] [false, true] [true] [3, 4, 5, 6]
     exact then_n ⟨(l, w64 (0 + e2.Length), w64 (i + 1)), hR1, A8, c6, E2, hf, H⟩
    ·refine wp_skip (then_n (reg (pr 4 hf rfl rfl fun a hf => ?_)))
     refine wl_end (blk_n (then_n (reg (pr 2 hf rfl rfl fun a hf => ?_))))
     refine wl_end ?_
     have hf := hf.prune [2, 3, 8, 10, 11, 23, 24, 25] rfl
     have H := H.let [true] [true] [true] [2, 3, 4, 5]
     exact then_n ⟨(out', w64 (far + e2.Length), w64 (i + 1)), hR1, A6, c5, E, hf, H⟩
  ·refine wp_exit (then_x (then_x (blk_e (?_))))
   have hf := hf.prune [2, 3, 8, 10, 11, 23, 24, 25] rfl
   have H := H.let [true] [true] [true] [0, 1, 2, 3]
   exact ⟨(out', far, i), (Option.some.inj hR1).symm, A6, c5, E, hf, H⟩
 rintro a w ⟨⟨out3, far2, i2⟩, rfl, A9, c7, E3, hf, H⟩
 replace hF := on_next hF
 dsimp only at hF
 refine then_n (sq (reg (pr 3 hf rfl rfl fun a hf => ?_)))
 refine wl_end (then_n (wp_ret (?_)))
 have H := H.rowOwn 0 rfl rfl
 obtain ⟨F3, H⟩ := H.freezeOwn 0 rfl
 have H := H.lend 0 rfl
 obtain rfl := Option.some.inj hF
 refine ret_2 (fn := Try.f63) (r := .tmp 6) (s := .tmp 7) hf rfl (rv_tmp hf rfl) (rv_tmp hf rfl) ?_
 have hN := H.ends (X := [(⟨F3, MP.own F3 [(.slice A9 out3.length c7)] (out3 : List Int)⟩ : DI)])
 simp only [List.flatMap_cons, List.flatMap_nil, List.append_nil, List.append_assoc] at hN
 exact ⟨_, rfl, H.bel, F3, _, _, rfl, (mko_list (H.ownAt 0 rfl)), mk_bool, hN⟩

/- loop.example/g00897/impl.RegeneratorsFor -/
set_option maxHeartbeats 1000000 in
theorem impl_RegeneratorsFor_ok {fu : Nat} {w0 : World} {S : Nat → Prop} {v0_ : Value} {v1_ : Value} {v2_ : Value} {n' : Network} {r' : Route} {reach : Int} {r : List Int × Bool} (h0 : VR w0 S v0_ n') (h1 : VR w0 S v1_ r') (h2 : VR w0 S v2_ reach) (hF : impl_RegeneratorsFor fu n' r' reach = some r) :
    Calls Try.prog 26 [v0_, v1_, v2_].toArray w0 fun e w' => ∃ v, e = .returned v ∧ (Below w0.heap.size w0 w' ∧ ∃ F0, ∃ u0 u1, v = .tuple #[u0, u1] ∧ VO w' F0 u0 r.1 ∧ VR w' (St ⟨w0, []⟩ S [] [] [] true) u1 r.2 ∧ New w0 w' F0) := by
 obtain ⟨A, c, A2, c2, rfl, hl, hl2⟩ := Network_open h0
 obtain ⟨A3, c3, rfl, hl3⟩ := Route_open h1
 obtain rfl := VR_int h2
 have H := Mem.start ⟨w0, []⟩ S
 have H := H.pushArg (MP.val [(.slice A n'.Nodes.length c)] n'.Nodes) hl
 have H := H.pushArg (MP.val [(.slice A2 n'.Fibers.length c2)] n'.Fibers) hl2
 have H := H.pushArg (MP.val [(.slice A3 r'.Fibers.length c3)] r'.Fibers) hl3
 refine enter Try.func26 rfl rfl (nle rfl) rfl fun a hf => ?_
 rw [impl_RegeneratorsFor] at hF
 refine sq (reg (wl0 rfl (op_box hf H rfl rfl (by decide) fun b' a w hf H => ?_)))
 refine wl0 rfl (op_box hf H rfl rfl (by decide) fun b2 a w hf H => ?_)
 refine pr 2 hf rfl rfl fun a hf => ?_
 refine wl_end (then_n (sq (sq ?_)))
 obtain ⟨c4, hGc4, hF⟩ := bind_some hF
 have fh := hf.prune [2, 3, 4] rfl
 have Hm := H.let [true, true] [] [] [0, 1, 2]
 refine midF 16 (.bool c4) fh Hm ?_ fun a w hf H => ?_
 ·refine reg (wl0 rfl (op_q hf (rq_loadBN hf H TF.la32 1 rfl rfl rfl rfl) rfl (by decide) fun a hf => ?_))
  refine wl0 rfl (op_q hf (rq_loadBN hf H TF.la43 0 rfl rfl rfl rfl) rfl (by decide) fun a hf => ?_)
  obtain ⟨y, hy, hGc4⟩ := bind_some hGc4
  refine wl0 rfl (op_call hf TF.cl62 rfl (by decide) (impl_IsValidRoute_ok (S := fun _ => True) (Network_mkv (x := n') (rep_true (α := List ByteArray) (H.get 2 rfl)) (rep_true (α := List Fiber) (H.get 1 rfl))) (Route_mkv (x := r') (rep_true (α := List Int) (H.get 0 rfl))) hy) fun v w a hp hf => ?_)
  obtain ⟨hb, hp⟩ := hp
  obtain rfl := VR_bool hp
  have H := H.keep hb
  refine pr 2 hf rfl rfl fun a hf => ?_
  refine iteB hGc4 (fun hc hGc4 => ?_) fun hc hGc4 => ?_
  ·have hf := hf.lit 12 rfl hc
   refine pr 4 hf rfl rfl fun a hf => ?_
   obtain rfl := Option.some.inj hGc4
   have hf := hf.prune [16, 2, 3, 4] rfl
   have H := H.let [true, true] [] [] [0, 1, 2]
   exact wl_end ⟨hf, H⟩
  ·have hf := hf.lit 12 rfl hc
   refine pr 1 hf rfl rfl fun a hf => ?_
   obtain ⟨y2, hy2, hGc4⟩ := bind_some hGc4
   refine wlg hf rfl rfl rfl (op_call hf TF.cl52 rfl (by decide) (impl_within_ok (S := fun _ => True) mk_int mk_int mk_int hy2) fun v2 w a hp2 hf => ?_)
   obtain ⟨hb2, hp2⟩ := hp2
   obtain rfl := VR_bool hp2
   have H := H.keep hb2
   refine pr 2 hf rfl rfl fun a hf => ?_
   obtain rfl := Option.some.inj hGc4
   have hf := hf.prune [16, 2, 3, 4] rfl
   have H := H.let [true, true] [] [] [0, 1, 2]
   exact wl_end ⟨hf, H⟩
 refine then_n (iteB hF (fun hc2 hF => cd_t hf rfl hc2 ?_) fun hc2 hF => cd_f hf rfl hc2 ?_)
 ·refine sq (reg (pr 2 hf rfl rfl fun a hf => ?_))
  refine wl_end (then_n (wp_ret (then_r (?_))))
  have H := H.ownNil (Int)
  have H := H.lend 0 rfl
  obtain rfl := Option.some.inj hF
  refine ret_2 (fn := Try.f26) (r := .tmp 6) (s := .tmp 7) hf rfl (rv_tmp hf rfl) (rv_tmp hf rfl) ?_
  have hN := H.ends (X := [(⟨[], MP.own [] [(.slice none 0 0)] ([] : List Int)⟩ : DI)])
  simp only [List.flatMap_cons, List.flatMap_nil, List.append_nil, List.append_assoc] at hN
  exact ⟨_, rfl, H.bel, [], _, _, rfl, (mko_list (H.ownAt 0 rfl)), mk_bool, hN⟩
 ·refine wp_skip (then_n (sq (reg (wl0 rfl (op_q hf (rq_loadBN hf H TF.la32 1 rfl rfl rfl rfl) rfl (by decide) fun a hf => ?_)))))
  refine wl0 rfl (op_q hf (rq_loadBN hf H TF.la43 0 rfl rfl rfl rfl) rfl (by decide) fun a hf => ?_)
  refine pr 1 hf rfl rfl fun a hf => ?_
  obtain ⟨y3, hy3, hF⟩ := bind_some hF
  refine wl0 rfl (op_call hf TF.cl63 rfl (by decide) (impl_regenerators_ok (S := fun _ => True) (Network_mkv (x := n') (rep_true (α := List ByteArray) (H.get 2 rfl)) (rep_true (α := List Fiber) (H.get 1 rfl))) (Route_mkv (x := r') (rep_true (α := List Int) (H.get 0 rfl))) mk_int hy3) fun v3 w a hp3 hf => ?_)
  obtain ⟨hb3, F, v4, v5, rfl, hp4, hp5, hN⟩ := hp3
  obtain ⟨A4, c5, rfl, hl4⟩ := VO_list hp4
  obtain rfl := VR_bool hp5
  have H := H.addOwn hb3 (X := [(⟨F, MP.own F [(.slice A4 y3.1.length c5)] (y3.1 : List Int)⟩ : DI)]) (by simpa using hN.1) (ps1 hl4 ps0) (by simpa using hN.2)
  have H := H.lend 0 rfl
  refine pr 4 hf rfl rfl fun a hf => ?_
  refine wl_end (then_n (wp_ret (?_)))
  obtain rfl := Option.some.inj hF
  refine ret_2 (fn := Try.f26) (r := .tmp 6) (s := .tmp 7) hf rfl (rv_tmp hf rfl) (rv_tmp hf rfl) ?_
  have hN := H.ends (X := [(⟨F, MP.own F [(.slice A4 y3.1.length c5)] (y3.1 : List Int)⟩ : DI)])
  simp only [List.flatMap_cons, List.flatMap_nil, List.append_nil, List.append_assoc] at hN
  exact ⟨_, rfl, H.bel, F, _, _, rfl, (mko_list (H.ownAt 0 rfl)), mk_bool, hN⟩

/- loop.example/g00897/laws.eqIntS -/
set_option maxHeartbeats 1000000 in
theorem laws_eqIntS_ok {fu : Nat} {w0 : World} {S : Nat → Prop} {v0_ : Value} {v1_ : Value} {a' : List Int} {b' : List Int} {r : Bool} (h0 : VR w0 S v0_ a') (h1 : VR w0 S v1_ b') (hF : laws_eqIntS fu a' b' = some r) :
    Calls Try.prog 15 [v0_, v1_].toArray w0 fun e w' => ∃ v, e = .returned v ∧ (Below w0.heap.size w0 w' ∧ VR w' (St ⟨w0, []⟩ S [] [] [] true) v r) := by
 obtain ⟨A, c, rfl, hl⟩ := VR_list h0
 obtain ⟨A2, c2, rfl, hl2⟩ := VR_list h1
 have H := Mem.start ⟨w0, []⟩ S
 have H := H.pushArg (MP.val [(.slice A a'.length c)] a') hl
 have H := H.pushArg (MP.val [(.slice A2 b'.length c2)] b') hl2
 refine enter Try.func15 rfl rfl (nle rfl) rfl fun a hf => ?_
 rw [laws_eqIntS] at hF
 refine sq (reg (pr 1 hf rfl rfl fun a hf => ?_))
 refine wl_end (then_n (sq (sq (reg (pr 5 hf rfl rfl fun a hf => ?_)))))
 refine wl_end (then_n (iteB hF (fun hc hF => cd_t hf rfl hc ?_) fun hc hF => cd_f hf rfl hc ?_))
 ·refine sq (reg (pr 1 hf rfl rfl fun a hf => ?_))
  refine wl_end (then_n (wp_ret (then_r (?_))))
  obtain rfl := Option.some.inj hF
  refine ret_1 (fn := Try.f15) (r := .tmp 4) hf rfl (rv_tmp hf rfl) ?_
  exact ⟨_, rfl, H.bel, mk_bool⟩
 ·refine wp_skip (then_n (sq (sq (reg (pr 1 hf rfl rfl fun a hf => ?_)))))
  refine wl_end (then_n ?_)
  obtain ⟨out', hB1, hF⟩ := bind_some hF
  have hf := hf.prune [0, 1, 5] rfl
  have H := H.let [] [] [] [0, 1]
  refine loopC (fun (s : Int) (a : Act) (w : World) => match s with | i => Fr a 26 [(0, (.slice A a'.length c)), (1, (.slice A2 b'.length c2)), (5, (.int .i64 i))] ∧ Mem ⟨w0, []⟩ S [] [] [] [(false, MP.val [(.slice A2 b'.length c2)] (b' : List Int)), (false, MP.val [(.slice A a'.length c)] (a' : List Int))] w) (fun k (s : Int) => laws_eqIntS_L1 fu a' b' k s = some out') (fun s => out' = Out.next s) 0 fu hB1 ⟨hf, H⟩ (fun s h => by cases h) ?_ ?_
  ·rintro fk i a w hR1 hI
   replace hR1 : laws_eqIntS_L1 fu a' b' (fk + 1) i = some out' := hR1
   rw [laws_eqIntS_L1] at hR1
   obtain ⟨hf, H⟩ := hI
   refine sq (sq (reg (pr 4 hf rfl rfl fun a hf => ?_)))
   refine wl_end (then_n (iteB hR1 (fun hc2 hR1 => cd_t hf rfl hc2 ?_) fun hc2 hR1 => cd_f hf rfl hc2 ?_))
   ·refine wp_skip (then_n (sq (wp_block (sq (drawn [] (bs := [false, false, false, false, false, false, false, false, false]) (fuel := 9) (Checked.mixed Try.checked) rfl rfl fun w hb => ?_)))))
    have H := H.keep hb
    refine tp 0 rfl rfl hf (by kernel_rfl) (fun _ => trivial) rfl fun a hf => ?_
    refine tp 1 rfl rfl hf (by kernel_rfl) (fun _ => trivial) rfl fun a hf => ?_
    obtain ⟨e, he, hR1⟩ := bind_some hR1
    obtain ⟨p, o, cs, hx, hr, H⟩ := pre_iaddr H Try.underlying26 TF.sz3 1 rfl he
    refine tP 2 rfl rfl rfl rfl hf (by kernel_rfl) (fun _ => trivial) (fun w => rq_iaddrE hf rfl rfl rfl hx w) fun a hf => ?_
    obtain rfl := hr
    refine strT H (fun w H => trivial) fun hS => ?_
    refine tS 3 [] rfl rfl rfl rfl hf (by kernel_rfl) (by kernel_rfl) hS (fun w H => rq_loadI hf H TF.ls3 0 0 rfl rfl rfl) fun a hf => ?_
    refine tp 4 rfl rfl hf (by kernel_rfl) (fun _ => hS) rfl fun a hf => ?_
    refine tp 5 rfl rfl hf (by kernel_rfl) (fun _ => hS) rfl fun a hf => ?_
    obtain ⟨e2, he2, hR1⟩ := bind_some hR1
    obtain ⟨p2, o2, cs2, hx2, hr2, H⟩ := pre_iaddr H Try.underlying26 TF.sz3 1 rfl he2
    refine tP 6 rfl rfl rfl rfl hf (by kernel_rfl) (fun _ => hS) (fun w => rq_iaddrE hf rfl rfl rfl hx2 w) fun a hf => ?_
    obtain rfl := hr2
    refine strT H (fun w H => H.let [] [] [] [1, 2, 3]) fun hS => ?_
    refine tS 7 [] rfl rfl rfl rfl hf (by kernel_rfl) (by kernel_rfl) hS (fun w H => rq_loadI hf H TF.ls3 0 0 rfl rfl rfl) fun a hf => ?_
    refine tp 8 rfl rfl hf (by kernel_rfl) (fun _ => hS) rfl fun a hf => ?_
    refine dn (by kernel_rfl) ?_
    refine then_n (iteB hR1 (fun hc3 hR1 => cd_t hf rfl hc3 ?_) fun hc3 hR1 => cd_f hf rfl hc3 ?_)
    ·refine sq (reg (pr 1 hf rfl rfl fun a hf => ?_))
     have hf := hf.prune [4] rfl
     refine wl_end (then_n (wp_ret (blk_r (then_r (then_r (blk_r (then_r (then_r (?_)))))))))
     obtain rfl := Option.some.inj hR1
     replace hF := on_ret hF
     obtain rfl := Option.some.inj hF
     refine ret_1 (fn := Try.f15) (r := .tmp 4) hf rfl (rv_tmp hf rfl) ?_
     exact ⟨_, rfl, H.bel, mk_bool⟩
    ·refine wp_skip (blk_n (then_n (reg (pr 3 hf rfl rfl fun a hf => ?_))))
     have hf := hf.prune [0, 1, 5] rfl
     refine wl_end ?_
     have hf := hf.prune [0, 1, 5] rfl
     have H := H.let [] [] [] [2, 3]
     exact then_n ⟨w64 (i + 1), hR1, hf, H⟩
   ·refine wp_exit (then_x (then_x (blk_e (?_))))
    have hf := hf.prune [0, 1, 5] rfl
    have H := H.let [] [] [] [0, 1]
    exact ⟨i, (Option.some.inj hR1).symm, hf, H⟩
  rintro a w ⟨i2, rfl, hf, H⟩
  replace hF := on_next hF
  refine then_n (sq (reg (pr 1 hf rfl rfl fun a hf => ?_)))
  refine wl_end (then_n (wp_ret (?_)))
  obtain rfl := Option.some.inj hF
  refine ret_1 (fn := Try.f15) (r := .tmp 4) hf rfl (rv_tmp hf rfl) ?_
  exact ⟨_, rfl, H.bel, mk_bool⟩

/- loop.example/g00897/laws.eqStringS -/
set_option maxHeartbeats 1000000 in
theorem laws_eqStringS_ok {fu : Nat} {w0 : World} {S : Nat → Prop} {v0_ : Value} {v1_ : Value} {a' : List ByteArray} {b' : List ByteArray} {r : Bool} (h0 : VR w0 S v0_ a') (h1 : VR w0 S v1_ b') (hF : laws_eqStringS fu a' b' = some r) :
    Calls Try.prog 54 [v0_, v1_].toArray w0 fun e w' => ∃ v, e = .returned v ∧ (Below w0.heap.size w0 w' ∧ VR w' (St ⟨w0, []⟩ S [] [] [] true) v r) := by
 obtain ⟨A, c, rfl, hl⟩ := VR_list h0
 obtain ⟨A2, c2, rfl, hl2⟩ := VR_list h1
 have H := Mem.start ⟨w0, []⟩ S
 have H := H.pushArg (MP.val [(.slice A a'.length c)] a') hl
 have H := H.pushArg (MP.val [(.slice A2 b'.length c2)] b') hl2
 refine enter Try.func54 rfl rfl (nle rfl) rfl fun a hf => ?_
 rw [laws_eqStringS] at hF
 refine sq (reg (pr 1 hf rfl rfl fun a hf => ?_))
 refine wl_end (then_n (sq (sq (reg (pr 5 hf rfl rfl fun a hf => ?_)))))
 refine wl_end (then_n (iteB hF (fun hc hF => cd_t hf rfl hc ?_) fun hc hF => cd_f hf rfl hc ?_))
 ·refine sq (reg (pr 1 hf rfl rfl fun a hf => ?_))
  refine wl_end (then_n (wp_ret (then_r (?_))))
  obtain rfl := Option.some.inj hF
  refine ret_1 (fn := Try.f54) (r := .tmp 4) hf rfl (rv_tmp hf rfl) ?_
  exact ⟨_, rfl, H.bel, mk_bool⟩
 ·refine wp_skip (then_n (sq (sq (reg (pr 1 hf rfl rfl fun a hf => ?_)))))
  refine wl_end (then_n ?_)
  obtain ⟨out', hB1, hF⟩ := bind_some hF
  have hf := hf.prune [0, 1, 5] rfl
  have H := H.let [] [] [] [0, 1]
  refine loopC (fun (s : Int) (a : Act) (w : World) => match s with | i => Fr a 26 [(0, (.slice A a'.length c)), (1, (.slice A2 b'.length c2)), (5, (.int .i64 i))] ∧ Mem ⟨w0, []⟩ S [] [] [] [(false, MP.val [(.slice A2 b'.length c2)] (b' : List ByteArray)), (false, MP.val [(.slice A a'.length c)] (a' : List ByteArray))] w) (fun k (s : Int) => laws_eqStringS_L1 fu a' b' k s = some out') (fun s => out' = Out.next s) 0 fu hB1 ⟨hf, H⟩ (fun s h => by cases h) ?_ ?_
  ·rintro fk i a w hR1 hI
   replace hR1 : laws_eqStringS_L1 fu a' b' (fk + 1) i = some out' := hR1
   rw [laws_eqStringS_L1] at hR1
   obtain ⟨hf, H⟩ := hI
   refine sq (sq (reg (pr 4 hf rfl rfl fun a hf => ?_)))
   refine wl_end (then_n (iteB hR1 (fun hc2 hR1 => cd_t hf rfl hc2 ?_) fun hc2 hR1 => cd_f hf rfl hc2 ?_))
   ·refine wp_skip (then_n (sq (wp_block (sq (drawn [] (bs := [false, false, false, false, false, false, false, false, false]) (fuel := 9) (Checked.mixed Try.checked) rfl rfl fun w hb => ?_)))))
    have H := H.keep hb
    refine tp 0 rfl rfl hf (by kernel_rfl) (fun _ => trivial) rfl fun a hf => ?_
    refine tp 1 rfl rfl hf (by kernel_rfl) (fun _ => trivial) rfl fun a hf => ?_
    obtain ⟨e, he, hR1⟩ := bind_some hR1
    obtain ⟨p, o, cs, hx, hr, H⟩ := pre_iaddr H Try.underlying22 TF.sz9 1 rfl he
    refine tP 2 rfl rfl rfl rfl hf (by kernel_rfl) (fun _ => trivial) (fun w => rq_iaddrE hf rfl rfl rfl hx w) fun a hf => ?_
    obtain rfl := hr
    refine strT H (fun w H => trivial) fun hS => ?_
    refine tS 3 [] rfl rfl rfl rfl hf (by kernel_rfl) (by kernel_rfl) hS (fun w H => rq_loadI hf H TF.ls9 0 0 rfl rfl rfl) fun a hf => ?_
    refine tp 4 rfl rfl hf (by kernel_rfl) (fun _ => hS) rfl fun a hf => ?_
    refine tp 5 rfl rfl hf (by kernel_rfl) (fun _ => hS) rfl fun a hf => ?_
    obtain ⟨e2, he2, hR1⟩ := bind_some hR1
    obtain ⟨p2, o2, cs2, hx2, hr2, H⟩ := pre_iaddr H Try.underlying22 TF.sz9 1 rfl he2
    refine tP 6 rfl rfl rfl rfl hf (by kernel_rfl) (fun _ => hS) (fun w => rq_iaddrE hf rfl rfl rfl hx2 w) fun a hf => ?_
    obtain rfl := hr2
    refine strT H (fun w H => H.let [] [] [] [1, 2, 3]) fun hS => ?_
    refine tS 7 [] rfl rfl rfl rfl hf (by kernel_rfl) (by kernel_rfl) hS (fun w H => rq_loadI hf H TF.ls9 0 0 rfl rfl rfl) fun a hf => ?_
    refine tp 8 rfl rfl hf (by kernel_rfl) (fun _ => hS) rfl fun a hf => ?_
    refine dn (by kernel_rfl) ?_
    refine then_n (iteB hR1 (fun hc3 hR1 => cd_t hf rfl hc3 ?_) fun hc3 hR1 => cd_f hf rfl hc3 ?_)
    ·refine sq (reg (pr 1 hf rfl rfl fun a hf => ?_))
     have hf := hf.prune [4] rfl
     refine wl_end (then_n (wp_ret (blk_r (then_r (then_r (blk_r (then_r (then_r (?_)))))))))
     obtain rfl := Option.some.inj hR1
     replace hF := on_ret hF
     obtain rfl := Option.some.inj hF
     refine ret_1 (fn := Try.f54) (r := .tmp 4) hf rfl (rv_tmp hf rfl) ?_
     exact ⟨_, rfl, H.bel, mk_bool⟩
    ·refine wp_skip (blk_n (then_n (reg (pr 3 hf rfl rfl fun a hf => ?_))))
     have hf := hf.prune [0, 1, 5] rfl
     refine wl_end ?_
     have hf := hf.prune [0, 1, 5] rfl
     have H := H.let [] [] [] [2, 3]
     exact then_n ⟨w64 (i + 1), hR1, hf, H⟩
   ·refine wp_exit (then_x (then_x (blk_e (?_))))
    have hf := hf.prune [0, 1, 5] rfl
    have H := H.let [] [] [] [0, 1]
    exact ⟨i, (Option.some.inj hR1).symm, hf, H⟩
  rintro a w ⟨i2, rfl, hf, H⟩
  replace hF := on_next hF
  refine then_n (sq (reg (pr 1 hf rfl rfl fun a hf => ?_)))
  refine wl_end (then_n (wp_ret (?_)))
  obtain rfl := Option.some.inj hF
  refine ret_1 (fn := Try.f54) (r := .tmp 4) hf rfl (rv_tmp hf rfl) ?_
  exact ⟨_, rfl, H.bel, mk_bool⟩

/- loop.example/g00897/laws.eqFiber -/
set_option maxHeartbeats 1000000 in
theorem laws_eqFiber_ok {fu : Nat} {w0 : World} {S : Nat → Prop} {v0_ : Value} {v1_ : Value} {a' : Fiber} {b' : Fiber} {r : Bool} (h0 : VR w0 S v0_ a') (h1 : VR w0 S v1_ b') (hF : laws_eqFiber fu a' b' = some r) :
    Calls Try.prog 98 [v0_, v1_].toArray w0 fun e w' => ∃ v, e = .returned v ∧ (Below w0.heap.size w0 w' ∧ VR w' (St ⟨w0, []⟩ S [] [] [] true) v r) := by
 obtain rfl := Fiber_open h0
 obtain rfl := Fiber_open h1
 have H := Mem.start ⟨w0, []⟩ S
 refine enter Try.func98 rfl rfl (nle rfl) rfl fun a hf => ?_
 rw [laws_eqFiber] at hF
 refine sq (reg (wl0 rfl (op_box hf H rfl rfl (by decide) fun b2 a w hf H => ?_)))
 refine wl0 rfl (op_box hf H rfl rfl (by decide) fun b3 a w hf H => ?_)
 refine pr 1 hf rfl rfl fun a hf => ?_
 refine wl_end (then_n (sq (sq (reg (pr 1 hf rfl rfl fun a hf => ?_)))))
 refine wl0 rfl (op_q hf (rq_loadB hf H TF.ls3 1 rfl rfl rfl) rfl (by decide) fun a hf => ?_)
 refine pr 1 hf rfl rfl fun a hf => ?_
 refine wl0 rfl (op_q hf (rq_loadB hf H TF.ls3 0 rfl rfl rfl) rfl (by decide) fun a hf => ?_)
 refine pr 1 hf rfl rfl fun a hf => ?_
 refine wl_end (then_n (iteB hF (fun hc hF => cd_t hf rfl hc ?_) fun hc hF => cd_f hf rfl hc ?_))
 ·refine sq (reg (pr 1 hf rfl rfl fun a hf => ?_))
  refine wl_end (then_n (wp_ret (then_r (?_))))
  obtain rfl := Option.some.inj hF
  refine ret_1 (fn := Try.f98) (r := .tmp 4) hf rfl (rv_tmp hf rfl) ?_
  exact ⟨_, rfl, H.bel, mk_bool⟩
 ·refine wp_skip (then_n (sq (sq (reg (pr 1 hf rfl rfl fun a hf => ?_)))))
  refine wl0 rfl (op_q hf (rq_loadB hf H TF.ls3 1 rfl rfl rfl) rfl (by decide) fun a hf => ?_)
  refine pr 1 hf rfl rfl fun a hf => ?_
  refine wl0 rfl (op_q hf (rq_loadB hf H TF.ls3 0 rfl rfl rfl) rfl (by decide) fun a hf => ?_)
  refine pr 1 hf rfl rfl fun a hf => ?_
  refine wl_end (then_n (iteB hF (fun hc2 hF => cd_t hf rfl hc2 ?_) fun hc2 hF => cd_f hf rfl hc2 ?_))
  ·refine sq (reg (pr 1 hf rfl rfl fun a hf => ?_))
   have hf := hf.prune [4] rfl
   refine wl_end (then_n (wp_ret (then_r (?_))))
   obtain rfl := Option.some.inj hF
   refine ret_1 (fn := Try.f98) (r := .tmp 4) hf rfl (rv_tmp hf rfl) ?_
   exact ⟨_, rfl, H.bel, mk_bool⟩
  ·refine wp_skip (then_n (sq (sq (reg (pr 1 hf rfl rfl fun a hf => ?_)))))
   refine wl0 rfl (op_q hf (rq_loadB hf H TF.ls3 1 rfl rfl rfl) rfl (by decide) fun a hf => ?_)
   refine pr 1 hf rfl rfl fun a hf => ?_
   refine wl0 rfl (op_q hf (rq_loadB hf H TF.ls3 0 rfl rfl rfl) rfl (by decide) fun a hf => ?_)
   refine pr 1 hf rfl rfl fun a hf => ?_
   have hf := hf.prune [2, 3, 19] rfl
   refine wl_end (then_n (iteB hF (fun hc3 hF => cd_t hf rfl hc3 ?_) fun hc3 hF => cd_f hf rfl hc3 ?_))
   ·refine sq (reg (pr 1 hf rfl rfl fun a hf => ?_))
    refine wl_end (then_n (wp_ret (then_r (?_))))
    obtain rfl := Option.some.inj hF
    refine ret_1 (fn := Try.f98) (r := .tmp 4) hf rfl (rv_tmp hf rfl) ?_
    exact ⟨_, rfl, H.bel, mk_bool⟩
   ·refine wp_skip (then_n (sq (sq (reg (pr 1 hf rfl rfl fun a hf => ?_)))))
    refine wl0 rfl (op_q hf (rq_loadB hf H TF.ls3 1 rfl rfl rfl) rfl (by decide) fun a hf => ?_)
    refine pr 1 hf rfl rfl fun a hf => ?_
    refine wl0 rfl (op_q hf (rq_loadB hf H TF.ls3 0 rfl rfl rfl) rfl (by decide) fun a hf => ?_)
    refine pr 1 hf rfl rfl fun a hf => ?_
    refine wl_end (then_n (iteB hF (fun hc4 hF => cd_t hf rfl hc4 ?_) fun hc4 hF => cd_f hf rfl hc4 ?_))
    ·refine sq (reg (pr 1 hf rfl rfl fun a hf => ?_))
     refine wl_end (then_n (wp_ret (then_r (?_))))
     obtain rfl := Option.some.inj hF
     refine ret_1 (fn := Try.f98) (r := .tmp 4) hf rfl (rv_tmp hf rfl) ?_
     exact ⟨_, rfl, H.bel, mk_bool⟩
    ·refine wp_skip (then_n (sq (reg (pr 1 hf rfl rfl fun a hf => ?_))))
     refine wl_end (then_n (wp_ret (?_)))
     obtain rfl := Option.some.inj hF
     refine ret_1 (fn := Try.f98) (r := .tmp 4) hf rfl (rv_tmp hf rfl) ?_
     exact ⟨_, rfl, H.bel, mk_bool⟩

/- loop.example/g00897/laws.eqFiberS -/
set_option maxHeartbeats 1000000 in
theorem laws_eqFiberS_ok {fu : Nat} {w0 : World} {S : Nat → Prop} {v0_ : Value} {v1_ : Value} {a' : List Fiber} {b' : List Fiber} {r : Bool} (h0 : VR w0 S v0_ a') (h1 : VR w0 S v1_ b') (hF : laws_eqFiberS fu a' b' = some r) :
    Calls Try.prog 55 [v0_, v1_].toArray w0 fun e w' => ∃ v, e = .returned v ∧ (Below w0.heap.size w0 w' ∧ VR w' (St ⟨w0, []⟩ S [] [] [] true) v r) := by
 obtain ⟨A, c, rfl, hl⟩ := VR_list h0
 obtain ⟨A2, c2, rfl, hl2⟩ := VR_list h1
 have H := Mem.start ⟨w0, []⟩ S
 have H := H.pushArg (MP.val [(.slice A a'.length c)] a') hl
 have H := H.pushArg (MP.val [(.slice A2 b'.length c2)] b') hl2
 refine enter Try.func55 rfl rfl (nle rfl) rfl fun a hf => ?_
 rw [laws_eqFiberS] at hF
 refine sq (reg (pr 1 hf rfl rfl fun a hf => ?_))
 refine wl_end (then_n (sq (sq (reg (pr 5 hf rfl rfl fun a hf => ?_)))))
 refine wl_end (then_n (iteB hF (fun hc hF => cd_t hf rfl hc ?_) fun hc hF => cd_f hf rfl hc ?_))
 ·refine sq (reg (pr 1 hf rfl rfl fun a hf => ?_))
  refine wl_end (then_n (wp_ret (then_r (?_))))
  obtain rfl := Option.some.inj hF
  refine ret_1 (fn := Try.f55) (r := .tmp 4) hf rfl (rv_tmp hf rfl) ?_
  exact ⟨_, rfl, H.bel, mk_bool⟩
 ·refine wp_skip (then_n (sq (sq (reg (pr 1 hf rfl rfl fun a hf => ?_)))))
  refine wl_end (then_n ?_)
  obtain ⟨out', hB1, hF⟩ := bind_some hF
  have hf := hf.prune [0, 1, 5] rfl
  have H := H.let [] [] [] [0, 1]
  refine loopC (fun (s : Int) (a : Act) (w : World) => match s with | i => Fr a 27 [(0, (.slice A a'.length c)), (1, (.slice A2 b'.length c2)), (5, (.int .i64 i))] ∧ Mem ⟨w0, []⟩ S [] [] [] [(false, MP.val [(.slice A2 b'.length c2)] (b' : List Fiber)), (false, MP.val [(.slice A a'.length c)] (a' : List Fiber))] w) (fun k (s : Int) => laws_eqFiberS_L1 fu a' b' k s = some out') (fun s => out' = Out.next s) 0 fu hB1 ⟨hf, H⟩ (fun s h => by cases h) ?_ ?_
  ·rintro fk i a w hR1 hI
   replace hR1 : laws_eqFiberS_L1 fu a' b' (fk + 1) i = some out' := hR1
   rw [laws_eqFiberS_L1] at hR1
   obtain ⟨hf, H⟩ := hI
   refine sq (sq (reg (pr 4 hf rfl rfl fun a hf => ?_)))
   refine wl_end (then_n (iteB hR1 (fun hc2 hR1 => cd_t hf rfl hc2 ?_) fun hc2 hR1 => cd_f hf rfl hc2 ?_))
   ·refine wp_skip (then_n (sq (wp_block (sq (drawn [] (bs := [false, false, false, false, false, false, false, false, false, false]) (fuel := 10) (Checked.mixed Try.checked) rfl rfl fun w hb => ?_)))))
    have H := H.keep hb
    refine tp 0 rfl rfl hf (by kernel_rfl) (fun _ => trivial) rfl fun a hf => ?_
    refine tp 1 rfl rfl hf (by kernel_rfl) (fun _ => trivial) rfl fun a hf => ?_
    obtain ⟨e, he, hR1⟩ := bind_some hR1
    obtain ⟨p, o, cs, hx, hr, H⟩ := pre_iaddr H Try.underlying30 TF.sz83 1 rfl he
    refine tP 2 rfl rfl rfl rfl hf (by kernel_rfl) (fun _ => trivial) (fun w => rq_iaddrE hf rfl rfl rfl hx w) fun a hf => ?_
    obtain rfl := Fiber_cells hr
    refine strT H (fun w H => trivial) fun hS => ?_
    refine tS 3 [] rfl rfl rfl rfl hf (by kernel_rfl) (by kernel_rfl) hS (fun w H => rq_loadIN hf H TF.la83 0 0 rfl rfl rfl rfl) fun a hf => ?_
    refine tp 4 rfl rfl hf (by kernel_rfl) (fun _ => hS) rfl fun a hf => ?_
    refine tp 5 rfl rfl hf (by kernel_rfl) (fun _ => hS) rfl fun a hf => ?_
    obtain ⟨e2, he2, hR1⟩ := bind_some hR1
    obtain ⟨p2, o2, cs2, hx2, hr2, H⟩ := pre_iaddr H Try.underlying30 TF.sz83 1 rfl he2
    refine tP 6 rfl rfl rfl rfl hf (by kernel_rfl) (fun _ => hS) (fun w => rq_iaddrE hf rfl rfl rfl hx2 w) fun a hf => ?_
    obtain rfl := Fiber_cells hr2
    refine strT H (fun w H => H.let [] [] [] [1, 2, 3]) fun hS => ?_
    refine tS 7 [] rfl rfl rfl rfl hf (by kernel_rfl) (by kernel_rfl) hS (fun w H => rq_loadIN hf H TF.la83 0 0 rfl rfl rfl rfl) fun a hf => ?_
    obtain ⟨y, hy, hR1⟩ := bind_some hR1
    refine n1 8 (by kernel_rfl) rfl rfl (op_call hf TF.cl98 rfl (by decide) (laws_eqFiber_ok (S := fun _ => True) Fiber_mkv Fiber_mkv hy) fun v w a hp hf => ?_)
    obtain ⟨hb, hp⟩ := hp
    obtain rfl := VR_bool hp
    have H := H.keep hb
    have hS := H
    refine ⟨fun _ => hS, ?_⟩
    refine tp 9 rfl rfl hf (by kernel_rfl) (fun _ => hS) rfl fun a hf => ?_
    refine dn (by kernel_rfl) ?_
    have hf := hf.prune [0, 1, 5, 26] rfl
    refine then_n (iteB hR1 (fun hc3 hR1 => cd_t hf rfl hc3 ?_) fun hc3 hR1 => cd_f hf rfl hc3 ?_)
    ·refine sq (reg (pr 1 hf rfl rfl fun a hf => ?_))
     refine wl_end (then_n (wp_ret (blk_r (then_r (then_r (blk_r (then_r (then_r (?_)))))))))
     obtain rfl := Option.some.inj hR1
     replace hF := on_ret hF
     obtain rfl := Option.some.inj hF
     refine ret_1 (fn := Try.f55) (r := .tmp 4) hf rfl (rv_tmp hf rfl) ?_
     exact ⟨_, rfl, H.bel, mk_bool⟩
    ·refine wp_skip (blk_n (then_n (reg (pr 3 hf rfl rfl fun a hf => ?_))))
     refine wl_end ?_
     have hf := hf.prune [0, 1, 5] rfl
     have H := H.let [] [] [] [2, 3]
     exact then_n ⟨w64 (i + 1), hR1, hf, H⟩
   ·refine wp_exit (then_x (then_x (blk_e (?_))))
    have hf := hf.prune [0, 1, 5] rfl
    have H := H.let [] [] [] [0, 1]
    exact ⟨i, (Option.some.inj hR1).symm, hf, H⟩
  rintro a w ⟨i2, rfl, hf, H⟩
  replace hF := on_next hF
  refine then_n (sq (reg (pr 1 hf rfl rfl fun a hf => ?_)))
  refine wl_end (then_n (wp_ret (?_)))
  obtain rfl := Option.some.inj hF
  refine ret_1 (fn := Try.f55) (r := .tmp 4) hf rfl (rv_tmp hf rfl) ?_
  exact ⟨_, rfl, H.bel, mk_bool⟩
end AT
