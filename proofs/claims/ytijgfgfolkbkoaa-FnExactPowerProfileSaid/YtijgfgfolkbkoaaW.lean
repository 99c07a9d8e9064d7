/- The Go functions do what is told of them, by program (gen.py). -/
import Derived.Test.YtijgfgfolkbkoaaW0
set_option linter.unusedVariables false
set_option linter.unusedSimpArgs false
set_option maxRecDepth 100000
namespace AT
open Go Go.RowKit Go.Proofs

/- loop.example/g00897/laws.markSpanS -/
set_option maxHeartbeats 1000000 in
theorem laws_markSpanS_ok {fu : Nat} {w0 : World} {S : Nat → Prop} {F : List Nat} {cs : List Value} {v1_ : Value} {a' : List Span} {k' : Int} {r : Int × List Span} (hO : GoTy.own w0 F cs a') (hn : F.Nodup) (h1 : VR w0 S v1_ k') (hF : laws_markSpanS fu a' k' = some r) :
    Calls Try.prog 86 [(bif GoTy.agg (List Span) then .agg cs.toArray else cs.headD undef), v1_].toArray w0 fun e w' => ∃ v, e = .returned v ∧ (Chg w0 w' F ∧ VR w' (fun _ => True) v r.1 ∧ ∃ F', GoTy.own w' F' cs r.2 ∧ Back w0 w' F F') := by
  obtain rfl := VR_int h1
  obtain ⟨A, c, rfl, hO⟩ := own_list hO
  have H := Mem.startG S hO hn
  obtain ⟨Fs, E, H, -⟩ := H.thaw rfl
  have H := H.rowSh 0 rfl
  refine enter Try.func86 rfl rfl (nle rfl) rfl fun a hf => ?_
  rw [laws_markSpanS] at hF
  refine sq ?_
  refine reg ?_
  refine pRun_ok (tb := tab) (n := 34) tabOk 1 _ _ hf rfl rfl fun a hf => ?_
  refine wl_end ?_
  refine then_n ?_
  refine sq ?_
  refine sq ?_
  refine reg ?_
  refine pRun_ok (tb := tab) (n := 34) tabOk 1 _ _ hf rfl rfl fun a hf => ?_
  refine wl_end ?_
  refine then_n ?_
  obtain ⟨out', hB1, hF⟩ := bind_some hF
  have hf := hf.prune [0, 1, 5] rfl
  have hf : Fr a 34 [(0, (.slice A a'.length c)), (1, (.int .i64 k')), (5, (.int .i64 0))] := by first | exact hf | (simp only [List.length_set] at hf; exact hf)
  have H := H.let [] [true] [] []
  have hI : (fun (s : List Span × Int × Int) (a : Act) (w : World) => match s with | (a2, k2, i) => a2.length = a'.length ∧ Fr a 34 [(0, (.slice A a'.length c)), (1, (.int .i64 k2)), (5, (.int .i64 i))] ∧ Mem ⟨w0, F⟩ S [] [⟨.sh true, E, A, c, (a2 : List Span)⟩] [] [] w) (a', k', 0) a w0 := ⟨rfl, hf, H⟩
  refine mid (fun a w => ∃ s : List Span × Int × Int, out' = s ∧ (fun (s : List Span × Int × Int) (a : Act) (w : World) => match s with | (a2, k2, i) => a2.length = a'.length ∧ Fr a 34 [(0, (.slice A a'.length c)), (1, (.int .i64 k2)), (5, (.int .i64 i))] ∧ Mem ⟨w0, F⟩ S [] [⟨.sh true, E, A, c, (a2 : List Span)⟩] [] [] w) s a w) ?_ ?_
  · refine wp_block ?_
    refine loop_rule (fun k (s : List Span × Int × Int) => laws_markSpanS_L1 fu k s.1 s.2.1 s.2.2 = some out') (fun (s : List Span × Int × Int) (a : Act) (w : World) => match s with | (a2, k2, i) => a2.length = a'.length ∧ Fr a 34 [(0, (.slice A a'.length c)), (1, (.int .i64 k2)), (5, (.int .i64 i))] ∧ Mem ⟨w0, F⟩ S [] [⟨.sh true, E, A, c, (a2 : List Span)⟩] [] [] w) (fun s h => by cases h) ?_ fu (a', k', 0) a w0 hB1 hI
    rintro fk ⟨a2, k2, i⟩ a w hR1 hI
    replace hR1 : laws_markSpanS_L1 fu (fk + 1) a2 k2 i = some out' := hR1
    rw [laws_markSpanS_L1] at hR1
    obtain ⟨hlen, hf, H⟩ := hI
    have hf : Fr a 34 [(0, (.slice A a2.length c)), (1, (.int .i64 k2)), (5, (.int .i64 i))] := by rw [hlen]; exact hf
    refine sq ?_
    refine sq ?_
    refine reg ?_
    refine pRun_ok (tb := tab) (n := 34) tabOk 4 _ _ hf rfl rfl fun a hf => ?_
    refine wl_end ?_
    refine then_n ?_
    refine (Bool.eq_false_or_eq_true (decide (i < (a2.length : Int)))).elim (fun hc => ?_) (fun hc => ?_)
    · rw [if_pos hc] at hR1
      refine cd_t hf rfl hc ?_
      refine wp_skip ?_
      refine then_n ?_
      refine sq ?_
      refine wp_block ?_
      refine sq ?_
      refine reg ?_
      refine pRun_ok (tb := tab) (n := 34) tabOk 3 _ _ hf rfl rfl fun a hf => ?_
      obtain ⟨e, he, hR1⟩ := bind_some hR1
      refine wl0 rfl (op_iaddrR hf H Try.underlying96 TF.sz28 0 rfl rfl rfl he (by decide) fun p o cs a hf hA hr hk => ?_)
      obtain rfl := Span_cells hr
      refine pRun_ok (tb := tab) (n := 34) tabOk 1 _ _ hf rfl rfl fun a hf => ?_
      refine wl0 rfl (op_storeR (e' := ({ Length := k2, Loss := e.Loss, Splices := e.Splices } : Span)) hf H TF.sz3 0 rfl rfl rfl rfl rfl (nle rfl) rfl hA he (fun cs h => by obtain rfl := Span_cells h; exact Span_mk (x := ({ Length := k2, Loss := e.Loss, Splices := e.Splices } : Span))) fun w H => ?_)
      replace hf : Fr a 34 [(0, (.slice A a2.length c)), (1, (.int .i64 k2)), (5, (.int .i64 i)), (6, (.int .i64 i)), (7, (.slice A a2.length c)), (8, (.int .i64 (a2.length : Int))), (9, (.bool (decide (i < (a2.length : Int))))), (12, (.slice A a2.length c)), (13, (.int .i64 i)), (14, (.int .i64 k2)), (15, (.pointer (some ⟨p, o + 0, none⟩))), (16, (.pointer (some ⟨p, o + 0, none⟩)))] := hf.prune [0, 1, 5, 6, 7, 8, 9, 12, 13, 14, 15, 16] rfl
      replace hf : Fr a 34 [(0, (.slice A (a2.set (i).toNat ({ Length := k2, Loss := e.Loss, Splices := e.Splices } : Span)).length c)), (1, (.int .i64 k2)), (5, (.int .i64 i)), (6, (.int .i64 i)), (7, (.slice A (a2.set (i).toNat ({ Length := k2, Loss := e.Loss, Splices := e.Splices } : Span)).length c)), (8, (.int .i64 (a2.length : Int))), (9, (.bool (decide (i < (a2.length : Int))))), (12, (.slice A (a2.set (i).toNat ({ Length := k2, Loss := e.Loss, Splices := e.Splices } : Span)).length c)), (13, (.int .i64 i)), (14, (.int .i64 k2)), (15, (.pointer (some ⟨p, o + 0, none⟩))), (16, (.pointer (some ⟨p, o + 0, none⟩)))] := by simpa only [List.length_set, Nat.add_zero] using hf
      refine wl_end ?_
      refine then_n ?_
      refine sq ?_
      refine reg ?_
      refine pRun_ok (tb := tab) (n := 34) tabOk 3 _ _ hf rfl rfl fun a hf => ?_
      refine wl_end ?_
      refine then_n ?_
      refine sq ?_
      refine reg ?_
      refine pRun_ok (tb := tab) (n := 34) tabOk 3 _ _ hf rfl rfl fun a hf => ?_
      obtain ⟨e2, he2, hR1⟩ := bind_some hR1
      refine wl0 rfl (op_iaddrR hf H Try.underlying96 TF.sz28 0 rfl rfl rfl he2 (by decide) fun p2 o2 cs2 a hf hA2 hr2 hk2 => ?_)
      obtain rfl := Span_cells hr2
      refine pRun_ok (tb := tab) (n := 34) tabOk 1 _ _ hf rfl rfl fun a hf => ?_
      refine wl0 rfl (op_storeR (e' := ({ Length := e2.Length, Loss := w64 (k2 + 1), Splices := e2.Splices } : Span)) hf H TF.sz3 0 rfl rfl rfl rfl rfl (nle rfl) rfl hA2 he2 (fun cs h => by obtain rfl := Span_cells h; exact Span_mk (x := ({ Length := e2.Length, Loss := w64 (k2 + 1), Splices := e2.Splices } : Span))) fun w H => ?_)
      replace hf : Fr a 34 [(0, (.slice A (a2.set (i).toNat ({ Length := k2, Loss := e.Loss, Splices := e.Splices } : Span)).length c)), (1, (.int .i64 (w64 (k2 + 1)))), (5, (.int .i64 i)), (6, (.int .i64 i)), (7, (.slice A (a2.set (i).toNat ({ Length := k2, Loss := e.Loss, Splices := e.Splices } : Span)).length c)), (8, (.int .i64 (a2.length : Int))), (9, (.bool (decide (i < (a2.length : Int))))), (12, (.slice A (a2.set (i).toNat ({ Length := k2, Loss := e.Loss, Splices := e.Splices } : Span)).length c)), (13, (.int .i64 i)), (14, (.int .i64 k2)), (15, (.pointer (some ⟨p, o + 0, none⟩))), (16, (.pointer (some ⟨p, o + 0, none⟩))), (17, (.int .i64 k2)), (18, (.int .i64 (w64 (k2 + 1)))), (19, (.slice A (a2.set (i).toNat ({ Length := k2, Loss := e.Loss, Splices := e.Splices } : Span)).length c)), (20, (.int .i64 i)), (21, (.int .i64 (w64 (k2 + 1)))), (22, (.pointer (some ⟨p2, o2 + 0, none⟩))), (23, (.pointer (some ⟨p2, o2 + 1, none⟩)))] := hf.prune [0, 1, 5, 6, 7, 8, 9, 12, 13, 14, 15, 16, 17, 18, 19, 20, 21, 22, 23] rfl
      replace hf : Fr a 34 [(0, (.slice A ((a2.set (i).toNat ({ Length := k2, Loss := e.Loss, Splices := e.Splices } : Span)).set (i).toNat ({ Length := e2.Length, Loss := w64 (k2 + 1), Splices := e2.Splices } : Span)).length c)), (1, (.int .i64 (w64 (k2 + 1)))), (5, (.int .i64 i)), (6, (.int .i64 i)), (7, (.slice A ((a2.set (i).toNat ({ Length := k2, Loss := e.Loss, Splices := e.Splices } : Span)).set (i).toNat ({ Length := e2.Length, Loss := w64 (k2 + 1), Splices := e2.Splices } : Span)).length c)), (8, (.int .i64 (a2.length : Int))), (9, (.bool (decide (i < (a2.length : Int))))), (12, (.slice A ((a2.set (i).toNat ({ Length := k2, Loss := e.Loss, Splices := e.Splices } : Span)).set (i).toNat ({ Length := e2.Length, Loss := w64 (k2 + 1), Splices := e2.Splices } : Span)).length c)), (13, (.int .i64 i)), (14, (.int .i64 k2)), (15, (.pointer (some ⟨p, o + 0, none⟩))), (16, (.pointer (some ⟨p, o + 0, none⟩))), (17, (.int .i64 k2)), (18, (.int .i64 (w64 (k2 + 1)))), (19, (.slice A ((a2.set (i).toNat ({ Length := k2, Loss := e.Loss, Splices := e.Splices } : Span)).set (i).toNat ({ Length := e2.Length, Loss := w64 (k2 + 1), Splices := e2.Splices } : Span)).length c)), (20, (.int .i64 i)), (21, (.int .i64 (w64 (k2 + 1)))), (22, (.pointer (some ⟨p2, o2 + 0, none⟩))), (23, (.pointer (some ⟨p2, o2 + 1, none⟩)))] := by simpa only [List.length_set, Nat.add_zero] using hf
      have hf := hf.prune [0, 1, 5] rfl
      refine wl_end ?_
      refine then_n ?_
      refine sq ?_
      refine reg ?_
      refine pRun_ok (tb := tab) (n := 34) tabOk 3 _ _ hf rfl rfl fun a hf => ?_
      refine wl_end ?_
      refine then_n ?_
      refine sq ?_
      refine reg ?_
      refine pRun_ok (tb := tab) (n := 34) tabOk 3 _ _ hf rfl rfl fun a hf => ?_
      obtain ⟨e3, he3, hR1⟩ := bind_some hR1
      refine wl0 rfl (op_iaddrR hf H Try.underlying96 TF.sz28 0 rfl rfl rfl he3 (by decide) fun p3 o3 cs3 a hf hA3 hr3 hk3 => ?_)
      obtain rfl := Span_cells hr3
      refine pRun_ok (tb := tab) (n := 34) tabOk 1 _ _ hf rfl rfl fun a hf => ?_
      refine wl0 rfl (op_storeR (e' := ({ Length := e3.Length, Loss := e3.Loss, Splices := w64 ((w64 (k2 + 1)) + 1) } : Span)) hf H TF.sz3 0 rfl rfl rfl rfl rfl (nle rfl) rfl hA3 he3 (fun cs h => by obtain rfl := Span_cells h; exact Span_mk (x := ({ Length := e3.Length, Loss := e3.Loss, Splices := w64 ((w64 (k2 + 1)) + 1) } : Span))) fun w H => ?_)
      replace hf : Fr a 34 [(0, (.slice A ((a2.set (i).toNat ({ Length := k2, Loss := e.Loss, Splices := e.Splices } : Span)).set (i).toNat ({ Length := e2.Length, Loss := w64 (k2 + 1), Splices := e2.Splices } : Span)).length c)), (1, (.int .i64 (w64 ((w64 (k2 + 1)) + 1)))), (5, (.int .i64 i)), (24, (.int .i64 (w64 (k2 + 1)))), (25, (.int .i64 (w64 ((w64 (k2 + 1)) + 1)))), (26, (.slice A ((a2.set (i).toNat ({ Length := k2, Loss := e.Loss, Splices := e.Splices } : Span)).set (i).toNat ({ Length := e2.Length, Loss := w64 (k2 + 1), Splices := e2.Splices } : Span)).length c)), (27, (.int .i64 i)), (28, (.int .i64 (w64 ((w64 (k2 + 1)) + 1)))), (29, (.pointer (some ⟨p3, o3 + 0, none⟩))), (30, (.pointer (some ⟨p3, o3 + 2, none⟩)))] := hf.prune [0, 1, 5, 24, 25, 26, 27, 28, 29, 30] rfl
      replace hf : Fr a 34 [(0, (.slice A (((a2.set (i).toNat ({ Length := k2, Loss := e.Loss, Splices := e.Splices } : Span)).set (i).toNat ({ Length := e2.Length, Loss := w64 (k2 + 1), Splices := e2.Splices } : Span)).set (i).toNat ({ Length := e3.Length, Loss := e3.Loss, Splices := w64 ((w64 (k2 + 1)) + 1) } : Span)).length c)), (1, (.int .i64 (w64 ((w64 (k2 + 1)) + 1)))), (5, (.int .i64 i)), (24, (.int .i64 (w64 (k2 + 1)))), (25, (.int .i64 (w64 ((w64 (k2 + 1)) + 1)))), (26, (.slice A (((a2.set (i).toNat ({ Length := k2, Loss := e.Loss, Splices := e.Splices } : Span)).set (i).toNat ({ Length := e2.Length, Loss := w64 (k2 + 1), Splices := e2.Splices } : Span)).set (i).toNat ({ Length := e3.Length, Loss := e3.Loss, Splices := w64 ((w64 (k2 + 1)) + 1) } : Span)).length c)), (27, (.int .i64 i)), (28, (.int .i64 (w64 ((w64 (k2 + 1)) + 1)))), (29, (.pointer (some ⟨p3, o3 + 0, none⟩))), (30, (.pointer (some ⟨p3, o3 + 2, none⟩)))] := by simpa only [List.length_set, Nat.add_zero] using hf
      refine wl_end ?_
      refine then_n ?_
      refine reg ?_
      refine pRun_ok (tb := tab) (n := 34) tabOk 3 _ _ hf rfl rfl fun a hf => ?_
      refine wl_end ?_
      refine blk_n ?_
      refine then_n ?_
      refine reg ?_
      refine pRun_ok (tb := tab) (n := 34) tabOk 3 _ _ hf rfl rfl fun a hf => ?_
      refine wl_end ?_
      have hf := hf.prune [0, 1, 5] rfl
      have hf : Fr a 34 [(0, (.slice A a'.length c)), (1, (.int .i64 (w64 ((w64 ((w64 (k2 + 1)) + 1)) + 1)))), (5, (.int .i64 (w64 (i + 1))))] := by first | exact hf | (simp only [List.length_set, hlen] at hf; exact hf)
      have H := H.let [] [true] [] []
      exact then_n ⟨(((a2.set (i).toNat ({ Length := k2, Loss := e.Loss, Splices := e.Splices } : Span)).set (i).toNat ({ Length := e2.Length, Loss := w64 (k2 + 1), Splices := e2.Splices } : Span)).set (i).toNat ({ Length := e3.Length, Loss := e3.Loss, Splices := w64 ((w64 (k2 + 1)) + 1) } : Span), w64 ((w64 ((w64 (k2 + 1)) + 1)) + 1), w64 (i + 1)), hR1, (by simp only [List.length_set, hlen]), hf, H⟩
    · rw [if_neg (nt hc)] at hR1
      refine cd_f hf rfl hc ?_
      refine wp_exit (then_x (then_x (blk_e (?_))))
      have hf := hf.prune [0, 1, 5] rfl
      have hf : Fr a 34 [(0, (.slice A a'.length c)), (1, (.int .i64 k2)), (5, (.int .i64 i))] := by first | exact hf | (simp only [List.length_set, hlen] at hf; exact hf)
      have H := H.let [] [true] [] []
      exact ⟨(a2, k2, i), (Option.some.inj hR1).symm, (by simp only [List.length_set, hlen]), hf, H⟩
  rintro a w ⟨⟨a3, k3, i2⟩, rfl, hlen, hf, H⟩
  try dsimp only at hlen
  have hf : Fr a 34 [(0, (.slice A a3.length c)), (1, (.int .i64 k3)), (5, (.int .i64 i2))] := by rw [hlen]; exact hf
  dsimp only at hF
  refine then_n ?_
  refine sq ?_
  refine reg ?_
  refine pRun_ok (tb := tab) (n := 34) tabOk 2 _ _ hf rfl rfl fun a hf => ?_
  refine wl_end ?_
  refine then_n ?_
  refine wp_ret (?_)
  have H := H.rowOwn 0 rfl rfl
  obtain ⟨F', H⟩ := H.freezeOwn 0 rfl
  rw [hlen] at H
  obtain rfl := Option.some.inj hF
  refine ret_1 (fn := Try.f86) (r := .tmp 4) hf rfl (rv_tmp hf rfl) ?_
  exact ⟨_, rfl, H.chg, mk_int, _, H.ownAt 0 rfl, H.back⟩

/- loop.example/g00897/laws.markAmplifierS -/
set_option maxHeartbeats 1000000 in
theorem laws_markAmplifierS_ok {fu : Nat} {w0 : World} {S : Nat → Prop} {F : List Nat} {cs : List Value} {v1_ : Value} {a' : List Amplifier} {k' : Int} {r : Int × List Amplifier} (hO : GoTy.own w0 F cs a') (hn : F.Nodup) (h1 : VR w0 S v1_ k') (hF : laws_markAmplifierS fu a' k' = some r) :
    Calls Try.prog 87 [(bif GoTy.agg (List Amplifier) then .agg cs.toArray else cs.headD undef), v1_].toArray w0 fun e w' => ∃ v, e = .returned v ∧ (Chg w0 w' F ∧ VR w' (fun _ => True) v r.1 ∧ ∃ F', GoTy.own w' F' cs r.2 ∧ Back w0 w' F F') := by
  obtain rfl := VR_int h1
  obtain ⟨A, c, rfl, hO⟩ := own_list hO
  have H := Mem.startG S hO hn
  obtain ⟨Fs, E, H, -⟩ := H.thaw rfl
  have H := H.rowSh 0 rfl
  refine enter Try.func87 rfl rfl (nle rfl) rfl fun a hf => ?_
  rw [laws_markAmplifierS] at hF
  refine sq ?_
  refine reg ?_
  refine pRun_ok (tb := tab) (n := 41) tabOk 1 _ _ hf rfl rfl fun a hf => ?_
  refine wl_end ?_
  refine then_n ?_
  refine sq ?_
  refine sq ?_
  refine reg ?_
  refine pRun_ok (tb := tab) (n := 41) tabOk 1 _ _ hf rfl rfl fun a hf => ?_
  refine wl_end ?_
  refine then_n ?_
  obtain ⟨out', hB1, hF⟩ := bind_some hF
  have hf := hf.prune [0, 1, 5] rfl
  have hf : Fr a 41 [(0, (.slice A a'.length c)), (1, (.int .i64 k')), (5, (.int .i64 0))] := by first | exact hf | (simp only [List.length_set] at hf; exact hf)
  have H := H.let [] [true] [] []
  have hI : (fun (s : List Amplifier × Int × Int) (a : Act) (w : World) => match s with | (a2, k2, i) => a2.length = a'.length ∧ Fr a 41 [(0, (.slice A a'.length c)), (1, (.int .i64 k2)), (5, (.int .i64 i))] ∧ Mem ⟨w0, F⟩ S [] [⟨.sh true, E, A, c, (a2 : List Amplifier)⟩] [] [] w) (a', k', 0) a w0 := ⟨rfl, hf, H⟩
  refine mid (fun a w => ∃ s : List Amplifier × Int × Int, out' = s ∧ (fun (s : List Amplifier × Int × Int) (a : Act) (w : World) => match s with | (a2, k2, i) => a2.length = a'.length ∧ Fr a 41 [(0, (.slice A a'.length c)), (1, (.int .i64 k2)), (5, (.int .i64 i))] ∧ Mem ⟨w0, F⟩ S [] [⟨.sh true, E, A, c, (a2 : List Amplifier)⟩] [] [] w) s a w) ?_ ?_
  · refine wp_block ?_
    refine loop_rule (fun k (s : List Amplifier × Int × Int) => laws_markAmplifierS_L1 fu k s.1 s.2.1 s.2.2 = some out') (fun (s : List Amplifier × Int × Int) (a : Act) (w : World) => match s with | (a2, k2, i) => a2.length = a'.length ∧ Fr a 41 [(0, (.slice A a'.length c)), (1, (.int .i64 k2)), (5, (.int .i64 i))] ∧ Mem ⟨w0, F⟩ S [] [⟨.sh true, E, A, c, (a2 : List Amplifier)⟩] [] [] w) (fun s h => by cases h) ?_ fu (a', k', 0) a w0 hB1 hI
    rintro fk ⟨a2, k2, i⟩ a w hR1 hI
    replace hR1 : laws_markAmplifierS_L1 fu (fk + 1) a2 k2 i = some out' := hR1
    rw [laws_markAmplifierS_L1] at hR1
    obtain ⟨hlen, hf, H⟩ := hI
    have hf : Fr a 41 [(0, (.slice A a2.length c)), (1, (.int .i64 k2)), (5, (.int .i64 i))] := by rw [hlen]; exact hf
    refine sq ?_
    refine sq ?_
    refine reg ?_
    refine pRun_ok (tb := tab) (n := 41) tabOk 4 _ _ hf rfl rfl fun a hf => ?_
    refine wl_end ?_
    refine then_n ?_
    refine (Bool.eq_false_or_eq_true (decide (i < (a2.length : Int)))).elim (fun hc => ?_) (fun hc => ?_)
    · rw [if_pos hc] at hR1
      refine cd_t hf rfl hc ?_
      refine wp_skip ?_
      refine then_n ?_
      refine sq ?_
      refine wp_block ?_
      refine sq ?_
      refine reg ?_
      refine pRun_ok (tb := tab) (n := 41) tabOk 3 _ _ hf rfl rfl fun a hf => ?_
      obtain ⟨e, he, hR1⟩ := bind_some hR1
      refine wl0 rfl (op_iaddrR hf H Try.underlying63 TF.sz88 0 rfl rfl rfl he (by decide) fun p o cs a hf hA hr hk => ?_)
      obtain rfl := Amplifier_cells hr
      refine pRun_ok (tb := tab) (n := 41) tabOk 1 _ _ hf rfl rfl fun a hf => ?_
      refine wl0 rfl (op_storeR (e' := ({ After := k2, Gain := e.Gain, Output := e.Output, Noise := e.Noise } : Amplifier)) hf H TF.sz3 0 rfl rfl rfl rfl rfl (nle rfl) rfl hA he (fun cs h => by obtain rfl := Amplifier_cells h; exact Amplifier_mk (x := ({ After := k2, Gain := e.Gain, Output := e.Output, Noise := e.Noise } : Amplifier))) fun w H => ?_)
      replace hf : Fr a 41 [(0, (.slice A a2.length c)), (1, (.int .i64 k2)), (5, (.int .i64 i)), (6, (.int .i64 i)), (7, (.slice A a2.length c)), (8, (.int .i64 (a2.length : Int))), (9, (.bool (decide (i < (a2.length : Int))))), (12, (.slice A a2.length c)), (13, (.int .i64 i)), (14, (.int .i64 k2)), (15, (.pointer (some ⟨p, o + 0, none⟩))), (16, (.pointer (some ⟨p, o + 0, none⟩)))] := hf.prune [0, 1, 5, 6, 7, 8, 9, 12, 13, 14, 15, 16] rfl
      replace hf : Fr a 41 [(0, (.slice A (a2.set (i).toNat ({ After := k2, Gain := e.Gain, Output := e.Output, Noise := e.Noise } : Amplifier)).length c)), (1, (.int .i64 k2)), (5, (.int .i64 i)), (6, (.int .i64 i)), (7, (.slice A (a2.set (i).toNat ({ After := k2, Gain := e.Gain, Output := e.Output, Noise := e.Noise } : Amplifier)).length c)), (8, (.int .i64 (a2.length : Int))), (9, (.bool (decide (i < (a2.length : Int))))), (12, (.slice A (a2.set (i).toNat ({ After := k2, Gain := e.Gain, Output := e.Output, Noise := e.Noise } : Amplifier)).length c)), (13, (.int .i64 i)), (14, (.int .i64 k2)), (15, (.pointer (some ⟨p, o + 0, none⟩))), (16, (.pointer (some ⟨p, o + 0, none⟩)))] := by simpa only [List.length_set, Nat.add_zero] using hf
      refine wl_end ?_
      refine then_n ?_
      refine sq ?_
      refine reg ?_
      refine pRun_ok (tb := tab) (n := 41) tabOk 3 _ _ hf rfl rfl fun a hf => ?_
      refine wl_end ?_
      refine then_n ?_
      refine sq ?_
      refine reg ?_
      refine pRun_ok (tb := tab) (n := 41) tabOk 3 _ _ hf rfl rfl fun a hf => ?_
      obtain ⟨e2, he2, hR1⟩ := bind_some hR1
      refine wl0 rfl (op_iaddrR hf H Try.underlying63 TF.sz88 0 rfl rfl rfl he2 (by decide) fun p2 o2 cs2 a hf hA2 hr2 hk2 => ?_)
      obtain rfl := Amplifier_cells hr2
      refine pRun_ok (tb := tab) (n := 41) tabOk 1 _ _ hf rfl rfl fun a hf => ?_
      refine wl0 rfl (op_storeR (e' := ({ After := e2.After, Gain := w64 (k2 + 1), Output := e2.Output, Noise := e2.Noise } : Amplifier)) hf H TF.sz3 0 rfl rfl rfl rfl rfl (nle rfl) rfl hA2 he2 (fun cs h => by obtain rfl := Amplifier_cells h; exact Amplifier_mk (x := ({ After := e2.After, Gain := w64 (k2 + 1), Output := e2.Output, Noise := e2.Noise } : Amplifier))) fun w H => ?_)
      replace hf : Fr a 41 [(0, (.slice A (a2.set (i).toNat ({ After := k2, Gain := e.Gain, Output := e.Output, Noise := e.Noise } : Amplifier)).length c)), (1, (.int .i64 (w64 (k2 + 1)))), (5, (.int .i64 i)), (6, (.int .i64 i)), (7, (.slice A (a2.set (i).toNat ({ After := k2, Gain := e.Gain, Output := e.Output, Noise := e.Noise } : Amplifier)).length c)), (8, (.int .i64 (a2.length : Int))), (9, (.bool (decide (i < (a2.length : Int))))), (12, (.slice A (a2.set (i).toNat ({ After := k2, Gain := e.Gain, Output := e.Output, Noise := e.Noise } : Amplifier)).length c)), (13, (.int .i64 i)), (14, (.int .i64 k2)), (15, (.pointer (some ⟨p, o + 0, none⟩))), (16, (.pointer (some ⟨p, o + 0, none⟩))), (17, (.int .i64 k2)), (18, (.int .i64 (w64 (k2 + 1)))), (19, (.slice A (a2.set (i).toNat ({ After := k2, Gain := e.Gain, Output := e.Output, Noise := e.Noise } : Amplifier)).length c)), (20, (.int .i64 i)), (21, (.int .i64 (w64 (k2 + 1)))), (22, (.pointer (some ⟨p2, o2 + 0, none⟩))), (23, (.pointer (some ⟨p2, o2 + 1, none⟩)))] := hf.prune [0, 1, 5, 6, 7, 8, 9, 12, 13, 14, 15, 16, 17, 18, 19, 20, 21, 22, 23] rfl
      replace hf : Fr a 41 [(0, (.slice A ((a2.set (i).toNat ({ After := k2, Gain := e.Gain, Output := e.Output, Noise := e.Noise } : Amplifier)).set (i).toNat ({ After := e2.After, Gain := w64 (k2 + 1), Output := e2.Output, Noise := e2.Noise } : Amplifier)).length c)), (1, (.int .i64 (w64 (k2 + 1)))), (5, (.int .i64 i)), (6, (.int .i64 i)), (7, (.slice A ((a2.set (i).toNat ({ After := k2, Gain := e.Gain, Output := e.Output, Noise := e.Noise } : Amplifier)).set (i).toNat ({ After := e2.After, Gain := w64 (k2 + 1), Output := e2.Output, Noise := e2.Noise } : Amplifier)).length c)), (8, (.int .i64 (a2.length : Int))), (9, (.bool (decide (i < (a2.length : Int))))), (12, (.slice A ((a2.set (i).toNat ({ After := k2, Gain := e.Gain, Output := e.Output, Noise := e.Noise } : Amplifier)).set (i).toNat ({ After := e2.After, Gain := w64 (k2 + 1), Output := e2.Output, Noise := e2.Noise } : Amplifier)).length c)), (13, (.int .i64 i)), (14, (.int .i64 k2)), (15, (.pointer (some ⟨p, o + 0, none⟩))), (16, (.pointer (some ⟨p, o + 0, none⟩))), (17, (.int .i64 k2)), (18, (.int .i64 (w64 (k2 + 1)))), (19, (.slice A ((a2.set (i).toNat ({ After := k2, Gain := e.Gain, Output := e.Output, Noise := e.Noise } : Amplifier)).set (i).toNat ({ After := e2.After, Gain := w64 (k2 + 1), Output := e2.Output, Noise := e2.Noise } : Amplifier)).length c)), (20, (.int .i64 i)), (21, (.int .i64 (w64 (k2 + 1)))), (22, (.pointer (some ⟨p2, o2 + 0, none⟩))), (23, (.pointer (some ⟨p2, o2 + 1, none⟩)))] := by simpa only [List.length_set, Nat.add_zero] using hf
      have hf := hf.prune [0, 1, 5] rfl
      refine wl_end ?_
      refine then_n ?_
      refine sq ?_
      refine reg ?_
      refine pRun_ok (tb := tab) (n := 41) tabOk 3 _ _ hf rfl rfl fun a hf => ?_
      refine wl_end ?_
      refine then_n ?_
      refine sq ?_
      refine reg ?_
      refine pRun_ok (tb := tab) (n := 41) tabOk 3 _ _ hf rfl rfl fun a hf => ?_
      obtain ⟨e3, he3, hR1⟩ := bind_some hR1
      refine wl0 rfl (op_iaddrR hf H Try.underlying63 TF.sz88 0 rfl rfl rfl he3 (by decide) fun p3 o3 cs3 a hf hA3 hr3 hk3 => ?_)
      obtain rfl := Amplifier_cells hr3
      refine pRun_ok (tb := tab) (n := 41) tabOk 1 _ _ hf rfl rfl fun a hf => ?_
      refine wl0 rfl (op_storeR (e' := ({ After := e3.After, Gain := e3.Gain, Output := w64 ((w64 (k2 + 1)) + 1), Noise := e3.Noise } : Amplifier)) hf H TF.sz3 0 rfl rfl rfl rfl rfl (nle rfl) rfl hA3 he3 (fun cs h => by obtain rfl := Amplifier_cells h; exact Amplifier_mk (x := ({ After := e3.After, Gain := e3.Gain, Output := w64 ((w64 (k2 + 1)) + 1), Noise := e3.Noise } : Amplifier))) fun w H => ?_)
      replace hf : Fr a 41 [(0, (.slice A ((a2.set (i).toNat ({ After := k2, Gain := e.Gain, Output := e.Output, Noise := e.Noise } : Amplifier)).set (i).toNat ({ After := e2.After, Gain := w64 (k2 + 1), Output := e2.Output, Noise := e2.Noise } : Amplifier)).length c)), (1, (.int .i64 (w64 ((w64 (k2 + 1)) + 1)))), (5, (.int .i64 i)), (24, (.int .i64 (w64 (k2 + 1)))), (25, (.int .i64 (w64 ((w64 (k2 + 1)) + 1)))), (26, (.slice A ((a2.set (i).toNat ({ After := k2, Gain := e.Gain, Output := e.Output, Noise := e.Noise } : Amplifier)).set (i).toNat ({ After := e2.After, Gain := w64 (k2 + 1), Output := e2.Output, Noise := e2.Noise } : Amplifier)).length c)), (27, (.int .i64 i)), (28, (.int .i64 (w64 ((w64 (k2 + 1)) + 1)))), (29, (.pointer (some ⟨p3, o3 + 0, none⟩))), (30, (.pointer (some ⟨p3, o3 + 2, none⟩)))] := hf.prune [0, 1, 5, 24, 25, 26, 27, 28, 29, 30] rfl
      replace hf : Fr a 41 [(0, (.slice A (((a2.set (i).toNat ({ After := k2, Gain := e.Gain, Output := e.Output, Noise := e.Noise } : Amplifier)).set (i).toNat ({ After := e2.After, Gain := w64 (k2 + 1), Output := e2.Output, Noise := e2.Noise } : Amplifier)).set (i).toNat ({ After := e3.After, Gain := e3.Gain, Output := w64 ((w64 (k2 + 1)) + 1), Noise := e3.Noise } : Amplifier)).length c)), (1, (.int .i64 (w64 ((w64 (k2 + 1)) + 1)))), (5, (.int .i64 i)), (24, (.int .i64 (w64 (k2 + 1)))), (25, (.int .i64 (w64 ((w64 (k2 + 1)) + 1)))), (26, (.slice A (((a2.set (i).toNat ({ After := k2, Gain := e.Gain, Output := e.Output, Noise := e.Noise } : Amplifier)).set (i).toNat ({ After := e2.After, Gain := w64 (k2 + 1), Output := e2.Output, Noise := e2.Noise } : Amplifier)).set (i).toNat ({ After := e3.After, Gain := e3.Gain, Output := w64 ((w64 (k2 + 1)) + 1), Noise := e3.Noise } : Amplifier)).length c)), (27, (.int .i64 i)), (28, (.int .i64 (w64 ((w64 (k2 + 1)) + 1)))), (29, (.pointer (some ⟨p3, o3 + 0, none⟩))), (30, (.pointer (some ⟨p3, o3 + 2, none⟩)))] := by simpa only [List.length_set, Nat.add_zero] using hf
      refine wl_end ?_
      refine then_n ?_
      refine sq ?_
      refine reg ?_
      refine pRun_ok (tb := tab) (n := 41) tabOk 3 _ _ hf rfl rfl fun a hf => ?_
      refine wl_end ?_
      refine then_n ?_
      refine sq ?_
      refine reg ?_
      refine pRun_ok (tb := tab) (n := 41) tabOk 3 _ _ hf rfl rfl fun a hf => ?_
      obtain ⟨e4, he4, hR1⟩ := bind_some hR1
      refine wl0 rfl (op_iaddrR hf H Try.underlying63 TF.sz88 0 rfl rfl rfl he4 (by decide) fun p4 o4 cs4 a hf hA4 hr4 hk4 => ?_)
      obtain rfl := Amplifier_cells hr4
      refine pRun_ok (tb := tab) (n := 41) tabOk 1 _ _ hf rfl rfl fun a hf => ?_
      refine wl0 rfl (op_storeR (e' := ({ After := e4.After, Gain := e4.Gain, Output := e4.Output, Noise := w64 ((w64 ((w64 (k2 + 1)) + 1)) + 1) } : Amplifier)) hf H TF.sz3 0 rfl rfl rfl rfl rfl (nle rfl) rfl hA4 he4 (fun cs h => by obtain rfl := Amplifier_cells h; exact Amplifier_mk (x := ({ After := e4.After, Gain := e4.Gain, Output := e4.Output, Noise := w64 ((w64 ((w64 (k2 + 1)) + 1)) + 1) } : Amplifier))) fun w H => ?_)
      replace hf : Fr a 41 [(0, (.slice A (((a2.set (i).toNat ({ After := k2, Gain := e.Gain, Output := e.Output, Noise := e.Noise } : Amplifier)).set (i).toNat ({ After := e2.After, Gain := w64 (k2 + 1), Output := e2.Output, Noise := e2.Noise } : Amplifier)).set (i).toNat ({ After := e3.After, Gain := e3.Gain, Output := w64 ((w64 (k2 + 1)) + 1), Noise := e3.Noise } : Amplifier)).length c)), (1, (.int .i64 (w64 ((w64 ((w64 (k2 + 1)) + 1)) + 1)))), (5, (.int .i64 i)), (24, (.int .i64 (w64 (k2 + 1)))), (25, (.int .i64 (w64 ((w64 (k2 + 1)) + 1)))), (26, (.slice A (((a2.set (i).toNat ({ After := k2, Gain := e.Gain, Output := e.Output, Noise := e.Noise } : Amplifier)).set (i).toNat ({ After := e2.After, Gain := w64 (k2 + 1), Output := e2.Output, Noise := e2.Noise } : Amplifier)).set (i).toNat ({ After := e3.After, Gain := e3.Gain, Output := w64 ((w64 (k2 + 1)) + 1), Noise := e3.Noise } : Amplifier)).length c)), (27, (.int .i64 i)), (28, (.int .i64 (w64 ((w64 (k2 + 1)) + 1)))), (29, (.pointer (some ⟨p3, o3 + 0, none⟩))), (30, (.pointer (some ⟨p3, o3 + 2, none⟩))), (31, (.int .i64 (w64 ((w64 (k2 + 1)) + 1)))), (32, (.int .i64 (w64 ((w64 ((w64 (k2 + 1)) + 1)) + 1)))), (33, (.slice A (((a2.set (i).toNat ({ After := k2, Gain := e.Gain, Output := e.Output, Noise := e.Noise } : Amplifier)).set (i).toNat ({ After := e2.After, Gain := w64 (k2 + 1), Output := e2.Output, Noise := e2.Noise } : Amplifier)).set (i).toNat ({ After := e3.After, Gain := e3.Gain, Output := w64 ((w64 (k2 + 1)) + 1), Noise := e3.Noise } : Amplifier)).length c)), (34, (.int .i64 i)), (35, (.int .i64 (w64 ((w64 ((w64 (k2 + 1)) + 1)) + 1)))), (36, (.pointer (some ⟨p4, o4 + 0, none⟩))), (37, (.pointer (some ⟨p4, o4 + 3, none⟩)))] := hf.prune [0, 1, 5, 24, 25, 26, 27, 28, 29, 30, 31, 32, 33, 34, 35, 36, 37] rfl
      replace hf : Fr a 41 [(0, (.slice A ((((a2.set (i).toNat ({ After := k2, Gain := e.Gain, Output := e.Output, Noise := e.Noise } : Amplifier)).set (i).toNat ({ After := e2.After, Gain := w64 (k2 + 1), Output := e2.Output, Noise := e2.Noise } : Amplifier)).set (i).toNat ({ After := e3.After, Gain := e3.Gain, Output := w64 ((w64 (k2 + 1)) + 1), Noise := e3.Noise } : Amplifier)).set (i).toNat ({ After := e4.After, Gain := e4.Gain, Output := e4.Output, Noise := w64 ((w64 ((w64 (k2 + 1)) + 1)) + 1) } : Amplifier)).length c)), (1, (.int .i64 (w64 ((w64 ((w64 (k2 + 1)) + 1)) + 1)))), (5, (.int .i64 i)), (24, (.int .i64 (w64 (k2 + 1)))), (25, (.int .i64 (w64 ((w64 (k2 + 1)) + 1)))), (26, (.slice A ((((a2.set (i).toNat ({ After := k2, Gain := e.Gain, Output := e.Output, Noise := e.Noise } : Amplifier)).set (i).toNat ({ After := e2.After, Gain := w64 (k2 + 1), Output := e2.Output, Noise := e2.Noise } : Amplifier)).set (i).toNat ({ After := e3.After, Gain := e3.Gain, Output := w64 ((w64 (k2 + 1)) + 1), Noise := e3.Noise } : Amplifier)).set (i).toNat ({ After := e4.After, Gain := e4.Gain, Output := e4.Output, Noise := w64 ((w64 ((w64 (k2 + 1)) + 1)) + 1) } : Amplifier)).length c)), (27, (.int .i64 i)), (28, (.int .i64 (w64 ((w64 (k2 + 1)) + 1)))), (29, (.pointer (some ⟨p3, o3 + 0, none⟩))), (30, (.pointer (some ⟨p3, o3 + 2, none⟩))), (31, (.int .i64 (w64 ((w64 (k2 + 1)) + 1)))), (32, (.int .i64 (w64 ((w64 ((w64 (k2 + 1)) + 1)) + 1)))), (33, (.slice A ((((a2.set (i).toNat ({ After := k2, Gain := e.Gain, Output := e.Output, Noise := e.Noise } : Amplifier)).set (i).toNat ({ After := e2.After, Gain := w64 (k2 + 1), Output := e2.Output, Noise := e2.Noise } : Amplifier)).set (i).toNat ({ After := e3.After, Gain := e3.Gain, Output := w64 ((w64 (k2 + 1)) + 1), Noise := e3.Noise } : Amplifier)).set (i).toNat ({ After := e4.After, Gain := e4.Gain, Output := e4.Output, Noise := w64 ((w64 ((w64 (k2 + 1)) + 1)) + 1) } : Amplifier)).length c)), (34, (.int .i64 i)), (35, (.int .i64 (w64 ((w64 ((w64 (k2 + 1)) + 1)) + 1)))), (36, (.pointer (some ⟨p4, o4 + 0, none⟩))), (37, (.pointer (some ⟨p4, o4 + 3, none⟩)))] := by simpa only [List.length_set, Nat.add_zero] using hf
      have hf := hf.prune [0, 1, 5] rfl
      refine wl_end ?_
      refine then_n ?_
      refine reg ?_
      refine pRun_ok (tb := tab) (n := 41) tabOk 3 _ _ hf rfl rfl fun a hf => ?_
      refine wl_end ?_
      refine blk_n ?_
      refine then_n ?_
      refine reg ?_
      refine pRun_ok (tb := tab) (n := 41) tabOk 3 _ _ hf rfl rfl fun a hf => ?_
      refine wl_end ?_
      have hf := hf.prune [0, 1, 5] rfl
      have hf : Fr a 41 [(0, (.slice A a'.length c)), (1, (.int .i64 (w64 ((w64 ((w64 ((w64 (k2 + 1)) + 1)) + 1)) + 1)))), (5, (.int .i64 (w64 (i + 1))))] := by first | exact hf | (simp only [List.length_set, hlen] at hf; exact hf)
      have H := H.let [] [true] [] []
      exact then_n ⟨((((a2.set (i).toNat ({ After := k2, Gain := e.Gain, Output := e.Output, Noise := e.Noise } : Amplifier)).set (i).toNat ({ After := e2.After, Gain := w64 (k2 + 1), Output := e2.Output, Noise := e2.Noise } : Amplifier)).set (i).toNat ({ After := e3.After, Gain := e3.Gain, Output := w64 ((w64 (k2 + 1)) + 1), Noise := e3.Noise } : Amplifier)).set (i).toNat ({ After := e4.After, Gain := e4.Gain, Output := e4.Output, Noise := w64 ((w64 ((w64 (k2 + 1)) + 1)) + 1) } : Amplifier), w64 ((w64 ((w64 ((w64 (k2 + 1)) + 1)) + 1)) + 1), w64 (i + 1)), hR1, (by simp only [List.length_set, hlen]), hf, H⟩
    · rw [if_neg (nt hc)] at hR1
      refine cd_f hf rfl hc ?_
      refine wp_exit (then_x (then_x (blk_e (?_))))
      have hf := hf.prune [0, 1, 5] rfl
      have hf : Fr a 41 [(0, (.slice A a'.length c)), (1, (.int .i64 k2)), (5, (.int .i64 i))] := by first | exact hf | (simp only [List.length_set, hlen] at hf; exact hf)
      have H := H.let [] [true] [] []
      exact ⟨(a2, k2, i), (Option.some.inj hR1).symm, (by simp only [List.length_set, hlen]), hf, H⟩
  rintro a w ⟨⟨a3, k3, i2⟩, rfl, hlen, hf, H⟩
  try dsimp only at hlen
  have hf : Fr a 41 [(0, (.slice A a3.length c)), (1, (.int .i64 k3)), (5, (.int .i64 i2))] := by rw [hlen]; exact hf
  dsimp only at hF
  refine then_n ?_
  refine sq ?_
  refine reg ?_
  refine pRun_ok (tb := tab) (n := 41) tabOk 2 _ _ hf rfl rfl fun a hf => ?_
  refine wl_end ?_
  refine then_n ?_
  refine wp_ret (?_)
  have H := H.rowOwn 0 rfl rfl
  obtain ⟨F', H⟩ := H.freezeOwn 0 rfl
  rw [hlen] at H
  obtain rfl := Option.some.inj hF
  refine ret_1 (fn := Try.f87) (r := .tmp 4) hf rfl (rv_tmp hf rfl) ?_
  exact ⟨_, rfl, H.chg, mk_int, _, H.ownAt 0 rfl, H.back⟩

/- loop.example/g00897/laws.markIntS -/
set_option maxHeartbeats 1000000 in
theorem laws_markIntS_ok {fu : Nat} {w0 : World} {S : Nat → Prop} {F : List Nat} {cs : List Value} {v1_ : Value} {a' : List Int} {k' : Int} {r : Int × List Int} (hO : GoTy.own w0 F cs a') (hn : F.Nodup) (h1 : VR w0 S v1_ k') (hF : laws_markIntS fu a' k' = some r) :
    Calls Try.prog 44 [(bif GoTy.agg (List Int) then .agg cs.toArray else cs.headD undef), v1_].toArray w0 fun e w' => ∃ v, e = .returned v ∧ (Chg w0 w' F ∧ VR w' (fun _ => True) v r.1 ∧ ∃ F', GoTy.own w' F' cs r.2 ∧ Back w0 w' F F') := by
  obtain rfl := VR_int h1
  obtain ⟨A, c, rfl, hO⟩ := own_list hO
  have H := Mem.startG S hO hn
  obtain ⟨Fs, E, H, -⟩ := H.thaw rfl
  have H := H.rowSh 0 rfl
  refine enter Try.func44 rfl rfl (nle rfl) rfl fun a hf => ?_
  rw [laws_markIntS] at hF
  refine sq ?_
  refine reg ?_
  refine pRun_ok (tb := tab) (n := 19) tabOk 1 _ _ hf rfl rfl fun a hf => ?_
  refine wl_end ?_
  refine then_n ?_
  refine sq ?_
  refine sq ?_
  refine reg ?_
  refine pRun_ok (tb := tab) (n := 19) tabOk 1 _ _ hf rfl rfl fun a hf => ?_
  refine wl_end ?_
  refine then_n ?_
  obtain ⟨out', hB1, hF⟩ := bind_some hF
  have hf := hf.prune [0, 1, 5] rfl
  have hf : Fr a 19 [(0, (.slice A a'.length c)), (1, (.int .i64 k')), (5, (.int .i64 0))] := by first | exact hf | (simp only [List.length_set] at hf; exact hf)
  have H := H.let [] [true] [] []
  have hI : (fun (s : List Int × Int × Int) (a : Act) (w : World) => match s with | (a2, k2, i) => a2.length = a'.length ∧ Fr a 19 [(0, (.slice A a'.length c)), (1, (.int .i64 k2)), (5, (.int .i64 i))] ∧ Mem ⟨w0, F⟩ S [] [⟨.sh true, E, A, c, (a2 : List Int)⟩] [] [] w) (a', k', 0) a w0 := ⟨rfl, hf, H⟩
  refine mid (fun a w => ∃ s : List Int × Int × Int, out' = s ∧ (fun (s : List Int × Int × Int) (a : Act) (w : World) => match s with | (a2, k2, i) => a2.length = a'.length ∧ Fr a 19 [(0, (.slice A a'.length c)), (1, (.int .i64 k2)), (5, (.int .i64 i))] ∧ Mem ⟨w0, F⟩ S [] [⟨.sh true, E, A, c, (a2 : List Int)⟩] [] [] w) s a w) ?_ ?_
  · refine wp_block ?_
    refine loop_rule (fun k (s : List Int × Int × Int) => laws_markIntS_L1 fu k s.1 s.2.1 s.2.2 = some out') (fun (s : List Int × Int × Int) (a : Act) (w : World) => match s with | (a2, k2, i) => a2.length = a'.length ∧ Fr a 19 [(0, (.slice A a'.length c)), (1, (.int .i64 k2)), (5, (.int .i64 i))] ∧ Mem ⟨w0, F⟩ S [] [⟨.sh true, E, A, c, (a2 : List Int)⟩] [] [] w) (fun s h => by cases h) ?_ fu (a', k', 0) a w0 hB1 hI
    rintro fk ⟨a2, k2, i⟩ a w hR1 hI
    replace hR1 : laws_markIntS_L1 fu (fk + 1) a2 k2 i = some out' := hR1
    rw [laws_markIntS_L1] at hR1
    obtain ⟨hlen, hf, H⟩ := hI
    have hf : Fr a 19 [(0, (.slice A a2.length c)), (1, (.int .i64 k2)), (5, (.int .i64 i))] := by rw [hlen]; exact hf
    refine sq ?_
    refine sq ?_
    refine reg ?_
    refine pRun_ok (tb := tab) (n := 19) tabOk 4 _ _ hf rfl rfl fun a hf => ?_
    refine wl_end ?_
    refine then_n ?_
    refine (Bool.eq_false_or_eq_true (decide (i < (a2.length : Int)))).elim (fun hc => ?_) (fun hc => ?_)
    · rw [if_pos hc] at hR1
      refine cd_t hf rfl hc ?_
      refine wp_skip ?_
      refine then_n ?_
      refine sq ?_
      refine wp_block ?_
      refine sq ?_
      refine reg ?_
      refine pRun_ok (tb := tab) (n := 19) tabOk 3 _ _ hf rfl rfl fun a hf => ?_
      obtain ⟨e, he, hR1⟩ := bind_some hR1
      refine wl0 rfl (op_iaddrR hf H Try.underlying35 TF.sz3 0 rfl rfl rfl he (by decide) fun p o cs a hf hA hr hk => ?_)
      obtain rfl := hr
      refine wl0 rfl (op_storeR (e' := k2) hf H TF.sz3 0 rfl rfl rfl rfl rfl (nle rfl) rfl hA he (st_full rfl) fun w H => ?_)
      replace hf : Fr a 19 [(0, (.slice A a2.length c)), (1, (.int .i64 k2)), (5, (.int .i64 i)), (6, (.int .i64 i)), (7, (.slice A a2.length c)), (8, (.int .i64 (a2.length : Int))), (9, (.bool (decide (i < (a2.length : Int))))), (12, (.slice A a2.length c)), (13, (.int .i64 i)), (14, (.int .i64 k2)), (15, (.pointer (some ⟨p, o + 0, none⟩)))] := hf.prune [0, 1, 5, 6, 7, 8, 9, 12, 13, 14, 15] rfl
      replace hf : Fr a 19 [(0, (.slice A (a2.set (i).toNat k2).length c)), (1, (.int .i64 k2)), (5, (.int .i64 i)), (6, (.int .i64 i)), (7, (.slice A (a2.set (i).toNat k2).length c)), (8, (.int .i64 (a2.length : Int))), (9, (.bool (decide (i < (a2.length : Int))))), (12, (.slice A (a2.set (i).toNat k2).length c)), (13, (.int .i64 i)), (14, (.int .i64 k2)), (15, (.pointer (some ⟨p, o + 0, none⟩)))] := by simpa only [List.length_set, Nat.add_zero] using hf
      refine wl_end ?_
      refine then_n ?_
      refine reg ?_
      refine pRun_ok (tb := tab) (n := 19) tabOk 3 _ _ hf rfl rfl fun a hf => ?_
      refine wl_end ?_
      refine blk_n ?_
      refine then_n ?_
      refine reg ?_
      refine pRun_ok (tb := tab) (n := 19) tabOk 3 _ _ hf rfl rfl fun a hf => ?_
      refine wl_end ?_
      have hf := hf.prune [0, 1, 5] rfl
      have hf : Fr a 19 [(0, (.slice A a'.length c)), (1, (.int .i64 (w64 (k2 + 1)))), (5, (.int .i64 (w64 (i + 1))))] := by first | exact hf | (simp only [List.length_set, hlen] at hf; exact hf)
      have H := H.let [] [true] [] []
      exact then_n ⟨(a2.set (i).toNat k2, w64 (k2 + 1), w64 (i + 1)), hR1, (by simp only [List.length_set, hlen]), hf, H⟩
    · rw [if_neg (nt hc)] at hR1
      refine cd_f hf rfl hc ?_
      refine wp_exit (then_x (then_x (blk_e (?_))))
      have hf := hf.prune [0, 1, 5] rfl
      have hf : Fr a 19 [(0, (.slice A a'.length c)), (1, (.int .i64 k2)), (5, (.int .i64 i))] := by first | exact hf | (simp only [List.length_set, hlen] at hf; exact hf)
      have H := H.let [] [true] [] []
      exact ⟨(a2, k2, i), (Option.some.inj hR1).symm, (by simp only [List.length_set, hlen]), hf, H⟩
  rintro a w ⟨⟨a3, k3, i2⟩, rfl, hlen, hf, H⟩
  try dsimp only at hlen
  have hf : Fr a 19 [(0, (.slice A a3.length c)), (1, (.int .i64 k3)), (5, (.int .i64 i2))] := by rw [hlen]; exact hf
  dsimp only at hF
  refine then_n ?_
  refine sq ?_
  refine reg ?_
  refine pRun_ok (tb := tab) (n := 19) tabOk 2 _ _ hf rfl rfl fun a hf => ?_
  refine wl_end ?_
  refine then_n ?_
  refine wp_ret (?_)
  have H := H.rowOwn 0 rfl rfl
  obtain ⟨F', H⟩ := H.freezeOwn 0 rfl
  rw [hlen] at H
  obtain rfl := Option.some.inj hF
  refine ret_1 (fn := Try.f44) (r := .tmp 4) hf rfl (rv_tmp hf rfl) ?_
  exact ⟨_, rfl, H.chg, mk_int, _, H.ownAt 0 rfl, H.back⟩

/- loop.example/g00897/laws.heldIntS -/
set_option maxHeartbeats 1000000 in
theorem laws_heldIntS_ok {fu : Nat} {w0 : World} {S : Nat → Prop} {v0_ : Value} {v1_ : Value} {a' : List Int} {k' : Int} {r : Int} (h0 : VR w0 S v0_ a') (h1 : VR w0 S v1_ k') (hF : laws_heldIntS fu a' k' = some r) :
    Calls Try.prog 45 [v0_, v1_].toArray w0 fun e w' => ∃ v, e = .returned v ∧ (Below w0.heap.size w0 w' ∧ VR w' (St ⟨w0, []⟩ S [] [] [] true) v r) := by
  obtain ⟨A, c, rfl, hl⟩ := VR_list h0
  obtain rfl := VR_int h1
  have H := Mem.start ⟨w0, []⟩ S
  have H := H.pushArg (MP.val [(.slice A a'.length c)] a') hl
  refine enter Try.func45 rfl rfl (nle rfl) rfl fun a hf => ?_
  rw [laws_heldIntS] at hF
  refine sq ?_
  refine reg ?_
  refine pRun_ok (tb := tab) (n := 21) tabOk 1 _ _ hf rfl rfl fun a hf => ?_
  refine wl_end ?_
  refine then_n ?_
  refine sq ?_
  refine sq ?_
  refine reg ?_
  refine pRun_ok (tb := tab) (n := 21) tabOk 1 _ _ hf rfl rfl fun a hf => ?_
  refine wl_end ?_
  refine then_n ?_
  obtain ⟨out', hB1, hF⟩ := bind_some hF
  have hf := hf.prune [0, 1, 5] rfl
  have H := H.let [] [] [] [0]
  have hI : (fun (s : Int × Int) (a : Act) (w : World) => match s with | (k2, i) => Fr a 21 [(0, (.slice A a'.length c)), (1, (.int .i64 k2)), (5, (.int .i64 i))] ∧ Mem ⟨w0, []⟩ S [] [] [] [(false, MP.val [(.slice A a'.length c)] (a' : List Int))] w) (k', 0) a w0 := ⟨hf, H⟩
  refine mid (fun a w => ∃ s : Int × Int, out' = Out.next s ∧ (fun (s : Int × Int) (a : Act) (w : World) => match s with | (k2, i) => Fr a 21 [(0, (.slice A a'.length c)), (1, (.int .i64 k2)), (5, (.int .i64 i))] ∧ Mem ⟨w0, []⟩ S [] [] [] [(false, MP.val [(.slice A a'.length c)] (a' : List Int))] w) s a w) ?_ ?_
  · refine wp_block ?_
    refine loop_rule (fun k (s : Int × Int) => laws_heldIntS_L1 fu a' k s.1 s.2 = some out') (fun (s : Int × Int) (a : Act) (w : World) => match s with | (k2, i) => Fr a 21 [(0, (.slice A a'.length c)), (1, (.int .i64 k2)), (5, (.int .i64 i))] ∧ Mem ⟨w0, []⟩ S [] [] [] [(false, MP.val [(.slice A a'.length c)] (a' : List Int))] w) (fun s h => by cases h) ?_ fu (k', 0) a w0 hB1 hI
    rintro fk ⟨k2, i⟩ a w hR1 hI
    replace hR1 : laws_heldIntS_L1 fu a' (fk + 1) k2 i = some out' := hR1
    rw [laws_heldIntS_L1] at hR1
    obtain ⟨hf, H⟩ := hI
    refine sq ?_
    refine sq ?_
    refine reg ?_
    refine pRun_ok (tb := tab) (n := 21) tabOk 4 _ _ hf rfl rfl fun a hf => ?_
    refine wl_end ?_
    refine then_n ?_
    refine (Bool.eq_false_or_eq_true (decide (i < (a'.length : Int)))).elim (fun hc => ?_) (fun hc => ?_)
    · rw [if_pos hc] at hR1
      refine cd_t hf rfl hc ?_
      refine wp_skip ?_
      refine then_n ?_
      refine sq ?_
      refine wp_block ?_
      refine sq ?_
      refine sq ?_
      refine reg ?_
      refine pRun_ok (tb := tab) (n := 21) tabOk 2 _ _ hf rfl rfl fun a hf => ?_
      obtain ⟨e, he, hR1⟩ := bind_some hR1
      refine wl0 rfl (op_iaddr hf H Try.underlying35 TF.sz3 0 rfl rfl rfl he (by decide) fun p o cs a hf hr H => ?_)
      obtain rfl := hr
      refine wl0 rfl (op_q hf (rq_loadI hf H TF.ls3 0 0 rfl rfl rfl) rfl (by decide) fun a hf => ?_)
      refine pRun_ok (tb := tab) (n := 21) tabOk 2 _ _ hf rfl rfl fun a hf => ?_
      refine wl_end ?_
      refine then_n ?_
      refine (Bool.eq_false_or_eq_true (e != k2)).elim (fun hc2 => ?_) (fun hc2 => ?_)
      · rw [if_pos hc2] at hR1
        refine cd_t hf rfl hc2 ?_
        refine sq ?_
        refine reg ?_
        refine pRun_ok (tb := tab) (n := 21) tabOk 1 _ _ hf rfl rfl fun a hf => ?_
        have hf := hf.prune [4] rfl
        refine wl_end ?_
        refine then_n ?_
        refine wp_ret (then_r (blk_r (then_r (then_r (blk_r (then_r (then_r (?_))))))))
        obtain rfl := Option.some.inj hR1
        replace hF := on_ret hF
        obtain rfl := Option.some.inj hF
        refine ret_1 (fn := Try.f45) (r := .tmp 4) hf rfl (rv_tmp hf rfl) ?_
        exact ⟨_, rfl, H.bel, mk_int⟩
      · rw [if_neg (nt hc2)] at hR1
        refine cd_f hf rfl hc2 ?_
        refine wp_skip ?_
        refine then_n ?_
        refine reg ?_
        refine pRun_ok (tb := tab) (n := 21) tabOk 3 _ _ hf rfl rfl fun a hf => ?_
        refine wl_end ?_
        refine blk_n ?_
        refine then_n ?_
        refine reg ?_
        refine pRun_ok (tb := tab) (n := 21) tabOk 3 _ _ hf rfl rfl fun a hf => ?_
        have hf := hf.prune [0, 1, 5] rfl
        refine wl_end ?_
        have hf := hf.prune [0, 1, 5] rfl
        have H := H.let [] [] [] [1]
        exact then_n ⟨(w64 (k2 + 1), w64 (i + 1)), hR1, hf, H⟩
    · rw [if_neg (nt hc)] at hR1
      refine cd_f hf rfl hc ?_
      refine wp_exit (then_x (then_x (blk_e (?_))))
      have hf := hf.prune [0, 1, 5] rfl
      have H := H.let [] [] [] [0]
      exact ⟨(k2, i), (Option.some.inj hR1).symm, hf, H⟩
  rintro a w ⟨⟨k3, i2⟩, rfl, hf, H⟩
  replace hF := on_next hF
  dsimp only at hF
  refine then_n ?_
  refine sq ?_
  refine reg ?_
  refine pRun_ok (tb := tab) (n := 21) tabOk 2 _ _ hf rfl rfl fun a hf => ?_
  refine wl_end ?_
  refine then_n ?_
  refine wp_ret (?_)
  obtain rfl := Option.some.inj hF
  refine ret_1 (fn := Try.f45) (r := .tmp 4) hf rfl (rv_tmp hf rfl) ?_
  exact ⟨_, rfl, H.bel, mk_int⟩

/- loop.example/g00897/laws.FnExactPowerProfile -/
set_option maxHeartbeats 1000000 in
theorem laws_FnExactPowerProfile_ok {fu : Nat} {w0 : World} {S : Nat → Prop} {v0_ : Value} {v1_ : Value} {v2_ : Value} {aLine : List Span} {aList : List Amplifier} {aLaunch : Int} {r : Bool} (h0 : VR w0 S v0_ aLine) (h1 : VR w0 S v1_ aList) (h2 : VR w0 S v2_ aLaunch) (hF : laws_FnExactPowerProfile fu aLine aList aLaunch = some r) :
    Calls Try.prog 22 [v0_, v1_, v2_].toArray w0 fun e w' => ∃ v, e = .returned v ∧ (Below w0.heap.size w0 w' ∧ VR w' (St ⟨w0, []⟩ S [] [] [] true) v r) := by
  obtain ⟨A, c, rfl, hl⟩ := VR_list h0
  obtain ⟨A2, c2, rfl, hl2⟩ := VR_list h1
  obtain rfl := VR_int h2
  have H := Mem.start ⟨w0, []⟩ S
  have H := H.pushArg (MP.val [(.slice A aLine.length c)] aLine) hl
  have H := H.pushArg (MP.val [(.slice A2 aList.length c2)] aList) hl2
  refine enter Try.func22 rfl rfl (nle rfl) rfl fun a hf => ?_
  rw [laws_FnExactPowerProfile] at hF
  refine sq ?_
  refine reg ?_
  refine pRun_ok (tb := tab) (n := 124) tabOk 1 _ _ hf rfl rfl fun a hf => ?_
  refine wl_end ?_
  refine then_n ?_
  refine sq ?_
  refine reg ?_
  refine pRun_ok (tb := tab) (n := 124) tabOk 1 _ _ hf rfl rfl fun a hf => ?_
  refine wl_end ?_
  refine then_n ?_
  refine sq ?_
  refine reg ?_
  refine pRun_ok (tb := tab) (n := 124) tabOk 2 _ _ hf rfl rfl fun a hf => ?_
  obtain ⟨y, hy, hF⟩ := bind_some hF
  refine wl0 rfl (op_call hf TF.cl80 rfl (by decide) (laws_szSpanS_ok (S := fun _ => True) (mk_list (rep_true (α := List Span) (H.get 1 rfl))) mk_int hy) fun v w a hp hf => ?_)
  obtain ⟨hb, hp⟩ := hp
  obtain rfl := VR_int hp
  have H := H.keep hb
  refine pRun_ok (tb := tab) (n := 124) tabOk 1 _ _ hf rfl rfl fun a hf => ?_
  refine wl_end ?_
  refine then_n ?_
  refine sq ?_
  refine sq ?_
  refine reg ?_
  refine pRun_ok (tb := tab) (n := 124) tabOk 2 _ _ hf rfl rfl fun a hf => ?_
  refine wl_end ?_
  refine then_n ?_
  refine (Bool.eq_false_or_eq_true (decide (y < 0))).elim (fun hc => ?_) (fun hc => ?_)
  · rw [if_pos hc] at hF
    refine cd_t hf rfl hc ?_
    refine sq ?_
    refine reg ?_
    refine pRun_ok (tb := tab) (n := 124) tabOk 1 _ _ hf rfl rfl fun a hf => ?_
    refine wl_end ?_
    refine then_n ?_
    refine wp_ret (then_r (?_))
    obtain rfl := Option.some.inj hF
    refine ret_1 (fn := Try.f22) (r := .tmp 6) hf rfl (rv_tmp hf rfl) ?_
    exact ⟨_, rfl, H.bel, mk_bool⟩
  · rw [if_neg (nt hc)] at hF
    refine cd_f hf rfl hc ?_
    refine wp_skip ?_
    refine then_n ?_
    refine sq ?_
    refine reg ?_
    refine pRun_ok (tb := tab) (n := 124) tabOk 2 _ _ hf rfl rfl fun a hf => ?_
    obtain ⟨y2, hy2, hF⟩ := bind_some hF
    refine wl0 rfl (op_call hf TF.cl54 rfl (by decide) (laws_szAmplifierS_ok (S := fun _ => True) (mk_list (rep_true (α := List Amplifier) (H.get 0 rfl))) mk_int hy2) fun v2 w a hp2 hf => ?_)
    obtain ⟨hb2, hp2⟩ := hp2
    obtain rfl := VR_int hp2
    have H := H.keep hb2
    refine pRun_ok (tb := tab) (n := 124) tabOk 1 _ _ hf rfl rfl fun a hf => ?_
    refine wl_end ?_
    refine then_n ?_
    refine sq ?_
    refine sq ?_
    refine reg ?_
    refine pRun_ok (tb := tab) (n := 124) tabOk 2 _ _ hf rfl rfl fun a hf => ?_
    refine wl_end ?_
    refine then_n ?_
    refine (Bool.eq_false_or_eq_true (decide (y2 < 0))).elim (fun hc2 => ?_) (fun hc2 => ?_)
    · rw [if_pos hc2] at hF
      refine cd_t hf rfl hc2 ?_
      refine sq ?_
      refine reg ?_
      refine pRun_ok (tb := tab) (n := 124) tabOk 1 _ _ hf rfl rfl fun a hf => ?_
      have hf := hf.prune [6] rfl
      refine wl_end ?_
      refine then_n ?_
      refine wp_ret (then_r (?_))
      obtain rfl := Option.some.inj hF
      refine ret_1 (fn := Try.f22) (r := .tmp 6) hf rfl (rv_tmp hf rfl) ?_
      exact ⟨_, rfl, H.bel, mk_bool⟩
    · rw [if_neg (nt hc2)] at hF
      refine cd_f hf rfl hc2 ?_
      refine wp_skip ?_
      refine then_n ?_
      refine sq ?_
      refine reg ?_
      refine pRun_ok (tb := tab) (n := 124) tabOk 1 _ _ hf rfl rfl fun a hf => ?_
      obtain ⟨y3, hy3, hF⟩ := bind_some hF
      refine wl0 rfl (op_call hf TF.cl82 rfl (by decide) (laws_toSpanS_ok (S := fun _ => True) (mk_list (rep_true (α := List Span) (H.get 1 rfl))) hy3) fun v3 w a hp3 hf => ?_)
      obtain ⟨hb3, F, hp4, hN⟩ := hp3
      obtain ⟨A3, c3, rfl, hl3⟩ := VO_list hp4
      have H := H.addOwn hb3 (X := [(⟨F, MP.own F [(.slice A3 y3.length c3)] (y3 : List Span)⟩ : DI)]) (by simpa using hN.1) (ps1 hl3 ps0) (by simpa using hN.2)
      have H := H.lend 0 rfl
      refine pRun_ok (tb := tab) (n := 124) tabOk 1 _ _ hf rfl rfl fun a hf => ?_
      obtain ⟨y4, hy4, hF⟩ := bind_some hF
      refine wl0 rfl (op_call hf TF.cl56 rfl (by decide) (laws_toAmplifierS_ok (S := fun _ => True) (mk_list (rep_true (α := List Amplifier) (H.get 1 rfl))) hy4) fun v4 w a hp5 hf => ?_)
      obtain ⟨hb4, F3, hp6, hN2⟩ := hp5
      obtain ⟨A4, c4, rfl, hl4⟩ := VO_list hp6
      have H := H.addOwn hb4 (X := [(⟨F3, MP.own F3 [(.slice A4 y4.length c4)] (y4 : List Amplifier)⟩ : DI)]) (by simpa using hN2.1) (ps1 hl4 ps0) (by simpa using hN2.2)
      have H := H.lend 0 rfl
      refine pRun_ok (tb := tab) (n := 124) tabOk 1 _ _ hf rfl rfl fun a hf => ?_
      obtain ⟨y5, hy5, hF⟩ := bind_some hF
      refine wl0 rfl (op_call hf TF.cl93 rfl (by decide) (spec_PowerProfile_ok (S := fun _ => True) (mk_list (rep_true (α := List Span) (H.get 1 rfl))) (mk_list (rep_true (α := List Amplifier) (H.get 0 rfl))) mk_int hy5) fun v5 w a hp7 hf => ?_)
      obtain ⟨hb5, F5, v6, v7, rfl, hp8, hp9, hN3⟩ := hp7
      obtain ⟨A5, c5, rfl, hl5⟩ := VO_list hp8
      obtain rfl := VR_bool hp9
      have H := H.addOwn hb5 (X := [(⟨F5, MP.own F5 [(.slice A5 y5.1.length c5)] (y5.1 : List Int)⟩ : DI)]) (by simpa using hN3.1) (ps1 hl5 ps0) (by simpa using hN3.2)
      have H := H.lend 0 rfl
      refine pRun_ok (tb := tab) (n := 124) tabOk 5 _ _ hf rfl rfl fun a hf => ?_
      have hf := hf.prune [0, 1, 2, 8, 9] rfl
      refine wl_end ?_
      refine then_n ?_
      refine sq ?_
      refine reg ?_
      refine pRun_ok (tb := tab) (n := 124) tabOk 1 _ _ hf rfl rfl fun a hf => ?_
      obtain ⟨y6, hy6, hF⟩ := bind_some hF
      refine wl0 rfl (op_call hf TF.cl82 rfl (by decide) (laws_toSpanS_ok (S := fun _ => True) (mk_list (rep_true (α := List Span) (H.get 4 rfl))) hy6) fun v8 w a hp10 hf => ?_)
      obtain ⟨hb6, F7, hp11, hN4⟩ := hp10
      obtain ⟨A6, c6, rfl, hl6⟩ := VO_list hp11
      have H := H.addOwn hb6 (X := [(⟨F7, MP.own F7 [(.slice A6 y6.length c6)] (y6 : List Span)⟩ : DI)]) (by simpa using hN4.1) (ps1 hl6 ps0) (by simpa using hN4.2)
      have H := H.lend 0 rfl
      refine pRun_ok (tb := tab) (n := 124) tabOk 1 _ _ hf rfl rfl fun a hf => ?_
      refine wl_end ?_
      refine then_n ?_
      refine sq ?_
      refine reg ?_
      refine pRun_ok (tb := tab) (n := 124) tabOk 1 _ _ hf rfl rfl fun a hf => ?_
      obtain ⟨y7, hy7, hF⟩ := bind_some hF
      refine wl0 rfl (op_call hf TF.cl56 rfl (by decide) (laws_toAmplifierS_ok (S := fun _ => True) (mk_list (rep_true (α := List Amplifier) (H.get 4 rfl))) hy7) fun v9 w a hp12 hf => ?_)
      obtain ⟨hb7, F9, hp13, hN5⟩ := hp12
      obtain ⟨A7, c7, rfl, hl7⟩ := VO_list hp13
      have H := H.addOwn hb7 (X := [(⟨F9, MP.own F9 [(.slice A7 y7.length c7)] (y7 : List Amplifier)⟩ : DI)]) (by simpa using hN5.1) (ps1 hl7 ps0) (by simpa using hN5.2)
      have H := H.lend 0 rfl
      refine pRun_ok (tb := tab) (n := 124) tabOk 1 _ _ hf rfl rfl fun a hf => ?_
      refine wl_end ?_
      refine then_n ?_
      refine sq ?_
      refine reg ?_
      refine pRun_ok (tb := tab) (n := 124) tabOk 3 _ _ hf rfl rfl fun a hf => ?_
      obtain ⟨y8, hy8, hF⟩ := bind_some hF
      refine wl0 rfl (op_call hf TF.cl94 rfl (by decide) (impl_PowerProfile_ok (S := fun _ => True) (mk_list (rep_true (α := List Span) (H.get 1 rfl))) (mk_list (rep_true (α := List Amplifier) (H.get 0 rfl))) mk_int hy8) fun v10 w a hp14 hf => ?_)
      obtain ⟨hb8, F11, v11, v12, rfl, hp15, hp16, hN6⟩ := hp14
      obtain ⟨A8, c8, rfl, hl8⟩ := VO_list hp15
      obtain rfl := VR_bool hp16
      have H := H.addOwn hb8 (X := [(⟨F11, MP.own F11 [(.slice A8 y8.1.length c8)] (y8.1 : List Int)⟩ : DI)]) (by simpa using hN6.1) (ps1 hl8 ps0) (by simpa using hN6.2)
      have H := H.lend 0 rfl
      refine pRun_ok (tb := tab) (n := 124) tabOk 5 _ _ hf rfl rfl fun a hf => ?_
      refine wl_end ?_
      refine then_n ?_
      refine sq ?_
      refine sq ?_
      obtain ⟨c9, hGc9, hF⟩ := bind_some hF
      refine mid (fun a w => Fr a 124 [(0, (.slice A aLine.length c)), (1, (.slice A2 aList.length c2)), (2, (.int .i64 aLaunch)), (8, (.slice A5 y5.1.length c5)), (9, (.bool y5.2)), (10, (.slice A6 y6.length c6)), (11, (.slice A7 y7.length c7)), (12, (.slice A8 y8.1.length c8)), (13, (.bool y8.2)), (57, (.bool c9))] ∧ Mem ⟨w0, []⟩ S [] [] [⟨F11, MP.own F11 [(.slice A8 y8.1.length c8)] (y8.1 : List Int)⟩, ⟨F9, MP.own F9 [(.slice A7 y7.length c7)] (y7 : List Amplifier)⟩, ⟨F7, MP.own F7 [(.slice A6 y6.length c6)] (y6 : List Span)⟩, ⟨F5, MP.own F5 [(.slice A5 y5.1.length c5)] (y5.1 : List Int)⟩] [(true, MP.val [(.slice A8 y8.1.length c8)] (y8.1 : List Int)), (true, MP.val [(.slice A7 y7.length c7)] (y7 : List Amplifier)), (true, MP.val [(.slice A6 y6.length c6)] (y6 : List Span)), (true, MP.val [(.slice A5 y5.1.length c5)] (y5.1 : List Int)), (false, MP.val [(.slice A2 aList.length c2)] (aList : List Amplifier)), (false, MP.val [(.slice A aLine.length c)] (aLine : List Span))] w) ?_ ?_
      · refine reg ?_
        refine pRun_ok (tb := tab) (n := 124) tabOk 2 _ _ hf rfl rfl fun a hf => ?_
        obtain ⟨y9, hy9, hGc9⟩ := bind_some hGc9
        refine wl0 rfl (op_call hf TF.cl43 rfl (by decide) (laws_eqIntS_ok (S := fun _ => True) (mk_list (rep_true (α := List Int) (H.get 0 rfl))) (mk_list (rep_true (α := List Int) (H.get 3 rfl))) hy9) fun v13 w a hp17 hf => ?_)
        obtain ⟨hb9, hp17⟩ := hp17
        obtain rfl := VR_bool hp17
        have H := H.keep hb9
        refine pRun_ok (tb := tab) (n := 124) tabOk 2 _ _ hf rfl rfl fun a hf => ?_
        refine (Bool.eq_false_or_eq_true (!y9)).elim (fun hc3 => ?_) (fun hc3 => ?_)
        · rw [if_pos hc3] at hGc9
          have hf := hf.lit 53 rfl hc3
          refine pRun_ok (tb := tab) (n := 124) tabOk 4 _ _ hf rfl rfl fun a hf => ?_
          obtain rfl := Option.some.inj hGc9
          have hf := hf.prune [0, 1, 2, 8, 9, 10, 11, 12, 13, 57] rfl
          have H := H.let [] [] [true, true, true, true, false, false] [0, 1, 2, 3, 6, 7]
          exact wl_end ⟨hf, H⟩
        · rw [if_neg (nt hc3)] at hGc9
          have hf := hf.lit 53 rfl hc3
          refine pRun_ok (tb := tab) (n := 124) tabOk 4 _ _ hf rfl rfl fun a hf => ?_
          obtain rfl := Option.some.inj hGc9
          have hf := hf.prune [0, 1, 2, 8, 9, 10, 11, 12, 13, 57] rfl
          have H := H.let [] [] [true, true, true, true, false, false] [0, 1, 2, 3, 6, 7]
          exact wl_end ⟨hf, H⟩
      rintro a w ⟨hf, H⟩
      refine then_n ?_
      refine (Bool.eq_false_or_eq_true (c9)).elim (fun hc4 => ?_) (fun hc4 => ?_)
      · rw [if_pos hc4] at hF
        refine cd_t hf rfl hc4 ?_
        refine sq ?_
        refine reg ?_
        refine pRun_ok (tb := tab) (n := 124) tabOk 1 _ _ hf rfl rfl fun a hf => ?_
        refine wl_end ?_
        refine then_n ?_
        refine wp_ret (then_r (?_))
        obtain rfl := Option.some.inj hF
        refine ret_1 (fn := Try.f22) (r := .tmp 6) hf rfl (rv_tmp hf rfl) ?_
        exact ⟨_, rfl, H.bel, mk_bool⟩
      · rw [if_neg (nt hc4)] at hF
        refine cd_f hf rfl hc4 ?_
        refine wp_skip ?_
        refine then_n ?_
        refine sq ?_
        refine sq ?_
        refine reg ?_
        refine pRun_ok (tb := tab) (n := 124) tabOk 2 _ _ hf rfl rfl fun a hf => ?_
        obtain ⟨y10, hy10, hF⟩ := bind_some hF
        refine wl0 rfl (op_call hf TF.cl82 rfl (by decide) (laws_toSpanS_ok (S := fun _ => True) (mk_list (rep_true (α := List Span) (H.get 5 rfl))) hy10) fun v14 w a hp18 hf => ?_)
        obtain ⟨hb10, F13, hp19, hN7⟩ := hp18
        obtain ⟨A9, c10, rfl, hl9⟩ := VO_list hp19
        have H := H.addOwn hb10 (X := [(⟨F13, MP.own F13 [(.slice A9 y10.length c10)] (y10 : List Span)⟩ : DI)]) (by simpa using hN7.1) (ps1 hl9 ps0) (by simpa using hN7.2)
        have H := H.lend 0 rfl
        obtain ⟨y11, hy11, hF⟩ := bind_some hF
        refine wl0 rfl (op_call hf TF.cl85 rfl (by decide) (laws_eqSpanS_ok (S := fun _ => True) (mk_list (rep_true (α := List Span) (H.get 3 rfl))) (mk_list (rep_true (α := List Span) (H.get 0 rfl))) hy11) fun v15 w a hp20 hf => ?_)
        obtain ⟨hb11, hp20⟩ := hp20
        obtain rfl := VR_bool hp20
        have H := H.keep hb11
        refine pRun_ok (tb := tab) (n := 124) tabOk 1 _ _ hf rfl rfl fun a hf => ?_
        refine wl_end ?_
        refine then_n ?_
        refine (Bool.eq_false_or_eq_true (!y11)).elim (fun hc5 => ?_) (fun hc5 => ?_)
        · rw [if_pos hc5] at hF
          refine cd_t hf rfl hc5 ?_
          refine sq ?_
          refine reg ?_
          refine pRun_ok (tb := tab) (n := 124) tabOk 1 _ _ hf rfl rfl fun a hf => ?_
          have hf := hf.prune [6] rfl
          refine wl_end ?_
          refine then_n ?_
          refine wp_ret (then_r (?_))
          obtain rfl := Option.some.inj hF
          refine ret_1 (fn := Try.f22) (r := .tmp 6) hf rfl (rv_tmp hf rfl) ?_
          exact ⟨_, rfl, H.bel, mk_bool⟩
        · rw [if_neg (nt hc5)] at hF
          refine cd_f hf rfl hc5 ?_
          refine wp_skip ?_
          refine then_n ?_
          refine sq ?_
          refine sq ?_
          refine reg ?_
          refine pRun_ok (tb := tab) (n := 124) tabOk 2 _ _ hf rfl rfl fun a hf => ?_
          obtain ⟨y12, hy12, hF⟩ := bind_some hF
          refine wl0 rfl (op_call hf TF.cl56 rfl (by decide) (laws_toAmplifierS_ok (S := fun _ => True) (mk_list (rep_true (α := List Amplifier) (H.get 5 rfl))) hy12) fun v16 w a hp21 hf => ?_)
          obtain ⟨hb12, F15, hp22, hN8⟩ := hp21
          obtain ⟨A10, c11, rfl, hl10⟩ := VO_list hp22
          have H := H.addOwn hb12 (X := [(⟨F15, MP.own F15 [(.slice A10 y12.length c11)] (y12 : List Amplifier)⟩ : DI)]) (by simpa using hN8.1) (ps1 hl10 ps0) (by simpa using hN8.2)
          have H := H.lend 0 rfl
          obtain ⟨y13, hy13, hF⟩ := bind_some hF
          refine wl0 rfl (op_call hf TF.cl58 rfl (by decide) (laws_eqAmplifierS_ok (S := fun _ => True) (mk_list (rep_true (α := List Amplifier) (H.get 3 rfl))) (mk_list (rep_true (α := List Amplifier) (H.get 0 rfl))) hy13) fun v17 w a hp23 hf => ?_)
          obtain ⟨hb13, hp23⟩ := hp23
          obtain rfl := VR_bool hp23
          have H := H.keep hb13
          refine pRun_ok (tb := tab) (n := 124) tabOk 1 _ _ hf rfl rfl fun a hf => ?_
          refine wl_end ?_
          refine then_n ?_
          refine (Bool.eq_false_or_eq_true (!y13)).elim (fun hc6 => ?_) (fun hc6 => ?_)
          · rw [if_pos hc6] at hF
            refine cd_t hf rfl hc6 ?_
            refine sq ?_
            refine reg ?_
            refine pRun_ok (tb := tab) (n := 124) tabOk 1 _ _ hf rfl rfl fun a hf => ?_
            have hf := hf.prune [6] rfl
            refine wl_end ?_
            refine then_n ?_
            refine wp_ret (then_r (?_))
            obtain rfl := Option.some.inj hF
            refine ret_1 (fn := Try.f22) (r := .tmp 6) hf rfl (rv_tmp hf rfl) ?_
            exact ⟨_, rfl, H.bel, mk_bool⟩
          · rw [if_neg (nt hc6)] at hF
            refine cd_f hf rfl hc6 ?_
            refine wp_skip ?_
            refine then_n ?_
            refine sq ?_
            refine reg ?_
            refine pRun_ok (tb := tab) (n := 124) tabOk 1 _ _ hf rfl rfl fun a hf => ?_
            refine wl_end ?_
            refine then_n ?_
            refine sq ?_
            refine reg ?_
            refine pRun_ok (tb := tab) (n := 124) tabOk 2 _ _ hf rfl rfl fun a hf => ?_
            have H := H.frontD 4 rfl
            obtain ⟨y14, hy14, hF⟩ := bind_some hF
            refine wl0 rfl (op_call hf TF.cl86 rfl (by decide) (laws_markSpanS_ok (S := fun _ => True) (F := F7) (cs := [(.slice A6 y6.length c6)]) (H.ownAt 0 rfl) H.diNd.1 mk_int hy14) fun v18 w a hp24 hf => ?_)
            obtain ⟨hch, hv, F17, ho, hbk⟩ := hp24
            obtain rfl := VR_int hv
            have H := H.wrote rfl hch ho hbk
            have H := H.arg (p := MP.val [(.slice A aLine.length c)] aLine) hl
            have H := H.arg (p := MP.val [(.slice A2 aList.length c2)] aList) hl2
            have H := H.lend 0 rfl
            have H := H.lend 1 rfl
            have H := H.lend 2 rfl
            have H := H.lend 3 rfl
            have H := H.lend 4 rfl
            have H := H.lend 5 rfl
            refine pRun_ok (tb := tab) (n := 124) tabOk 1 _ _ hf rfl rfl fun a hf => ?_
            have hf := hf.prune [0, 1, 2, 8, 9, 11, 12, 13, 14] rfl
            refine wl_end ?_
            refine then_n ?_
            refine sq ?_
            refine reg ?_
            refine pRun_ok (tb := tab) (n := 124) tabOk 2 _ _ hf rfl rfl fun a hf => ?_
            have H := H.frontD 4 rfl
            obtain ⟨y15, hy15, hF⟩ := bind_some hF
            refine wl0 rfl (op_call hf TF.cl87 rfl (by decide) (laws_markAmplifierS_ok (S := fun _ => True) (F := F9) (cs := [(.slice A7 y7.length c7)]) (H.ownAt 0 rfl) H.diNd.1 mk_int hy15) fun v19 w a hp25 hf => ?_)
            obtain ⟨hch2, hv2, F18, ho2, hbk2⟩ := hp25
            obtain rfl := VR_int hv2
            have H := H.wrote rfl hch2 ho2 hbk2
            have H := H.arg (p := MP.val [(.slice A aLine.length c)] aLine) hl
            have H := H.arg (p := MP.val [(.slice A2 aList.length c2)] aList) hl2
            have H := H.lend 0 rfl
            have H := H.lend 1 rfl
            have H := H.lend 2 rfl
            have H := H.lend 3 rfl
            have H := H.lend 4 rfl
            have H := H.lend 5 rfl
            refine pRun_ok (tb := tab) (n := 124) tabOk 1 _ _ hf rfl rfl fun a hf => ?_
            refine wl_end ?_
            refine then_n ?_
            refine sq ?_
            refine sq ?_
            obtain ⟨c12, hGc12, hF⟩ := bind_some hF
            refine mid (fun a w => Fr a 124 [(0, (.slice A aLine.length c)), (1, (.slice A2 aList.length c2)), (2, (.int .i64 aLaunch)), (8, (.slice A5 y5.1.length c5)), (9, (.bool y5.2)), (12, (.slice A8 y8.1.length c8)), (86, (.bool c12))] ∧ Mem ⟨w0, []⟩ S [] [] [⟨F11, MP.own F11 [(.slice A8 y8.1.length c8)] (y8.1 : List Int)⟩, ⟨F5, MP.own F5 [(.slice A5 y5.1.length c5)] (y5.1 : List Int)⟩] [(true, MP.val [(.slice A5 y5.1.length c5)] (y5.1 : List Int)), (true, MP.val [(.slice A8 y8.1.length c8)] (y8.1 : List Int)), (false, MP.val [(.slice A2 aList.length c2)] (aList : List Amplifier)), (false, MP.val [(.slice A aLine.length c)] (aLine : List Span))] w) ?_ ?_
            · refine reg ?_
              refine pRun_ok (tb := tab) (n := 124) tabOk 3 _ _ hf rfl rfl fun a hf => ?_
              refine (Bool.eq_false_or_eq_true (decide (y15.1 < 0))).elim (fun hc7 => ?_) (fun hc7 => ?_)
              · rw [if_pos hc7] at hGc12
                have hf := hf.lit 76 rfl hc7
                refine pRun_ok (tb := tab) (n := 124) tabOk 10 _ _ hf rfl rfl fun a hf => ?_
                obtain rfl := Option.some.inj hGc12
                have hf := hf.prune [0, 1, 2, 8, 9, 12, 86] rfl
                have H := H.let [] [] [false, false, false, false, true, true] [0, 1, 6, 7]
                exact wl_end ⟨hf, H⟩
              · rw [if_neg (nt hc7)] at hGc12
                have hf := hf.lit 76 rfl hc7
                refine pRun_ok (tb := tab) (n := 124) tabOk 2 _ _ hf rfl rfl fun a hf => ?_
                obtain ⟨y16, hy16, hGc12⟩ := bind_some hGc12
                refine wlg hf rfl rfl rfl (op_call hf TF.cl43 rfl (by decide) (laws_eqIntS_ok (S := fun _ => True) (mk_list (rep_true (α := List Int) (H.get 1 rfl))) (mk_list (rep_true (α := List Int) (H.get 0 rfl))) hy16) fun v20 w a hp26 hf => ?_)
                obtain ⟨hb14, hp26⟩ := hp26
                obtain rfl := VR_bool hp26
                have H := H.keep hb14
                refine pRun_ok (tb := tab) (n := 124) tabOk 3 _ _ hf rfl rfl fun a hf => ?_
                refine (Bool.eq_false_or_eq_true (!y16)).elim (fun hc8 => ?_) (fun hc8 => ?_)
                · rw [if_pos hc8] at hGc12
                  have hf := hf.lit 82 rfl hc8
                  refine pRun_ok (tb := tab) (n := 124) tabOk 4 _ _ hf rfl rfl fun a hf => ?_
                  obtain rfl := Option.some.inj hGc12
                  have hf := hf.prune [0, 1, 2, 8, 9, 12, 86] rfl
                  have H := H.let [] [] [false, false, false, false, true, true] [0, 1, 6, 7]
                  exact wl_end ⟨hf, H⟩
                · rw [if_neg (nt hc8)] at hGc12
                  have hf := hf.lit 82 rfl hc8
                  refine pRun_ok (tb := tab) (n := 124) tabOk 4 _ _ hf rfl rfl fun a hf => ?_
                  obtain rfl := Option.some.inj hGc12
                  have hf := hf.prune [0, 1, 2, 8, 9, 12, 86] rfl
                  have H := H.let [] [] [false, false, false, false, true, true] [0, 1, 6, 7]
                  exact wl_end ⟨hf, H⟩
            rintro a w ⟨hf, H⟩
            refine then_n ?_
            refine (Bool.eq_false_or_eq_true (c12)).elim (fun hc9 => ?_) (fun hc9 => ?_)
            · rw [if_pos hc9] at hF
              refine cd_t hf rfl hc9 ?_
              refine sq ?_
              refine reg ?_
              refine pRun_ok (tb := tab) (n := 124) tabOk 1 _ _ hf rfl rfl fun a hf => ?_
              refine wl_end ?_
              refine then_n ?_
              refine wp_ret (then_r (?_))
              obtain rfl := Option.some.inj hF
              refine ret_1 (fn := Try.f22) (r := .tmp 6) hf rfl (rv_tmp hf rfl) ?_
              exact ⟨_, rfl, H.bel, mk_bool⟩
            · rw [if_neg (nt hc9)] at hF
              refine cd_f hf rfl hc9 ?_
              refine wp_skip ?_
              refine then_n ?_
              refine sq ?_
              refine reg ?_
              refine pRun_ok (tb := tab) (n := 124) tabOk 1 _ _ hf rfl rfl fun a hf => ?_
              refine wl_end ?_
              refine then_n ?_
              refine sq ?_
              refine reg ?_
              refine pRun_ok (tb := tab) (n := 124) tabOk 2 _ _ hf rfl rfl fun a hf => ?_
              obtain ⟨y17, hy17, hF⟩ := bind_some hF
              refine wl0 rfl (op_call hf TF.cl44 rfl (by decide) (laws_markIntS_ok (S := fun _ => True) (F := F11) (cs := [(.slice A8 y8.1.length c8)]) (H.ownAt 0 rfl) H.diNd.1 mk_int hy17) fun v21 w a hp27 hf => ?_)
              obtain ⟨hch3, hv3, F19, ho3, hbk3⟩ := hp27
              obtain rfl := VR_int hv3
              have H := H.wrote rfl hch3 ho3 hbk3
              have H := H.arg (p := MP.val [(.slice A aLine.length c)] aLine) hl
              have H := H.arg (p := MP.val [(.slice A2 aList.length c2)] aList) hl2
              have H := H.lend 0 rfl
              have H := H.lend 1 rfl
              refine pRun_ok (tb := tab) (n := 124) tabOk 1 _ _ hf rfl rfl fun a hf => ?_
              refine wl_end ?_
              refine then_n ?_
              refine sq ?_
              refine reg ?_
              refine pRun_ok (tb := tab) (n := 124) tabOk 1 _ _ hf rfl rfl fun a hf => ?_
              refine wl_end ?_
              refine then_n ?_
              refine sq ?_
              refine reg ?_
              refine pRun_ok (tb := tab) (n := 124) tabOk 2 _ _ hf rfl rfl fun a hf => ?_
              obtain ⟨y18, hy18, hF⟩ := bind_some hF
              refine wl0 rfl (op_call hf TF.cl45 rfl (by decide) (laws_heldIntS_ok (S := fun _ => True) (mk_list (rep_true (α := List Int) (H.get 1 rfl))) mk_int hy18) fun v22 w a hp28 hf => ?_)
              obtain ⟨hb15, hp28⟩ := hp28
              obtain rfl := VR_int hp28
              have H := H.keep hb15
              refine pRun_ok (tb := tab) (n := 124) tabOk 1 _ _ hf rfl rfl fun a hf => ?_
              refine wl_end ?_
              refine then_n ?_
              refine sq ?_
              refine sq ?_
              refine reg ?_
              refine pRun_ok (tb := tab) (n := 124) tabOk 2 _ _ hf rfl rfl fun a hf => ?_
              refine wl_end ?_
              refine then_n ?_
              refine (Bool.eq_false_or_eq_true (decide (y18 < 0))).elim (fun hc10 => ?_) (fun hc10 => ?_)
              · rw [if_pos hc10] at hF
                refine cd_t hf rfl hc10 ?_
                refine sq ?_
                refine reg ?_
                refine pRun_ok (tb := tab) (n := 124) tabOk 1 _ _ hf rfl rfl fun a hf => ?_
                have hf := hf.prune [6] rfl
                refine wl_end ?_
                refine then_n ?_
                refine wp_ret (then_r (?_))
                obtain rfl := Option.some.inj hF
                refine ret_1 (fn := Try.f22) (r := .tmp 6) hf rfl (rv_tmp hf rfl) ?_
                exact ⟨_, rfl, H.bel, mk_bool⟩
              · rw [if_neg (nt hc10)] at hF
                refine cd_f hf rfl hc10 ?_
                refine wp_skip ?_
                refine then_n ?_
                refine sq ?_
                refine sq ?_
                refine reg ?_
                refine pRun_ok (tb := tab) (n := 124) tabOk 3 _ _ hf rfl rfl fun a hf => ?_
                refine wl_end ?_
                refine then_n ?_
                refine (Bool.eq_false_or_eq_true (y18 != y17.1)).elim (fun hc11 => ?_) (fun hc11 => ?_)
                · rw [if_pos hc11] at hF
                  refine cd_t hf rfl hc11 ?_
                  refine sq ?_
                  refine reg ?_
                  refine pRun_ok (tb := tab) (n := 124) tabOk 1 _ _ hf rfl rfl fun a hf => ?_
                  have hf := hf.prune [6] rfl
                  refine wl_end ?_
                  refine then_n ?_
                  refine wp_ret (then_r (?_))
                  obtain rfl := Option.some.inj hF
                  refine ret_1 (fn := Try.f22) (r := .tmp 6) hf rfl (rv_tmp hf rfl) ?_
                  exact ⟨_, rfl, H.bel, mk_bool⟩
                · rw [if_neg (nt hc11)] at hF
                  refine cd_f hf rfl hc11 ?_
                  refine wp_skip ?_
                  refine then_n ?_
                  refine sq ?_
                  refine reg ?_
                  refine pRun_ok (tb := tab) (n := 124) tabOk 1 _ _ hf rfl rfl fun a hf => ?_
                  obtain ⟨y19, hy19, hF⟩ := bind_some hF
                  refine wl0 rfl (op_call hf TF.cl82 rfl (by decide) (laws_toSpanS_ok (S := fun _ => True) (mk_list (rep_true (α := List Span) (H.get 3 rfl))) hy19) fun v23 w a hp29 hf => ?_)
                  obtain ⟨hb16, F20, hp30, hN9⟩ := hp29
                  obtain ⟨A11, c13, rfl, hl11⟩ := VO_list hp30
                  have H := H.addOwn hb16 (X := [(⟨F20, MP.own F20 [(.slice A11 y19.length c13)] (y19 : List Span)⟩ : DI)]) (by simpa using hN9.1) (ps1 hl11 ps0) (by simpa using hN9.2)
                  have H := H.lend 0 rfl
                  refine pRun_ok (tb := tab) (n := 124) tabOk 1 _ _ hf rfl rfl fun a hf => ?_
                  obtain ⟨y20, hy20, hF⟩ := bind_some hF
                  refine wl0 rfl (op_call hf TF.cl56 rfl (by decide) (laws_toAmplifierS_ok (S := fun _ => True) (mk_list (rep_true (α := List Amplifier) (H.get 3 rfl))) hy20) fun v24 w a hp31 hf => ?_)
                  obtain ⟨hb17, F22, hp32, hN10⟩ := hp31
                  obtain ⟨A12, c14, rfl, hl12⟩ := VO_list hp32
                  have H := H.addOwn hb17 (X := [(⟨F22, MP.own F22 [(.slice A12 y20.length c14)] (y20 : List Amplifier)⟩ : DI)]) (by simpa using hN10.1) (ps1 hl12 ps0) (by simpa using hN10.2)
                  have H := H.lend 0 rfl
                  refine pRun_ok (tb := tab) (n := 124) tabOk 1 _ _ hf rfl rfl fun a hf => ?_
                  obtain ⟨y21, hy21, hF⟩ := bind_some hF
                  refine wl0 rfl (op_call hf TF.cl94 rfl (by decide) (impl_PowerProfile_ok (S := fun _ => True) (mk_list (rep_true (α := List Span) (H.get 1 rfl))) (mk_list (rep_true (α := List Amplifier) (H.get 0 rfl))) mk_int hy21) fun v25 w a hp33 hf => ?_)
                  obtain ⟨hb18, F24, v26, v27, rfl, hp34, hp35, hN11⟩ := hp33
                  obtain ⟨A13, c15, rfl, hl13⟩ := VO_list hp34
                  obtain rfl := VR_bool hp35
                  have H := H.addOwn hb18 (X := [(⟨F24, MP.own F24 [(.slice A13 y21.1.length c15)] (y21.1 : List Int)⟩ : DI)]) (by simpa using hN11.1) (ps1 hl13 ps0) (by simpa using hN11.2)
                  have H := H.lend 0 rfl
                  refine pRun_ok (tb := tab) (n := 124) tabOk 5 _ _ hf rfl rfl fun a hf => ?_
                  have hf := hf.prune [8, 9, 12, 15, 17, 18] rfl
                  refine wl_end ?_
                  refine then_n ?_
                  refine sq ?_
                  refine sq ?_
                  obtain ⟨c16, hGc16, hF⟩ := bind_some hF
                  refine mid (fun a w => Fr a 124 [(12, (.slice A8 y8.1.length c8)), (15, (.int .i64 y17.1)), (115, (.bool c16))] ∧ Mem ⟨w0, []⟩ S [] [] [⟨F19, MP.own F19 [(.slice A8 y8.1.length c8)] (y17.2 : List Int)⟩] [(true, MP.val [(.slice A8 y8.1.length c8)] (y17.2 : List Int))] w) ?_ ?_
                  · refine reg ?_
                    refine pRun_ok (tb := tab) (n := 124) tabOk 2 _ _ hf rfl rfl fun a hf => ?_
                    obtain ⟨y22, hy22, hGc16⟩ := bind_some hGc16
                    refine wl0 rfl (op_call hf TF.cl43 rfl (by decide) (laws_eqIntS_ok (S := fun _ => True) (mk_list (rep_true (α := List Int) (H.get 0 rfl))) (mk_list (rep_true (α := List Int) (H.get 3 rfl))) hy22) fun v28 w a hp36 hf => ?_)
                    obtain ⟨hb19, hp36⟩ := hp36
                    obtain rfl := VR_bool hp36
                    have H := H.keep hb19
                    refine pRun_ok (tb := tab) (n := 124) tabOk 2 _ _ hf rfl rfl fun a hf => ?_
                    refine (Bool.eq_false_or_eq_true (!y22)).elim (fun hc12 => ?_) (fun hc12 => ?_)
                    · rw [if_pos hc12] at hGc16
                      have hf := hf.lit 111 rfl hc12
                      refine pRun_ok (tb := tab) (n := 124) tabOk 4 _ _ hf rfl rfl fun a hf => ?_
                      obtain rfl := Option.some.inj hGc16
                      have hf := hf.prune [12, 15, 115] rfl
                      have H := H.let [] [] [false, false, false, true, false] [4]
                      exact wl_end ⟨hf, H⟩
                    · rw [if_neg (nt hc12)] at hGc16
                      have hf := hf.lit 111 rfl hc12
                      refine pRun_ok (tb := tab) (n := 124) tabOk 4 _ _ hf rfl rfl fun a hf => ?_
                      obtain rfl := Option.some.inj hGc16
                      have hf := hf.prune [12, 15, 115] rfl
                      have H := H.let [] [] [false, false, false, true, false] [4]
                      exact wl_end ⟨hf, H⟩
                  rintro a w ⟨hf, H⟩
                  refine then_n ?_
                  refine (Bool.eq_false_or_eq_true (c16)).elim (fun hc13 => ?_) (fun hc13 => ?_)
                  · rw [if_pos hc13] at hF
                    refine cd_t hf rfl hc13 ?_
                    refine sq ?_
                    refine reg ?_
                    refine pRun_ok (tb := tab) (n := 124) tabOk 1 _ _ hf rfl rfl fun a hf => ?_
                    refine wl_end ?_
                    refine then_n ?_
                    refine wp_ret (then_r (?_))
                    obtain rfl := Option.some.inj hF
                    refine ret_1 (fn := Try.f22) (r := .tmp 6) hf rfl (rv_tmp hf rfl) ?_
                    exact ⟨_, rfl, H.bel, mk_bool⟩
                  · rw [if_neg (nt hc13)] at hF
                    refine cd_f hf rfl hc13 ?_
                    refine wp_skip ?_
                    refine then_n ?_
                    refine sq ?_
                    refine reg ?_
                    refine pRun_ok (tb := tab) (n := 124) tabOk 1 _ _ hf rfl rfl fun a hf => ?_
                    refine wl_end ?_
                    refine then_n ?_
                    refine sq ?_
                    refine reg ?_
                    refine pRun_ok (tb := tab) (n := 124) tabOk 2 _ _ hf rfl rfl fun a hf => ?_
                    obtain ⟨y23, hy23, hF⟩ := bind_some hF
                    refine wl0 rfl (op_call hf TF.cl45 rfl (by decide) (laws_heldIntS_ok (S := fun _ => True) (mk_list (rep_true (α := List Int) (H.get 0 rfl))) mk_int hy23) fun v29 w a hp37 hf => ?_)
                    obtain ⟨hb20, hp37⟩ := hp37
                    obtain rfl := VR_int hp37
                    have H := H.keep hb20
                    refine pRun_ok (tb := tab) (n := 124) tabOk 1 _ _ hf rfl rfl fun a hf => ?_
                    refine wl_end ?_
                    refine then_n ?_
                    refine sq ?_
                    refine sq ?_
                    refine reg ?_
                    refine pRun_ok (tb := tab) (n := 124) tabOk 2 _ _ hf rfl rfl fun a hf => ?_
                    refine wl_end ?_
                    refine then_n ?_
                    refine (Bool.eq_false_or_eq_true (decide (y23 < 0))).elim (fun hc14 => ?_) (fun hc14 => ?_)
                    · rw [if_pos hc14] at hF
                      refine cd_t hf rfl hc14 ?_
                      refine sq ?_
                      refine reg ?_
                      refine pRun_ok (tb := tab) (n := 124) tabOk 1 _ _ hf rfl rfl fun a hf => ?_
                      refine wl_end ?_
                      refine then_n ?_
                      refine wp_ret (then_r (?_))
                      obtain rfl := Option.some.inj hF
                      refine ret_1 (fn := Try.f22) (r := .tmp 6) hf rfl (rv_tmp hf rfl) ?_
                      exact ⟨_, rfl, H.bel, mk_bool⟩
                    · rw [if_neg (nt hc14)] at hF
                      refine cd_f hf rfl hc14 ?_
                      refine wp_skip ?_
                      refine then_n ?_
                      refine sq ?_
                      refine sq ?_
                      refine reg ?_
                      refine pRun_ok (tb := tab) (n := 124) tabOk 3 _ _ hf rfl rfl fun a hf => ?_
                      refine wl_end ?_
                      refine then_n ?_
                      refine (Bool.eq_false_or_eq_true (y23 != y17.1)).elim (fun hc15 => ?_) (fun hc15 => ?_)
                      · rw [if_pos hc15] at hF
                        refine cd_t hf rfl hc15 ?_
                        refine sq ?_
                        refine reg ?_
                        refine pRun_ok (tb := tab) (n := 124) tabOk 1 _ _ hf rfl rfl fun a hf => ?_
                        refine wl_end ?_
                        refine then_n ?_
                        refine wp_ret (then_r (?_))
                        obtain rfl := Option.some.inj hF
                        refine ret_1 (fn := Try.f22) (r := .tmp 6) hf rfl (rv_tmp hf rfl) ?_
                        exact ⟨_, rfl, H.bel, mk_bool⟩
                      · rw [if_neg (nt hc15)] at hF
                        refine cd_f hf rfl hc15 ?_
                        refine wp_skip ?_
                        refine then_n ?_
                        refine sq ?_
                        refine reg ?_
                        refine pRun_ok (tb := tab) (n := 124) tabOk 1 _ _ hf rfl rfl fun a hf => ?_
                        refine wl_end ?_
                        refine then_n ?_
                        refine wp_ret (?_)
                        obtain rfl := Option.some.inj hF
                        refine ret_1 (fn := Try.f22) (r := .tmp 6) hf rfl (rv_tmp hf rfl) ?_
                        exact ⟨_, rfl, H.bel, mk_bool⟩
end AT
