/- The Go functions do what is told of them, by program (gen.py). -/
import Derived.Test.YtiedecncmihbeaaWC1
set_option linter.unusedVariables false
set_option linter.unusedSimpArgs false
set_option maxRecDepth 100000
set_option maxHeartbeats 1000000
namespace AT
open Go Go.RowKit Go.Proofs
variable {fu : Nat} {w0 : World}
theorem spec_l1Own_ok {S : Nat → Prop} {v0_ : Value} {l : List Int} {r : List Int} (h0 : VR w0 S v0_ l) (hF : spec_l1Own fu l = some r) :
    Calls Try.prog 49 [v0_].toArray w0 fun e w' => ∃ v, e = .returned v ∧ (Below w0.heap.size w0 w' ∧ ∃ F0, VO w' F0 v r ∧ New w0 w' F0) := by
 obtain ⟨A, c, rfl, hl⟩ := VR_list h0
 have H := Mem.start ⟨w0, []⟩ S
 have H := H.pA hl
 refine en Try.func49 fun a hf => ?_
 rw [spec_l1Own] at hF
 refine sqz (pz 1 hf fun a hf => ?_)
 refine wr (wl0 rfl (bl hf H 3 ([] : List Int) [] el0 fun A2 a w hf H => ?_))
 refine pz 1 hf fun a hf => ?_
 obtain ⟨l2, hl2_, hF⟩ := bs_ hF
 have H := H.rowWeak 0 rfl
 refine wl0 rfl (op_appI hf H Try.underlying26 TF.ai3 rfl (by decide) 0 0 rfl rfl rfl rfl (.inl rfl) hl2_ (by decide) fun E A3 c2 a w hf H => ?_)
 have H := H.rowOwn 0 rfl rfl
 have H := H.rowSh 0 rfl
 refine pz 1 hf fun a hf => ?_
 refine wer ?_
 have H := H.rowOwn 0 rfl rfl
 obtain ⟨F, H⟩ := H.freezeOwn 0 rfl
 have H := H.lend 0 rfl
 obtain rfl := oi hF
 refine rT hf ?_
 have hN := H.ends1
 exact ⟨_, rfl, H.bel, F, (mko_list (H.ownAt 0 rfl)), hN⟩
theorem spec_l19Choose_B_ok {fu : Nat} {rec_ : (Network) → (Int) → (List Int) → (Int) → (Int) → Option (List Int × Bool)} (ih : ∀ {w0 : World} {S : Nat → Prop} {v0_ : Value} {v1_ : Value} {v2_ : Value} {v3_ : Value} {v4_ : Value} {n' : Network} {reach : Int} {sites : List Int} {from' : Int} {k' : Int} {r : List Int × Bool} (h0 : VR w0 S v0_ n') (h1 : VR w0 S v1_ reach) (h2 : VR w0 S v2_ sites) (h3 : VR w0 S v3_ from') (h4 : VR w0 S v4_ k') (hF : rec_ n' reach sites from' k' = some r), Calls Try.prog 31 [v0_, v1_, v2_, v3_, v4_].toArray w0 fun e w' => ∃ v, e = .returned v ∧ (Below w0.heap.size w0 w' ∧ ∃ u0 u1, v = .tuple #[u0, u1] ∧ (VR w' (St ⟨w0, []⟩ S [] [] [] true) u0 r.1 ∨ (u0 = v2_ ∧ r.1 = sites)) ∧ VR w' (St ⟨w0, []⟩ S [] [] [] true) u1 r.2)) {w0 : World} {S : Nat → Prop} {v0_ : Value} {v1_ : Value} {v2_ : Value} {v3_ : Value} {v4_ : Value} {n' : Network} {reach : Int} {sites : List Int} {from' : Int} {k' : Int} {r : List Int × Bool} (h0 : VR w0 S v0_ n') (h1 : VR w0 S v1_ reach) (h2 : VR w0 S v2_ sites) (h3 : VR w0 S v3_ from') (h4 : VR w0 S v4_ k') (hF : spec_l19Choose_B fu rec_ n' reach sites from' k' = some r) :
    Calls Try.prog 31 [v0_, v1_, v2_, v3_, v4_].toArray w0 fun e w' => ∃ v, e = .returned v ∧ (Below w0.heap.size w0 w' ∧ ∃ u0 u1, v = .tuple #[u0, u1] ∧ (VR w' (St ⟨w0, []⟩ S [] [] [] true) u0 r.1 ∨ (u0 = v2_ ∧ r.1 = sites)) ∧ VR w' (St ⟨w0, []⟩ S [] [] [] true) u1 r.2) := by
 obtain ⟨A, c, A2, c2, rfl, hl, hl2⟩ := Network_open h0
 obtain rfl := VR_int h1
 obtain ⟨A3, c3, rfl, hl3⟩ := VR_list h2
 obtain rfl := VR_int h3
 obtain rfl := VR_int h4
 have H := Mem.start ⟨w0, []⟩ S
 have H := H.pA hl
 have H := H.pA hl2
 have H := H.pA hl3
 refine en Try.func31 fun a hf => ?_
 rw [spec_l19Choose_B] at hF
 refine bx hf H fun b' a w hf H => ?_
 refine pz 2 hf fun a hf => ?_
 refine we (sqz (pz 2 hf fun a hf => ?_))
 refine wl_end (then_n (ib hF hf (fun hc hF => ?_) fun hc hF => ?_))
 ·refine sqz (pz 1 hf fun a hf => ?_)
  refine lN 0 hf H TF.la32 fun a hf => ?_
  refine pz 2 hf fun a hf => ?_
  obtain ⟨y, hy, hF⟩ := bs_ hF
  refine oc hf TF.cl22 (spec_l19Connect_ok (S := TT) (Network_mkv (x := n') (H.rt 2 rfl) (H.rt 1 rfl)) (mk_list (H.rt 0 rfl)) mk_int hy) fun v w a hp hf => ?_
  obtain ⟨hb, hp⟩ := hp
  obtain rfl := VR_bool hp
  have H := H.keep hb
  refine pz 2 hf fun a hf => ?_
  have hf := hf.pn [10, 11]
  refine wl_end (then_n (wp_ret (then_r (?_))))
  obtain rfl := oi hF
  refine ret_2 hf rfl (rv_tmp hf rfl) (rv_tmp hf rfl) ?_
  exact ⟨_, rfl, H.bel, _, _, rfl, (.inr ⟨rfl, rfl⟩), mk_bool⟩
 ·refine wp_skip (then_n (sq (sqz (pz 2 hf fun a hf => ?_))))
  refine wl_end (then_n ?_)
  obtain ⟨out', hB1, hF⟩ := bs_ hF
  have hf := hf.pn [1, 2, 4, 5, 12]
  have H := H.lt_ [true] [] [] [0, 1, 2]
  refine loopC (fun (s : Int) (a : Act) (w : World) => match s with | i => Fr a 50 [(1, (.int .i64 reach)), (2, (.slice A3 sites.length c3)), (4, (.int .i64 k')), (5, (.pointer (some ⟨b', 0, none⟩))), (12, (.int .i64 i))] ∧ Mem ⟨w0, []⟩ S [⟨b', 32, [(.slice A n'.Nodes.length c), (.slice A2 n'.Fibers.length c2)]⟩] [] [] [(false, MP.val [(.slice A3 sites.length c3)] (sites : List Int)), (false, MP.val [(.slice A2 n'.Fibers.length c2)] (n'.Fibers : List Fiber)), (false, MP.val [(.slice A n'.Nodes.length c)] (n'.Nodes : List ByteArray))] w) (fun k (s : Int) => spec_l19Choose_L1 fu n' reach sites k' rec_ k s = some out') (fun s => out' = Out.next s) from' fu hB1 ⟨hf, H⟩ (fun s h => by cases h) ?_ ?_
  ·rintro fk i a w hR1 hI
   replace hR1 : spec_l19Choose_L1 fu n' reach sites k' rec_ (fk + 1) i = some out' := hR1
   rw [spec_l19Choose_L1] at hR1
   obtain ⟨hf, H⟩ := hI
   refine sq (sqz (pz 4 hf fun a hf => ?_))
   refine lB 0 hf H TF.ls22 fun a hf => ?_
   refine pz 2 hf fun a hf => ?_
   refine wl_end (then_n (ib hR1 hf (fun hc2 hR1 => ?_) fun hc2 hR1 => ?_))
   ·refine wp_skip (then_n (sq (wp_block (sq ?_))))
    obtain ⟨y2, hy2, hR1⟩ := bs_ hR1
    obtain ⟨l, hl_, hR1⟩ := bs_ hR1
    obtain ⟨y3, hy3, hR1⟩ := bs_ hR1
    refine mid (fun a w => ∃ (A7 : Option Addr) (c6 : Nat), Fr a 50 [(1, (.int .i64 reach)), (2, (.slice A3 sites.length c3)), (4, (.int .i64 k')), (5, (.pointer (some ⟨b', 0, none⟩))), (12, (.int .i64 i)), (13, (.slice A7 y3.1.length c6)), (14, (.bool y3.2))] ∧ Mem ⟨w0, []⟩ S [⟨b', 32, [(.slice A n'.Nodes.length c), (.slice A2 n'.Fibers.length c2)]⟩] [] [] [(true, MP.val [(.slice A7 y3.1.length c6)] (y3.1 : List Int)), (false, MP.val [(.slice A3 sites.length c3)] (sites : List Int)), (false, MP.val [(.slice A2 n'.Fibers.length c2)] (n'.Fibers : List Fiber)), (false, MP.val [(.slice A n'.Nodes.length c)] (n'.Nodes : List ByteArray))] w) ?_ ?_
    ·refine dw [] 17 fun w hb => ?_
     have H := H.keep hb
     refine strT (H.lt_ [true] [] [] []) (fun w H => trivial) fun hS => ?_
     refine zS 0 [] rfl rfl rfl rfl hf hS (fun w H => rq_loadBN hf H TF.la32 0 rfl rfl rfl rfl) fun a hf => ?_
     refine zp 1 hf hS fun a hf => ?_
     refine zp 2 hf hS fun a hf => ?_
     refine zp 4 hf hS fun a hf => ?_
     refine zp 7 hf hS fun a hf => ?_
     refine zp 8 hf hS fun a hf => ?_
     refine zp 9 hf hS fun a hf => ?_
     refine zp 10 hf hS fun a hf => ?_
     refine on2 (i := 3) (j := 5) (bi := [true, true, true, true, true, false, false, true, true, true, true, false, false, false, false, false, false]) (bj := [true, true, true, false, true, true, false, true, true, true, true, false, false, false, false, false, false]) (by kernel_rfl) rfl rfl rfl rfl rfl rfl ?_ ?_
     ·refine (oC hf TF.cl49 (spec_l1Own_ok (S := TT) (mk_list (H.rt 0 rfl)) hy2) fun v2 w a hp2 hf => ?_)
      obtain ⟨hb2, F, hp3, hN⟩ := hp2
      obtain ⟨A4, c4, rfl, hl4⟩ := VO_list hp3
      have H := H.aO1 hb2 hN hl4
      have H := H.lend 0 rfl
      have hS := H.lt_ [true] [] [false] []
      refine aS hS ?_
      refine nn 5 rfl (bl hf H 3 ([i] : List Int) [(.int .i64 i)] (el1 (y := i) (rfl)) fun A5 a w hf H => ?_)
      have hS := H.lt_ [true] [false] [false] []
      refine aS hS ?_
      obtain ⟨Fs, E, H, -⟩ := H.thaw rfl
      have H := H.rowSh 0 rfl
      have H := H.pA hl
      have H := H.pA hl2
      have H := H.pA hl3
      refine nn 6 rfl (op_appR hf H Try.underlying26 TF.ai3 rfl (by decide) 0 1 rfl rfl rfl rfl (.inr rfl) hl_ (by decide) fun E2 A6 c5 a w hf H => ?_)
      have hS := H.lt_ [true] [false, false] [] []
      refine aS hS ?_
      have H := H.freeze 0 rfl
      refine nn 11 rfl (oC hf TF.cl31 (ih (S := TT) (Network_mkv (x := n') (H.rt 3 rfl) (H.rt 2 rfl)) mk_int (mk_list (H.rt 0 rfl)) mk_int mk_int hy3) fun v3 w a hp4 hf => ?_)
      obtain ⟨hb3, v4, v5, rfl, hp5, hp6⟩ := hp4
      replace hp5 := H.thru hb3 0 rfl hp5
      obtain ⟨A7, c6, rfl, hl5⟩ := VR_list hp5
      obtain rfl := VR_bool hp6
      have H := H.keep hb3
      have H := H.pT hl5
      have hS := H.lt_ [true] [false] [] []
      refine aS hS ?_
      refine zp 12 hf hS fun a hf => ?_
      refine zp 13 hf hS fun a hf => ?_
      refine zp 14 hf hS fun a hf => ?_
      refine zp 15 hf hS fun a hf => ?_
      refine zp 16 hf hS fun a hf => ?_
      refine dk ?_
      have hf := hf.pn [1, 2, 4, 5, 12, 13, 14]
      have H := H.lt_ [true] [false] [] [0, 2, 3, 4]
      exact ⟨A7, c6, hf, H⟩
     ·refine (bl hf H 3 ([i] : List Int) [(.int .i64 i)] (el1 (y := i) (rfl)) fun A4 a w hf H => ?_)
      have hS := H.lt_ [true] [false] [] []
      refine aS hS ?_
      refine nn 3 rfl (oC hf TF.cl49 (spec_l1Own_ok (S := TT) (mk_list (H.rt 0 rfl)) hy2) fun v2 w a hp2 hf => ?_)
      obtain ⟨hb2, F, hp3, hN⟩ := hp2
      obtain ⟨A5, c4, rfl, hl4⟩ := VO_list hp3
      have H := H.aO1 hb2 hN hl4
      have H := H.lend 0 rfl
      have hS := H.lt_ [true] [false] [false] []
      refine aS hS ?_
      obtain ⟨Fs, E, H, -⟩ := H.thaw rfl
      have H := H.rowSh 0 rfl
      have H := H.pA hl
      have H := H.pA hl2
      have H := H.pA hl3
      refine nn 6 rfl (op_appR hf H Try.underlying26 TF.ai3 rfl (by decide) 0 1 rfl rfl rfl rfl (.inr rfl) hl_ (by decide) fun E2 A6 c5 a w hf H => ?_)
      have hS := H.lt_ [true] [false, false] [] []
      refine aS hS ?_
      have H := H.freeze 0 rfl
      refine nn 11 rfl (oC hf TF.cl31 (ih (S := TT) (Network_mkv (x := n') (H.rt 3 rfl) (H.rt 2 rfl)) mk_int (mk_list (H.rt 0 rfl)) mk_int mk_int hy3) fun v3 w a hp4 hf => ?_)
      obtain ⟨hb3, v4, v5, rfl, hp5, hp6⟩ := hp4
      replace hp5 := H.thru hb3 0 rfl hp5
      obtain ⟨A7, c6, rfl, hl5⟩ := VR_list hp5
      obtain rfl := VR_bool hp6
      have H := H.keep hb3
      have H := H.pT hl5
      have hS := H.lt_ [true] [false] [] []
      refine aS hS ?_
      refine zp 12 hf hS fun a hf => ?_
      refine zp 13 hf hS fun a hf => ?_
      refine zp 14 hf hS fun a hf => ?_
      refine zp 15 hf hS fun a hf => ?_
      refine zp 16 hf hS fun a hf => ?_
      refine dk ?_
      have hf := hf.pn [1, 2, 4, 5, 12, 13, 14]
      have H := H.lt_ [true] [false] [] [0, 2, 3, 4]
      exact ⟨A7, c6, hf, H⟩
    rintro a w ⟨A7, c6, hf, H⟩
    refine then_n (sqz (pz 1 hf fun a hf => ?_))
    refine wl_end (then_n (ib hR1 hf (fun hc3 hR1 => ?_) fun hc3 hR1 => ?_))
    ·refine sqz (pz 3 hf fun a hf => ?_)
     refine wl_end (then_n (wp_ret (blk_r (then_r (then_r (blk_r (then_r (then_r (?_)))))))))
     obtain rfl := oi hR1
     replace hF := on_ret hF
     obtain rfl := oi hF
     refine ret_2 hf rfl (rv_tmp hf rfl) (rv_tmp hf rfl) ?_
     exact ⟨_, rfl, H.bel, _, _, rfl, (.inl (mk_list (rep_end (α := List Int) (H.get 0 rfl)))), mk_bool⟩
    ·refine wp_skip (blk_n (then_n (reg (pz 3 hf fun a hf => ?_))))
     refine wl_end ?_
     have hf := hf.pn [1, 2, 4, 5, 12]
     have H := H.lt_ [true] [] [] [1, 2, 3]
     exact then_n ⟨w64 (i + 1), hR1, hf, H⟩
   ·refine wp_exit (then_x (then_x (blk_e (?_))))
    have hf := hf.pn [1, 2, 4, 5, 12]
    have H := H.lt_ [true] [] [] [0, 1, 2]
    exact ⟨i, (Option.some.inj hR1).symm, hf, H⟩
  rintro a w ⟨i2, rfl, hf, H⟩
  replace hF := on_next hF
  refine then_n (sq (reg (wl0 rfl (bl hf H 3 ([] : List Int) [] el0 fun A8 a w hf H => ?_))))
  refine pz 2 hf fun a hf => ?_
  refine wer ?_
  have H := H.freeze 0 rfl
  obtain rfl := oi hF
  refine ret_2 hf rfl (rv_tmp hf rfl) (rv_tmp hf rfl) ?_
  exact ⟨_, rfl, H.bel, _, _, rfl, (.inl (mk_list (rep_end (α := List Int) (H.get 0 rfl)))), mk_bool⟩
theorem spec_l19Choose_ok {fu : Nat} : ∀ {w0 : World} {S : Nat → Prop} {v0_ : Value} {v1_ : Value} {v2_ : Value} {v3_ : Value} {v4_ : Value} {n' : Network} {reach : Int} {sites : List Int} {from' : Int} {k' : Int} {r : List Int × Bool} (h0 : VR w0 S v0_ n') (h1 : VR w0 S v1_ reach) (h2 : VR w0 S v2_ sites) (h3 : VR w0 S v3_ from') (h4 : VR w0 S v4_ k') (hF : spec_l19Choose fu n' reach sites from' k' = some r), Calls Try.prog 31 [v0_, v1_, v2_, v3_, v4_].toArray w0 fun e w' => ∃ v, e = .returned v ∧ (Below w0.heap.size w0 w' ∧ ∃ u0 u1, v = .tuple #[u0, u1] ∧ (VR w' (St ⟨w0, []⟩ S [] [] [] true) u0 r.1 ∨ (u0 = v2_ ∧ r.1 = sites)) ∧ VR w' (St ⟨w0, []⟩ S [] [] [] true) u1 r.2) := by
  induction fu with
  | zero => intro w0 S v0_ v1_ v2_ v3_ v4_ n' reach sites from' k' r h0 h1 h2 h3 h4 hF; rw [spec_l19Choose] at hF; cases hF
  | succ fu ih => intro w0 S v0_ v1_ v2_ v3_ v4_ n' reach sites from' k' r h0 h1 h2 h3 h4 hF; rw [spec_l19Choose] at hF; exact spec_l19Choose_B_ok (rec_ := fun n' reach sites from' k' => spec_l19Choose fu n' reach sites from' k') (fun h0 h1 h2 h3 h4 hF => ih h0 h1 h2 h3 h4 hF) h0 h1 h2 h3 h4 hF
theorem spec_FewestSites_ok {S : Nat → Prop} {v0_ : Value} {v1_ : Value} {n' : Network} {reach : Int} {r : List Int × Bool × Bool} (h0 : VR w0 S v0_ n') (h1 : VR w0 S v1_ reach) (hF : spec_FewestSites fu n' reach = some r) :
    Calls Try.prog 12 [v0_, v1_].toArray w0 fun e w' => ∃ v, e = .returned v ∧ (Below w0.heap.size w0 w' ∧ ∃ u0 u1 u2, v = .tuple #[u0, u1, u2] ∧ VR w' (St ⟨w0, []⟩ S [] [] [] true) u0 r.1 ∧ VR w' (St ⟨w0, []⟩ S [] [] [] true) u1 r.2.1 ∧ VR w' (St ⟨w0, []⟩ S [] [] [] true) u2 r.2.2) := by
 obtain ⟨A, c, A2, c2, rfl, hl, hl2⟩ := Network_open h0
 obtain rfl := VR_int h1
 have H := Mem.start ⟨w0, []⟩ S
 have H := H.pA hl
 have H := H.pA hl2
 refine en Try.func12 fun a hf => ?_
 rw [spec_FewestSites] at hF
 refine bx hf H fun b' a w hf H => ?_
 refine pz 3 hf fun a hf => ?_
 refine wl_end (then_n (sq (sq ?_)))
 obtain ⟨c3, hGc3, hF⟩ := bs_ hF
 have fh := hf.prune [1, 2] rfl
 have Hm := H.lt_ [true] [] [] [0, 1]
 refine midF 17 (.bool c3) fh Hm ?_ fun a w hf H => ?_
 ·refine reg (lN 0 hf H TF.la32 fun a hf => ?_)
  obtain ⟨y, hy, hGc3⟩ := bs_ hGc3
  refine oc hf TF.cl19 (spec_l2Good_ok (S := TT) (Network_mkv (x := n') (H.rt 1 rfl) (H.rt 0 rfl)) hy) fun v w a hp hf => ?_
  obtain ⟨hb, hp⟩ := hp
  obtain rfl := VR_bool hp
  have H := H.keep hb
  refine pz 2 hf fun a hf => ?_
  refine iteB hGc3 (fun hc hGc3 => ?_) fun hc hGc3 => ?_
  ·have hf := hf.lit 13 rfl hc
   refine pz 4 hf fun a hf => ?_
   obtain rfl := oi hGc3
   have hf := hf.pn [17, 1, 2]
   have H := H.lt_ [true] [] [] [0, 1]
   exact wl_end ⟨hf, H⟩
  ·have hf := hf.lit 13 rfl hc
   refine pz 1 hf fun a hf => ?_
   obtain ⟨y2, hy2, hGc3⟩ := bs_ hGc3
   refine wlg hf rfl rfl rfl (oC hf TF.cl21 (spec_l1In_ok (S := TT) mk_int mk_int mk_int hy2) fun v2 w a hp2 hf => ?_)
   obtain ⟨hb2, hp2⟩ := hp2
   obtain rfl := VR_bool hp2
   have H := H.keep hb2
   refine pz 2 hf fun a hf => ?_
   obtain rfl := oi hGc3
   have hf := hf.pn [17, 1, 2]
   have H := H.lt_ [true] [] [] [0, 1]
   exact wl_end ⟨hf, H⟩
 refine then_n (ib hF hf (fun hc2 hF => ?_) fun hc2 hF => ?_)
 ·refine sq (reg (wl0 rfl (bl hf H 3 ([] : List Int) [] el0 fun A3 a w hf H => ?_)))
  refine pz 3 hf fun a hf => ?_
  refine wl_end (then_n (wp_ret (then_r (?_))))
  have H := H.freeze 0 rfl
  obtain rfl := oi hF
  refine ret_3 hf rfl (rv_tmp hf rfl) (rv_tmp hf rfl) (rv_tmp hf rfl) ?_
  exact ⟨_, rfl, H.bel, _, _, _, rfl, (mk_list (rep_end (α := List Int) (H.get 0 rfl))), mk_bool, mk_bool⟩
 ·refine wp_skip (then_n (sq (sqz (pz 1 hf fun a hf => ?_))))
  refine wl_end (then_n ?_)
  obtain ⟨out', hB1, hF⟩ := bs_ hF
  have hf := hf.pn [1, 2, 7]
  have H := H.lt_ [true] [] [] [0, 1]
  refine loopC (fun (s : Int) (a : Act) (w : World) => match s with | k' => Fr a 37 [(1, (.int .i64 reach)), (2, (.pointer (some ⟨b', 0, none⟩))), (7, (.int .i64 k'))] ∧ Mem ⟨w0, []⟩ S [⟨b', 32, [(.slice A n'.Nodes.length c), (.slice A2 n'.Fibers.length c2)]⟩] [] [] [(false, MP.val [(.slice A2 n'.Fibers.length c2)] (n'.Fibers : List Fiber)), (false, MP.val [(.slice A n'.Nodes.length c)] (n'.Nodes : List ByteArray))] w) (fun k (s : Int) => spec_FewestSites_L1 fu n' reach k s = some out') (fun s => out' = Out.next s) 0 fu hB1 ⟨hf, H⟩ (fun s h => by cases h) ?_ ?_
  ·rintro fk k' a w hR1 hI
   replace hR1 : spec_FewestSites_L1 fu n' reach (fk + 1) k' = some out' := hR1
   rw [spec_FewestSites_L1] at hR1
   obtain ⟨hf, H⟩ := hI
   refine sq (sqz (pz 2 hf fun a hf => ?_))
   refine lB 0 hf H TF.ls22 fun a hf => ?_
   refine pz 2 hf fun a hf => ?_
   refine wl_end (then_n (ib hR1 hf (fun hc3 hR1 => ?_) fun hc3 hR1 => ?_))
   ·refine ws (lN 0 hf H TF.la32 fun a hf => ?_)
    refine pz 1 hf fun a hf => ?_
    refine wl0 rfl (bl hf H 3 ([] : List Int) [] el0 fun A4 a w hf H => ?_)
    refine pz 1 hf fun a hf => ?_
    have H := H.freeze 0 rfl
    obtain ⟨y3, hy3, hR1⟩ := bs_ hR1
    refine oc hf TF.cl31 (spec_l19Choose_ok (S := TT) (Network_mkv (x := n') (H.rt 2 rfl) (H.rt 1 rfl)) mk_int (mk_list (H.rt 0 rfl)) mk_int mk_int hy3) fun v3 w a hp3 hf => ?_
    obtain ⟨hb3, v4, v5, rfl, hp4, hp5⟩ := hp3
    replace hp4 := H.thru hb3 0 rfl hp4
    obtain ⟨A5, c4, rfl, hl3⟩ := VR_list hp4
    obtain rfl := VR_bool hp5
    have H := H.keep hb3
    have H := H.pT hl3
    refine pz 5 hf fun a hf => ?_
    have hf := hf.pn [1, 2, 7, 8, 9]
    refine wr (pz 1 hf fun a hf => ?_)
    refine wl_end (then_n (ib hR1 hf (fun hc4 hR1 => ?_) fun hc4 hR1 => ?_))
    ·refine sqz (pz 4 hf fun a hf => ?_)
     refine wl_end (then_n (wp_ret (blk_r (then_r (then_r (blk_r (then_r (then_r (?_)))))))))
     obtain rfl := oi hR1
     replace hF := on_ret hF
     obtain rfl := oi hF
     refine ret_3 hf rfl (rv_tmp hf rfl) (rv_tmp hf rfl) (rv_tmp hf rfl) ?_
     exact ⟨_, rfl, H.bel, _, _, _, rfl, (mk_list (rep_end (α := List Int) (H.get 0 rfl))), mk_bool, mk_bool⟩
    ·refine wp_skip (blk_n (then_n (reg (pz 3 hf fun a hf => ?_))))
     refine wl_end ?_
     have hf := hf.pn [1, 2, 7]
     have H := H.lt_ [true] [] [] [2, 3]
     exact then_n ⟨w64 (k' + 1), hR1, hf, H⟩
   ·refine wp_exit (then_x (then_x (blk_e (?_))))
    have hf := hf.pn [1, 2, 7]
    have H := H.lt_ [true] [] [] [0, 1]
    exact ⟨k', (Option.some.inj hR1).symm, hf, H⟩
  rintro a w ⟨k2, rfl, hf, H⟩
  replace hF := on_next hF
  refine then_n (sq (reg (wl0 rfl (bl hf H 3 ([] : List Int) [] el0 fun A6 a w hf H => ?_))))
  refine pz 3 hf fun a hf => ?_
  refine wer ?_
  have H := H.freeze 0 rfl
  obtain rfl := oi hF
  refine ret_3 hf rfl (rv_tmp hf rfl) (rv_tmp hf rfl) (rv_tmp hf rfl) ?_
  exact ⟨_, rfl, H.bel, _, _, _, rfl, (mk_list (rep_end (α := List Int) (H.get 0 rfl))), mk_bool, mk_bool⟩
theorem slices_Clone_int_int_ok {S : Nat → Prop} {v0_ : Value} {s' : List Int} {r : List Int} (h0 : VR w0 S v0_ s') (hF : slices_Clone_int_int fu s' = some r) :
    Calls Try.prog 52 [v0_].toArray w0 fun e w' => ∃ v, e = .returned v ∧ (Below w0.heap.size w0 w' ∧ ∃ F0, VO w' F0 v r ∧ New w0 w' F0) := by
 obtain ⟨A, c, rfl, hl⟩ := VR_list h0
 have H := Mem.start ⟨w0, []⟩ S
 have H := H.pA hl
 refine en Try.func52 fun a hf => ?_
 rw [slices_Clone_int_int] at hF
 refine sqz (pz 1 hf fun a hf => ?_)
 refine we (sqz (pz 1 hf fun a hf => ?_))
 cases A with
 | none =>
  have hnil : s' = [] := nil_data (α := Int) (H.get 0 rfl)
  replace hF := nil_case1 hnil hF
  refine oq hf (rq_nilN hf Try.underlying26 rfl rfl) fun a hf => ?_
  refine wl_end (then_n (cd_t hf rfl rfl (sqz (pz 1 hf fun a hf => ?_))))
  refine wl_end (then_n (wp_ret (then_r (?_))))
  have H := H.ownNil (Int)
  have H := H.lend 0 rfl
  obtain rfl := oi hF
  refine rT hf ?_
  have hN := H.ends1
  exact ⟨_, rfl, H.bel, [], (mko_list (H.ownAt 0 rfl)), hN⟩
 | some A2 =>
  replace hF := nil_case2 hF
  refine oq hf (rq_nilS hf Try.underlying26 rfl rfl) fun a hf => ?_
  refine wl_end (then_n (cd_f hf rfl rfl (wp_skip (then_n (sq (reg (wl0 rfl (bl hf H 3 ([] : List Int) [] el0 fun A3 a w hf H => ?_))))))))
  refine pz 1 hf fun a hf => ?_
  obtain ⟨l, hl_, hF⟩ := bs_ hF
  have H := H.rowWeak 0 rfl
  refine wl0 rfl (op_appI hf H Try.underlying26 TF.ai3 rfl (by decide) 0 0 rfl rfl rfl rfl (.inl rfl) hl_ (by decide) fun E A4 c2 a w hf H => ?_)
  have H := H.rowOwn 0 rfl rfl
  have H := H.rowSh 0 rfl
  refine pz 1 hf fun a hf => ?_
  refine wer ?_
  have H := H.rowOwn 0 rfl rfl
  obtain ⟨F, H⟩ := H.freezeOwn 0 rfl
  have H := H.lend 0 rfl
  obtain rfl := oi hF
  refine rT hf ?_
  have hN := H.ends1
  exact ⟨_, rfl, H.bel, F, (mko_list (H.ownAt 0 rfl)), hN⟩
theorem impl_FewestSites_c1_ok {S : Nat → Prop} {v0_ : Value} {b1 o1 : Nat} {cs1 : List Value} {b2 o2 : Nat} {cs2 : List Value} {list : List Int} {cap : Network} {cap2 : Int} {r : Bool} (h0 : VR w0 S v0_ list) (hp1 : (MP.cells ⟨b1, o1, none⟩ cs1).pred w0 S) (hr1 : GoTy.rep w0 S cs1 cap) (hp2 : (MP.cells ⟨b2, o2, none⟩ cs2).pred w0 S) (hr2 : GoTy.rep w0 S cs2 cap2) (hF : impl_FewestSites_c1 fu list cap cap2 = some r) :
    Calls Try.prog 33 [v0_, (.pointer (some ⟨b1, o1, none⟩)), (.pointer (some ⟨b2, o2, none⟩))].toArray w0 fun e w' => ∃ v, e = .returned v ∧ (Below w0.heap.size w0 w' ∧ VR w' (St ⟨w0, []⟩ S [] [] [] true) v r) := by
 obtain ⟨A, c, rfl, hl⟩ := VR_list h0
 obtain ⟨A2, c2, A3, c3, rfl, hl2, hl3⟩ := Network_cells hr1
 obtain rfl := hr2
 have H := Mem.start ⟨w0, []⟩ S
 have H := H.pA hl
 have H := H.pA hl2
 have H := H.pA hl3
 have H := H.pushArg (MP.cells ⟨b1, o1, none⟩ [(.slice A2 cap.Nodes.length c2), (.slice A3 cap.Fibers.length c3)]) hp1
 have H := H.pushArg (MP.cells ⟨b2, o2, none⟩ [(.int .i64 cap2)]) hp2
 refine en Try.func33 fun a hf => ?_
 rw [impl_FewestSites_c1] at hF
 refine sqz (pz 1 hf fun a hf => ?_)
 refine wr (oq hf (rq_loadIN hf H TF.la32 1 0 rfl rfl rfl rfl) fun a hf => ?_)
 refine pz 1 hf fun a hf => ?_
 refine oq hf (rq_loadI hf H TF.ls3 0 0 rfl rfl rfl) fun a hf => ?_
 obtain ⟨y, hy, hF⟩ := bs_ hF
 refine oc hf TF.cl28 (impl_sitesConnect_ok (S := TT) (Network_mkv (x := cap) (H.rt 3 rfl) (H.rt 2 rfl)) (mk_list (H.rt 4 rfl)) mk_int hy) fun v w a hp hf => ?_
 obtain ⟨hb, hp⟩ := hp
 obtain rfl := VR_bool hp
 have H := H.keep hb
 refine pz 1 hf fun a hf => ?_
 refine wer ?_
 obtain rfl := oi hF
 refine rT hf ?_
 exact ⟨_, rfl, H.bel, mk_bool⟩
theorem impl_fewest_c1_ok {S : Nat → Prop} {v0_ : Value} {b1 : Nat} {cs1 : List Value} {F1 : List Nat} {b2 o2 : Nat} {b2_0 o2_0 : Nat} {cs2_0 : List Value} {b2_1 o2_1 : Nat} {cs2_1 : List Value} {list : List Int} {cap : List Int} {cap2 : Network} {cap3 : Int} {r : Bool × List Int} (h0 : VR w0 S v0_ list) (hp1 : w0.heap[b1]? = some (.cells cs1.toArray 26 (0, 0))) (hr1 : GoTy.own w0 F1 cs1 cap) (hn1 : List.Nodup (List.cons b1 F1)) (hS1 : ∀ c ∈ List.cons b1 F1, ¬ S c) (hp2 : (MP.cells ⟨b2, o2, none⟩ [.func (.func 33) #[] #[(.pointer (some ⟨b2_0, o2_0, none⟩)), (.pointer (some ⟨b2_1, o2_1, none⟩))]]).pred w0 S) (hp2_0 : (MP.cells ⟨b2_0, o2_0, none⟩ cs2_0).pred w0 S) (hr2_0 : GoTy.rep w0 S cs2_0 cap2) (hp2_1 : (MP.cells ⟨b2_1, o2_1, none⟩ cs2_1).pred w0 S) (hr2_1 : GoTy.rep w0 S cs2_1 cap3) (hF : impl_fewest_c1 fu list cap cap2 cap3 = some r) :
    Calls Try.prog 51 [v0_, (.pointer (some ⟨b1, 0, none⟩)), (.pointer (some ⟨b2, o2, none⟩))].toArray w0 fun e w' => ∃ v, e = .returned v ∧ (Chg w0 w' (b1 :: F1) ∧ ∃ cs' F', w'.heap[b1]? = some (.cells cs'.toArray 26 (0, 0)) ∧ GoTy.own w' F' cs' r.2 ∧ Back w0 w' F1 F' ∧ b1 ∉ F' ∧ VR w' (fun _ => True) v r.1) := by
 obtain ⟨A, c, rfl, hl⟩ := VR_list h0
 obtain ⟨A2, c2, A3, c3, rfl, hl2, hl3⟩ := Network_cells hr2_0
 obtain rfl := hr2_1
 obtain ⟨A4, c4, rfl, hr1⟩ := own_list hr1
 have H := Mem.startBO S hp1 (show GoTy.own w0 F1 [.slice A4 cap.length c4] cap from hr1) hn1
 have H := H.lend 0 rfl
 have H := H.argB hS1 (p := MP.val [(.slice A list.length c)] list) hl
 have H := H.argB hS1 (p := MP.val [(.slice A2 cap2.Nodes.length c2)] cap2.Nodes) hl2
 have H := H.argB hS1 (p := MP.val [(.slice A3 cap2.Fibers.length c3)] cap2.Fibers) hl3
 have H := H.argB hS1 (p := MP.cells ⟨b2_0, o2_0, none⟩ [(.slice A2 cap2.Nodes.length c2), (.slice A3 cap2.Fibers.length c3)]) hp2_0
 have H := H.argB hS1 (p := MP.cells ⟨b2_1, o2_1, none⟩ [(.int .i64 cap3)]) hp2_1
 have H := H.argB hS1 (p := MP.cells ⟨b2, o2, none⟩ [(.func (.func 33) #[] #[(.pointer (some ⟨b2_0, o2_0 + 0, none⟩)), (.pointer (some ⟨b2_1, o2_1 + 0, none⟩))])]) hp2
 refine en Try.func51 fun a hf => ?_
 rw [impl_fewest_c1] at hF
 refine sqz (pz 1 hf fun a hf => ?_)
 refine wr (pz 1 hf fun a hf => ?_)
 obtain ⟨y, hy, hF⟩ := bs_ hF
 refine oc hf TF.cl52 (slices_Clone_int_int_ok (S := TT) (mk_list (H.rt 5 rfl)) hy) fun v w a hp hf => ?_
 obtain ⟨hb, F2, hp2, hN⟩ := hp
 obtain ⟨A5, c5, rfl, hl4⟩ := VO_list hp2
 have H := H.aO1 hb hN hl4
 have H := H.lend 0 rfl
 refine sB 0 hf H TF.sz26 fun w H => ?_
 refine wr (oq hf (rq_loadI hf H TF.ls57 1 0 rfl rfl rfl) fun a hf => ?_)
 refine pz 1 hf fun a hf => ?_
 obtain ⟨y2, hy2, hF⟩ := bs_ hF
 refine wl0 rfl (op_callV hf TF.cl33 rfl rfl (by decide) (impl_FewestSites_c1_ok (S := TT) (mk_list (H.rt 6 rfl)) (mp_true (H.get 3 rfl)) ((Network_mk (x := cap2) (H.rt 5 rfl) (H.rt 4 rfl))) (mp_true (H.get 2 rfl)) (rfl) hy2) fun v2 w a hp3 hf => ?_)
 obtain ⟨hb2, hp3⟩ := hp3
 obtain rfl := VR_bool hp3
 have H := H.keep hb2
 refine pz 1 hf fun a hf => ?_
 refine wer ?_
 obtain rfl := oi hF
 refine rT hf ?_
 exact ⟨_, rfl, H.chg, _, _, H.boxAt 0 rfl, H.ownAt 0 rfl, (H.endBO 0 rfl).1, (H.endBO 0 rfl).2, mk_bool⟩
theorem impl_choices_of_fewest_c1_B_ok {fu : Nat} {rec_ : (Int) → (Int) → (Int) → (List Int) → (List Int) → (Network) → (Int) → Option (Bool × List Int)} (ih : ∀ {w0 : World} {S : Nat → Prop} {v0_ : Value} {v1_ : Value} {v2_ : Value} {v3_ : Value} {b4_0 : Nat} {cs4_0 : List Value} {F4_0 : List Nat} {b4_1 o4_1 : Nat} {b4_1_0 o4_1_0 : Nat} {cs4_1_0 : List Value} {b4_1_1 o4_1_1 : Nat} {cs4_1_1 : List Value} {from' : Int} {n' : Int} {count : Int} {list : List Int} {cap : List Int} {cap2 : Network} {cap3 : Int} {r : Bool × List Int} (h0 : VR w0 S v0_ from') (h1 : VR w0 S v1_ n') (h2 : VR w0 S v2_ count) (h3 : VR w0 S v3_ list) (hp4_0 : w0.heap[b4_0]? = some (.cells cs4_0.toArray 26 (0, 0))) (hr4_0 : GoTy.own w0 F4_0 cs4_0 cap) (hn4_0 : List.Nodup (List.cons b4_0 F4_0)) (hS4_0 : ∀ c ∈ List.cons b4_0 F4_0, ¬ S c) (hp4_1 : (MP.cells ⟨b4_1, o4_1, none⟩ [.func (.func 33) #[] #[(.pointer (some ⟨b4_1_0, o4_1_0, none⟩)), (.pointer (some ⟨b4_1_1, o4_1_1, none⟩))]]).pred w0 S) (hp4_1_0 : (MP.cells ⟨b4_1_0, o4_1_0, none⟩ cs4_1_0).pred w0 S) (hr4_1_0 : GoTy.rep w0 S cs4_1_0 cap2) (hp4_1_1 : (MP.cells ⟨b4_1_1, o4_1_1, none⟩ cs4_1_1).pred w0 S) (hr4_1_1 : GoTy.rep w0 S cs4_1_1 cap3) (hF : rec_ from' n' count list cap cap2 cap3 = some r), Calls Try.prog 50 [v0_, v1_, v2_, v3_, (.func (.func 51) #[] #[(.pointer (some ⟨b4_0, 0, none⟩)), (.pointer (some ⟨b4_1, o4_1, none⟩))])].toArray w0 fun e w' => ∃ v, e = .returned v ∧ (Chg w0 w' (b4_0 :: F4_0) ∧ ∃ cs' F', w'.heap[b4_0]? = some (.cells cs'.toArray 26 (0, 0)) ∧ GoTy.own w' F' cs' r.2 ∧ Back w0 w' F4_0 F' ∧ b4_0 ∉ F' ∧ VR w' (fun _ => True) v r.1)) {w0 : World} {S : Nat → Prop} {v0_ : Value} {v1_ : Value} {v2_ : Value} {v3_ : Value} {b4_0 : Nat} {cs4_0 : List Value} {F4_0 : List Nat} {b4_1 o4_1 : Nat} {b4_1_0 o4_1_0 : Nat} {cs4_1_0 : List Value} {b4_1_1 o4_1_1 : Nat} {cs4_1_1 : List Value} {from' : Int} {n' : Int} {count : Int} {list : List Int} {cap : List Int} {cap2 : Network} {cap3 : Int} {r : Bool × List Int} (h0 : VR w0 S v0_ from') (h1 : VR w0 S v1_ n') (h2 : VR w0 S v2_ count) (h3 : VR w0 S v3_ list) (hp4_0 : w0.heap[b4_0]? = some (.cells cs4_0.toArray 26 (0, 0))) (hr4_0 : GoTy.own w0 F4_0 cs4_0 cap) (hn4_0 : List.Nodup (List.cons b4_0 F4_0)) (hS4_0 : ∀ c ∈ List.cons b4_0 F4_0, ¬ S c) (hp4_1 : (MP.cells ⟨b4_1, o4_1, none⟩ [.func (.func 33) #[] #[(.pointer (some ⟨b4_1_0, o4_1_0, none⟩)), (.pointer (some ⟨b4_1_1, o4_1_1, none⟩))]]).pred w0 S) (hp4_1_0 : (MP.cells ⟨b4_1_0, o4_1_0, none⟩ cs4_1_0).pred w0 S) (hr4_1_0 : GoTy.rep w0 S cs4_1_0 cap2) (hp4_1_1 : (MP.cells ⟨b4_1_1, o4_1_1, none⟩ cs4_1_1).pred w0 S) (hr4_1_1 : GoTy.rep w0 S cs4_1_1 cap3) (hF : impl_choices_of_fewest_c1_B fu rec_ from' n' count list cap cap2 cap3 = some r) :
    Calls Try.prog 50 [v0_, v1_, v2_, v3_, (.func (.func 51) #[] #[(.pointer (some ⟨b4_0, 0, none⟩)), (.pointer (some ⟨b4_1, o4_1, none⟩))])].toArray w0 fun e w' => ∃ v, e = .returned v ∧ (Chg w0 w' (b4_0 :: F4_0) ∧ ∃ cs' F', w'.heap[b4_0]? = some (.cells cs'.toArray 26 (0, 0)) ∧ GoTy.own w' F' cs' r.2 ∧ Back w0 w' F4_0 F' ∧ b4_0 ∉ F' ∧ VR w' (fun _ => True) v r.1) := by
 obtain rfl := VR_int h0
 obtain rfl := VR_int h1
 obtain rfl := VR_int h2
 obtain ⟨A, c, rfl, hl⟩ := VR_list h3
 obtain ⟨A2, c2, A3, c3, rfl, hl2, hl3⟩ := Network_cells hr4_1_0
 obtain rfl := hr4_1_1
 obtain ⟨A4, c4, rfl, hr4_0⟩ := own_list hr4_0
 have H := Mem.startBO S hp4_0 (show GoTy.own w0 F4_0 [.slice A4 cap.length c4] cap from hr4_0) hn4_0
 have H := H.lend 0 rfl
 have H := H.argB hS4_0 (p := MP.val [(.slice A list.length c)] list) hl
 have H := H.argB hS4_0 (p := MP.val [(.slice A2 cap2.Nodes.length c2)] cap2.Nodes) hl2
 have H := H.argB hS4_0 (p := MP.val [(.slice A3 cap2.Fibers.length c3)] cap2.Fibers) hl3
 have H := H.argB hS4_0 (p := MP.cells ⟨b4_1_0, o4_1_0, none⟩ [(.slice A2 cap2.Nodes.length c2), (.slice A3 cap2.Fibers.length c3)]) hp4_1_0
 have H := H.argB hS4_0 (p := MP.cells ⟨b4_1_1, o4_1_1, none⟩ [(.int .i64 cap3)]) hp4_1_1
 have H := H.argB hS4_0 (p := MP.cells ⟨b4_1, o4_1, none⟩ [(.func (.func 33) #[] #[(.pointer (some ⟨b4_1_0, o4_1_0 + 0, none⟩)), (.pointer (some ⟨b4_1_1, o4_1_1 + 0, none⟩))])]) hp4_1
 refine en Try.func50 fun a hf => ?_
 rw [impl_choices_of_fewest_c1_B] at hF
 refine sqz (pz 1 hf fun a hf => ?_)
 refine we (sqz (pz 2 hf fun a hf => ?_))
 refine wl_end (then_n (ib hF hf (fun hc hF => ?_) fun hc hF => ?_))
 ·refine sqz (pz 2 hf fun a hf => ?_)
  obtain ⟨y, hy, hF⟩ := bs_ hF
  refine wl0 rfl (op_callV hf TF.cl51 rfl rfl (by decide) (impl_fewest_c1_ok (S := NF b4_0 F4_0) (mk_list (H.argNv 0 rfl hS4_0 (α := List Int) hl)) (H.boxAt 0 rfl) (H.ownAt 0 rfl) (H.boNd 0 rfl) (fun _ h1 h2 => h2 h1) (H.argN 0 rfl hS4_0 hp4_1) (H.argN 0 rfl hS4_0 hp4_1_0) ((Network_mk (x := cap2) (H.argNv 0 rfl hS4_0 (α := List ByteArray) hl2) (H.argNv 0 rfl hS4_0 (α := List Fiber) hl3))) (H.argN 0 rfl hS4_0 hp4_1_1) (rfl) hy) fun v w a hp hf => ?_)
  obtain ⟨hch, cs, F2, hbx, ho, hbk, hbF, hv⟩ := hp
  obtain ⟨A5, c5, rfl, ho⟩ := own_list ho
  have H := H.wroteBO 0 rfl rfl hch hbx ho hbk hbF
  have H := H.argB hS4_0 (p := MP.val [(.slice A list.length c)] list) hl
  have H := H.argB hS4_0 (p := MP.val [(.slice A2 cap2.Nodes.length c2)] cap2.Nodes) hl2
  have H := H.argB hS4_0 (p := MP.val [(.slice A3 cap2.Fibers.length c3)] cap2.Fibers) hl3
  have H := H.argB hS4_0 (p := MP.cells ⟨b4_1_0, o4_1_0, none⟩ [(.slice A2 cap2.Nodes.length c2), (.slice A3 cap2.Fibers.length c3)]) hp4_1_0
  have H := H.argB hS4_0 (p := MP.cells ⟨b4_1_1, o4_1_1, none⟩ [(.int .i64 cap3)]) hp4_1_1
  have H := H.argB hS4_0 (p := MP.cells ⟨b4_1, o4_1, none⟩ [(.func (.func 33) #[] #[(.pointer (some ⟨b4_1_0, o4_1_0 + 0, none⟩)), (.pointer (some ⟨b4_1_1, o4_1_1 + 0, none⟩))])]) hp4_1
  have H := H.lend 0 rfl
  obtain rfl := VR_bool hv
  refine pz 1 hf fun a hf => ?_
  refine wl_end (then_n (wp_ret (then_r (?_))))
  obtain rfl := oi hF
  refine rT hf ?_
  exact ⟨_, rfl, H.chg, _, _, H.boxAt 0 rfl, H.ownAt 0 rfl, (H.endBO 0 rfl).1, (H.endBO 0 rfl).2, mk_bool⟩
 ·refine wp_skip (then_n (sq (sqz (pz 2 hf fun a hf => ?_))))
  refine wl_end (then_n ?_)
  obtain ⟨out', hB1, hF⟩ := bs_ hF
  have hf := hf.pn [1, 2, 3, 4, 11]
  have H := H.lt_ [true] [] [true] [6, 0, 1, 2, 3, 4, 5]
  refine loopC (fun (s : Int × List Int) (a : Act) (w : World) => match s with | (k', m) => ∃ (A6 : Option Addr) (c6 : Nat) (F3 : List Nat), Fr a 39 [(1, (.int .i64 n')), (2, (.int .i64 count)), (3, (.slice A list.length c)), (4, (.func (.func 51) #[] #[(.pointer (some ⟨b4_0, 0, none⟩)), (.pointer (some ⟨b4_1, o4_1 + 0, none⟩))])), (11, (.int .i64 k'))] ∧ Mem ⟨w0, b4_0 :: F4_0⟩ S [⟨b4_0, 26, [(.slice A6 m.length c6)]⟩] [] [⟨F3, MP.own F3 [(.slice A6 m.length c6)] (m : List Int)⟩] [(true, MP.val [(.slice A6 m.length c6)] (m : List Int)), (false, MP.cells ⟨b4_1, o4_1, none⟩ [(.func (.func 33) #[] #[(.pointer (some ⟨b4_1_0, o4_1_0 + 0, none⟩)), (.pointer (some ⟨b4_1_1, o4_1_1 + 0, none⟩))])]), (false, MP.cells ⟨b4_1_1, o4_1_1, none⟩ [(.int .i64 cap3)]), (false, MP.cells ⟨b4_1_0, o4_1_0, none⟩ [(.slice A2 cap2.Nodes.length c2), (.slice A3 cap2.Fibers.length c3)]), (false, MP.val [(.slice A3 cap2.Fibers.length c3)] (cap2.Fibers : List Fiber)), (false, MP.val [(.slice A2 cap2.Nodes.length c2)] (cap2.Nodes : List ByteArray)), (false, MP.val [(.slice A list.length c)] (list : List Int))] w) (fun k (s : Int × List Int) => impl_choices_of_fewest_c1_L1 fu n' count list cap2 cap3 rec_ k s.1 s.2 = some out') (fun s => out' = Out.next s) (from', cap) fu hB1 ⟨A4, c4, F4_0, hf, H⟩ (fun s h => by cases h) ?_ ?_
  ·rintro fk ⟨k', m⟩ a w hR1 hI
   replace hR1 : impl_choices_of_fewest_c1_L1 fu n' count list cap2 cap3 rec_ (fk + 1) k' m = some out' := hR1
   rw [impl_choices_of_fewest_c1_L1] at hR1
   obtain ⟨A6, c6, F3, hf, H⟩ := hI
   refine sq (sqz (pz 3 hf fun a hf => ?_))
   refine wl_end (then_n (ib hR1 hf (fun hc2 hR1 => ?_) fun hc2 hR1 => ?_))
   ·refine ws (pz 10 hf fun a hf => ?_)
    refine wl0 rfl (op_slice3 hf H Try.underlying26 TF.sz3 6 rfl rfl rfl rfl (by decide) fun a hf H => ?_)
    refine pz 1 hf fun a hf => ?_
    refine wl0 rfl (bl hf H 3 ([k'] : List Int) [(.int .i64 k')] (el1 (y := k') (rfl)) fun A7 a w hf H => ?_)
    obtain ⟨l, hl_, hR1⟩ := bs_ hR1
    refine wl0 rfl (op_appF hf H Try.underlying26 TF.ai3 rfl (by decide) 0 0 rfl rfl rfl rfl (by simp) rfl hl_ (by decide) fun E A8 c7 a w hf H => ?_)
    refine pz 1 hf fun a hf => ?_
    have H := H.rowOwn 0 rfl rfl
    obtain ⟨F4, H⟩ := H.freezeOwn 0 rfl
    have H := H.lend 0 rfl
    have H := H.frontD 1 rfl
    obtain ⟨y2, hy2, hR1⟩ := bs_ hR1
    refine oc hf TF.cl50 (ih (S := NF b4_0 F3) mk_int mk_int mk_int (mk_list (H.ownN 0 rfl 0 rfl)) (H.boxAt 0 rfl) (H.ownAt 0 rfl) (H.boNd 0 rfl) (fun _ h1 h2 => h2 h1) (H.argN 0 rfl hS4_0 hp4_1) (H.argN 0 rfl hS4_0 hp4_1_0) ((Network_mk (x := cap2) (H.argNv 0 rfl hS4_0 (α := List ByteArray) hl2) (H.argNv 0 rfl hS4_0 (α := List Fiber) hl3))) (H.argN 0 rfl hS4_0 hp4_1_1) (rfl) hy2) fun v2 w a hp2 hf => ?_
    obtain ⟨hch2, cs2, F5, hbx2, ho2, hbk2, hbF2, hv2⟩ := hp2
    obtain ⟨A9, c8, rfl, ho2⟩ := own_list ho2
    have H := H.wroteBO 0 rfl rfl hch2 hbx2 ho2 hbk2 hbF2
    have H := H.argB hS4_0 (p := MP.val [(.slice A list.length c)] list) hl
    have H := H.argB hS4_0 (p := MP.val [(.slice A2 cap2.Nodes.length c2)] cap2.Nodes) hl2
    have H := H.argB hS4_0 (p := MP.val [(.slice A3 cap2.Fibers.length c3)] cap2.Fibers) hl3
    have H := H.argB hS4_0 (p := MP.cells ⟨b4_1_0, o4_1_0, none⟩ [(.slice A2 cap2.Nodes.length c2), (.slice A3 cap2.Fibers.length c3)]) hp4_1_0
    have H := H.argB hS4_0 (p := MP.cells ⟨b4_1_1, o4_1_1, none⟩ [(.int .i64 cap3)]) hp4_1_1
    have H := H.argB hS4_0 (p := MP.cells ⟨b4_1, o4_1, none⟩ [(.func (.func 33) #[] #[(.pointer (some ⟨b4_1_0, o4_1_0 + 0, none⟩)), (.pointer (some ⟨b4_1_1, o4_1_1 + 0, none⟩))])]) hp4_1
    have H := H.lend 0 rfl
    have H := H.lend 1 rfl
    obtain rfl := VR_bool hv2
    have hf := hf.pn [1, 2, 3, 4, 11, 38]
    refine wl_end (then_n (ib hR1 hf (fun hc3 hR1 => ?_) fun hc3 hR1 => ?_))
    ·refine sqz (pz 1 hf fun a hf => ?_)
     refine wl_end (then_n (wp_ret (blk_r (then_r (then_r (blk_r (then_r (then_r (?_)))))))))
     obtain rfl := oi hR1
     replace hF := on_ret hF
     obtain rfl := oi hF
     refine rT hf ?_
     exact ⟨_, rfl, H.chg, _, _, H.boxAt 0 rfl, H.ownAt 0 rfl, (H.endBO 0 rfl).1, (H.endBO 0 rfl).2, mk_bool⟩
    ·refine wp_skip (blk_n (then_n (reg (pz 3 hf fun a hf => ?_))))
     refine wl_end ?_
     have hf := hf.pn [1, 2, 3, 4, 11]
     have H := H.lt_ [true] [false] [true, false] [1, 2, 3, 4, 5, 6, 7]
     exact then_n ⟨(w64 (k' + 1), y2.2), hR1, A9, c8, F5, hf, H⟩
   ·refine wp_exit (then_x (then_x (blk_e (?_))))
    have hf := hf.pn [1, 2, 3, 4, 11]
    have H := H.lt_ [true] [] [true] [0, 1, 2, 3, 4, 5, 6]
    exact ⟨(k', m), (Option.some.inj hR1).symm, A6, c6, F3, hf, H⟩
  rintro a w ⟨⟨k2, m2⟩, rfl, A10, c9, F6, hf, H⟩
  replace hF := on_next hF
  try dsimp only at hF
  refine then_n (sqz (pz 1 hf fun a hf => ?_))
  refine wer ?_
  obtain rfl := oi hF
  refine rT hf ?_
  exact ⟨_, rfl, H.chg, _, _, H.boxAt 0 rfl, H.ownAt 0 rfl, (H.endBO 0 rfl).1, (H.endBO 0 rfl).2, mk_bool⟩
theorem impl_choices_of_fewest_c1_ok {fu : Nat} : ∀ {w0 : World} {S : Nat → Prop} {v0_ : Value} {v1_ : Value} {v2_ : Value} {v3_ : Value} {b4_0 : Nat} {cs4_0 : List Value} {F4_0 : List Nat} {b4_1 o4_1 : Nat} {b4_1_0 o4_1_0 : Nat} {cs4_1_0 : List Value} {b4_1_1 o4_1_1 : Nat} {cs4_1_1 : List Value} {from' : Int} {n' : Int} {count : Int} {list : List Int} {cap : List Int} {cap2 : Network} {cap3 : Int} {r : Bool × List Int} (h0 : VR w0 S v0_ from') (h1 : VR w0 S v1_ n') (h2 : VR w0 S v2_ count) (h3 : VR w0 S v3_ list) (hp4_0 : w0.heap[b4_0]? = some (.cells cs4_0.toArray 26 (0, 0))) (hr4_0 : GoTy.own w0 F4_0 cs4_0 cap) (hn4_0 : List.Nodup (List.cons b4_0 F4_0)) (hS4_0 : ∀ c ∈ List.cons b4_0 F4_0, ¬ S c) (hp4_1 : (MP.cells ⟨b4_1, o4_1, none⟩ [.func (.func 33) #[] #[(.pointer (some ⟨b4_1_0, o4_1_0, none⟩)), (.pointer (some ⟨b4_1_1, o4_1_1, none⟩))]]).pred w0 S) (hp4_1_0 : (MP.cells ⟨b4_1_0, o4_1_0, none⟩ cs4_1_0).pred w0 S) (hr4_1_0 : GoTy.rep w0 S cs4_1_0 cap2) (hp4_1_1 : (MP.cells ⟨b4_1_1, o4_1_1, none⟩ cs4_1_1).pred w0 S) (hr4_1_1 : GoTy.rep w0 S cs4_1_1 cap3) (hF : impl_choices_of_fewest_c1 fu from' n' count list cap cap2 cap3 = some r), Calls Try.prog 50 [v0_, v1_, v2_, v3_, (.func (.func 51) #[] #[(.pointer (some ⟨b4_0, 0, none⟩)), (.pointer (some ⟨b4_1, o4_1, none⟩))])].toArray w0 fun e w' => ∃ v, e = .returned v ∧ (Chg w0 w' (b4_0 :: F4_0) ∧ ∃ cs' F', w'.heap[b4_0]? = some (.cells cs'.toArray 26 (0, 0)) ∧ GoTy.own w' F' cs' r.2 ∧ Back w0 w' F4_0 F' ∧ b4_0 ∉ F' ∧ VR w' (fun _ => True) v r.1) := by
  induction fu with
  | zero => intro w0 S v0_ v1_ v2_ v3_ b4_0 cs4_0 F4_0 b4_1 o4_1 b4_1_0 o4_1_0 cs4_1_0 b4_1_1 o4_1_1 cs4_1_1 from' n' count list cap cap2 cap3 r h0 h1 h2 h3 hp4_0 hr4_0 hn4_0 hS4_0 hp4_1 hp4_1_0 hr4_1_0 hp4_1_1 hr4_1_1 hF; rw [impl_choices_of_fewest_c1] at hF; cases hF
  | succ fu ih => intro w0 S v0_ v1_ v2_ v3_ b4_0 cs4_0 F4_0 b4_1 o4_1 b4_1_0 o4_1_0 cs4_1_0 b4_1_1 o4_1_1 cs4_1_1 from' n' count list cap cap2 cap3 r h0 h1 h2 h3 hp4_0 hr4_0 hn4_0 hS4_0 hp4_1 hp4_1_0 hr4_1_0 hp4_1_1 hr4_1_1 hF; rw [impl_choices_of_fewest_c1] at hF; exact impl_choices_of_fewest_c1_B_ok (rec_ := fun from' n' count list cap cap2 cap3 => impl_choices_of_fewest_c1 fu from' n' count list cap cap2 cap3) (fun h0 h1 h2 h3 hp4_0 hr4_0 hn4_0 hS4_0 hp4_1 hp4_1_0 hr4_1_0 hp4_1_1 hr4_1_1 hF => ih h0 h1 h2 h3 hp4_0 hr4_0 hn4_0 hS4_0 hp4_1 hp4_1_0 hr4_1_0 hp4_1_1 hr4_1_1 hF) h0 h1 h2 h3 hp4_0 hr4_0 hn4_0 hS4_0 hp4_1 hp4_1_0 hr4_1_0 hp4_1_1 hr4_1_1 hF
theorem impl_fewest_of_FewestSites_c1_ok {S : Nat → Prop} {v0_ : Value} {b1_0 o1_0 : Nat} {cs1_0 : List Value} {b1_1 o1_1 : Nat} {cs1_1 : List Value} {n' : Int} {cap : Network} {cap2 : Int} {r : List Int × Bool} (h0 : VR w0 S v0_ n') (hp1_0 : (MP.cells ⟨b1_0, o1_0, none⟩ cs1_0).pred w0 S) (hr1_0 : GoTy.rep w0 S cs1_0 cap) (hp1_1 : (MP.cells ⟨b1_1, o1_1, none⟩ cs1_1).pred w0 S) (hr1_1 : GoTy.rep w0 S cs1_1 cap2) (hF : impl_fewest_of_FewestSites_c1 fu n' cap cap2 = some r) :
    Calls Try.prog 32 [v0_, (.func (.func 33) #[] #[(.pointer (some ⟨b1_0, o1_0, none⟩)), (.pointer (some ⟨b1_1, o1_1, none⟩))])].toArray w0 fun e w' => ∃ v, e = .returned v ∧ (Below w0.heap.size w0 w' ∧ ∃ F0, ∃ u0 u1, v = .tuple #[u0, u1] ∧ VO w' F0 u0 r.1 ∧ VR w' (St ⟨w0, []⟩ S [] [] [] true) u1 r.2 ∧ New w0 w' F0) := by
 obtain rfl := VR_int h0
 obtain ⟨A, c, A2, c2, rfl, hl, hl2⟩ := Network_cells hr1_0
 obtain rfl := hr1_1
 have H := Mem.start ⟨w0, []⟩ S
 have H := H.pA hl
 have H := H.pA hl2
 have H := H.pushArg (MP.cells ⟨b1_0, o1_0, none⟩ [(.slice A cap.Nodes.length c), (.slice A2 cap.Fibers.length c2)]) hp1_0
 have H := H.pushArg (MP.cells ⟨b1_1, o1_1, none⟩ [(.int .i64 cap2)]) hp1_1
 refine en Try.func32 fun a hf => ?_
 rw [impl_fewest_of_FewestSites_c1] at hF
 refine bx hf H fun b' a w hf H => ?_
 refine pz 2 hf fun a hf => ?_
 refine wr (wl0 rfl (bl hf H 3 ([] : List Int) [] el0 fun A3 a w hf H => ?_))
 refine aL hf H TF.zv26 fun b2 a w hf H => ?_
 refine sB 0 hf H TF.sz26 fun w H => ?_
 refine we (sqz (pz 3 hf fun a hf => ?_))
 refine wl_end (then_n ?_)
 have H := H.rowOwn 0 rfl rfl
 obtain ⟨F2, H⟩ := H.freezeOwn 0 rfl
 have H := H.lend 0 rfl
 obtain ⟨out', hB1, hF⟩ := bs_ hF
 have hf := hf.pn [0, 3, 6, 11, 12]
 have H := H.lt_ [true, true] [] [true] [0, 1, 2, 3, 4]
 refine loopC (fun (s : Int × List Int) (a : Act) (w : World) => match s with | (i, m) => ∃ (A4 : Option Addr) (c3 : Nat) (F : List Nat), Fr a 22 [(0, (.int .i64 n')), (3, (.pointer (some ⟨b', 0, none⟩))), (6, (.pointer (some ⟨b2, 0, none⟩))), (11, (.int .i64 (w64 (n' + 1)))), (12, (.int .i64 i))] ∧ Mem ⟨w0, []⟩ S [⟨b2, 26, [(.slice A4 m.length c3)]⟩, ⟨b', 57, [(.func (.func 33) #[] #[(.pointer (some ⟨b1_0, o1_0 + 0, none⟩)), (.pointer (some ⟨b1_1, o1_1 + 0, none⟩))])]⟩] [] [⟨F, MP.own F [(.slice A4 m.length c3)] (m : List Int)⟩] [(true, MP.val [(.slice A4 m.length c3)] (m : List Int)), (false, MP.cells ⟨b1_1, o1_1, none⟩ [(.int .i64 cap2)]), (false, MP.cells ⟨b1_0, o1_0, none⟩ [(.slice A cap.Nodes.length c), (.slice A2 cap.Fibers.length c2)]), (false, MP.val [(.slice A2 cap.Fibers.length c2)] (cap.Fibers : List Fiber)), (false, MP.val [(.slice A cap.Nodes.length c)] (cap.Nodes : List ByteArray))] w) (fun k (s : Int × List Int) => impl_fewest_of_FewestSites_c1_L1 fu n' cap cap2 k s.1 s.2 = some out') (fun s => out' = Out.next s) (0, ([] : List Int)) fu hB1 ⟨A3, 0, F2, hf, H⟩ (fun s h => by cases h) ?_ ?_
 ·rintro fk ⟨i, m⟩ a w hR1 hI
  replace hR1 : impl_fewest_of_FewestSites_c1_L1 fu n' cap cap2 (fk + 1) i m = some out' := hR1
  rw [impl_fewest_of_FewestSites_c1_L1] at hR1
  obtain ⟨A4, c3, F, hf, H⟩ := hI
  refine sqz (pz 1 hf fun a hf => ?_)
  refine wl_end (then_n (sq (ib hR1 hf (fun hc hR1 => ?_) fun hc hR1 => ?_)))
  ·refine ws (pz 2 hf fun a hf => ?_)
   refine wr (pz 2 hf fun a hf => ?_)
   refine oq hf (rq_makeFunc hf rfl) fun a hf => ?_
   have H := H.pushNil (Int) true
   obtain ⟨y, hy, hR1⟩ := bs_ hR1
   refine oc hf TF.cl50 (impl_choices_of_fewest_c1_ok (S := NF b2 F) mk_int mk_int mk_int (mk_list (lrep_nil)) (H.boxAt 0 rfl) (H.ownAt 0 rfl) (H.boNd 0 rfl) (fun _ h1 h2 => h2 h1) (H.boxN 0 rfl 1 rfl rfl) (H.argN 0 rfl (fun _ h => by cases h) hp1_0) ((Network_mk (x := cap) (H.argNv 0 rfl (fun _ h => by cases h) (α := List ByteArray) hl) (H.argNv 0 rfl (fun _ h => by cases h) (α := List Fiber) hl2))) (H.argN 0 rfl (fun _ h => by cases h) hp1_1) (rfl) hy) fun v w a hp hf => ?_
   obtain ⟨hch, cs, F3, hbx, ho, hbk, hbF, hv⟩ := hp
   obtain ⟨A5, c4, rfl, ho⟩ := own_list ho
   have H := H.wroteBO 0 rfl rfl hch hbx ho hbk hbF
   have H := H.pA hl
   have H := H.pA hl2
   have H := H.arg (p := MP.cells ⟨b1_0, o1_0, none⟩ [(.slice A cap.Nodes.length c), (.slice A2 cap.Fibers.length c2)]) hp1_0
   have H := H.arg (p := MP.cells ⟨b1_1, o1_1, none⟩ [(.int .i64 cap2)]) hp1_1
   have H := H.lend 0 rfl
   obtain rfl := VR_bool hv
   refine pz 1 hf fun a hf => ?_
   refine wr (pz 1 hf fun a hf => ?_)
   refine wl_end (then_n (ib hR1 hf (fun hc2 hR1 => ?_) fun hc2 hR1 => ?_))
   ·refine sq (reg (lB 0 hf H TF.ls26 fun a hf => ?_))
    refine pz 2 hf fun a hf => ?_
    have hf := hf.pn [4, 5]
    refine wl_end (then_n (wp_ret (blk_r (then_r (then_r (blk_r (then_r (then_r (?_)))))))))
    obtain rfl := oi hR1
    replace hF := on_ret hF
    obtain rfl := oi hF
    refine ret_2 hf rfl (rv_tmp hf rfl) (rv_tmp hf rfl) ?_
    have hN := H.ends1
    exact ⟨_, rfl, H.bel, F3, _, _, rfl, (mko_list (H.ownAt 0 rfl)), mk_bool, hN⟩
   ·refine wp_skip (blk_n (then_n (reg (pz 2 hf fun a hf => ?_))))
    refine wl_end ?_
    have hf := hf.pn [0, 3, 6, 11, 12]
    have H := H.lt_ [true, true] [] [true] [0, 1, 2, 3, 4]
    exact then_n ⟨(w64 (i + 1), y.2), hR1, A5, c4, F3, hf, H⟩
  ·refine wp_exit (then_x (then_x (blk_e (?_))))
   have hf := hf.pn [0, 3, 6, 11, 12]
   have H := H.lt_ [true, true] [] [true] [0, 1, 2, 3, 4]
   exact ⟨(i, m), (Option.some.inj hR1).symm, A4, c3, F, hf, H⟩
 rintro a w ⟨⟨i2, m2⟩, rfl, A6, c5, F4, hf, H⟩
 replace hF := on_next hF
 try dsimp only at hF
 refine then_n (sqz (pz 2 hf fun a hf => ?_))
 refine wer ?_
 have H := H.ownNil (Int)
 have H := H.lend 0 rfl
 obtain rfl := oi hF
 refine ret_2 hf rfl (rv_tmp hf rfl) (rv_tmp hf rfl) ?_
 have hN := H.ends1
 exact ⟨_, rfl, H.bel, [], _, _, rfl, (mko_list (H.ownAt 0 rfl)), mk_bool, hN⟩
theorem impl_FewestSites_ok {S : Nat → Prop} {v0_ : Value} {v1_ : Value} {n' : Network} {reach : Int} {r : List Int × Bool × Bool} (h0 : VR w0 S v0_ n') (h1 : VR w0 S v1_ reach) (hF : impl_FewestSites fu n' reach = some r) :
    Calls Try.prog 13 [v0_, v1_].toArray w0 fun e w' => ∃ v, e = .returned v ∧ (Below w0.heap.size w0 w' ∧ ∃ F0, ∃ u0 u1 u2, v = .tuple #[u0, u1, u2] ∧ VO w' F0 u0 r.1 ∧ VR w' (St ⟨w0, []⟩ S [] [] [] true) u1 r.2.1 ∧ VR w' (St ⟨w0, []⟩ S [] [] [] true) u2 r.2.2 ∧ New w0 w' F0) := by
 obtain ⟨A, c, A2, c2, rfl, hl, hl2⟩ := Network_open h0
 obtain rfl := VR_int h1
 have H := Mem.start ⟨w0, []⟩ S
 have H := H.pA hl
 have H := H.pA hl2
 refine en Try.func13 fun a hf => ?_
 rw [impl_FewestSites] at hF
 refine bx hf H fun b' a w hf H => ?_
 refine wl0 rfl (op_box hf H rfl rfl (by decide) fun b2 a w hf H => ?_)
 refine pz 3 hf fun a hf => ?_
 refine wl_end (then_n (sq (sq ?_)))
 obtain ⟨c3, hGc3, hF⟩ := bs_ hF
 have fh := hf.prune [2, 3] rfl
 have Hm := H.lt_ [true, true] [] [] [0, 1]
 refine midF 16 (.bool c3) fh Hm ?_ fun a w hf H => ?_
 ·refine reg (lN 1 hf H TF.la32 fun a hf => ?_)
  obtain ⟨y, hy, hGc3⟩ := bs_ hGc3
  refine oc hf TF.cl25 (impl_IsValidNetwork_ok (S := TT) (Network_mkv (x := n') (H.rt 1 rfl) (H.rt 0 rfl)) hy) fun v w a hp hf => ?_
  obtain ⟨hb, hp⟩ := hp
  obtain rfl := VR_bool hp
  have H := H.keep hb
  refine pz 2 hf fun a hf => ?_
  refine iteB hGc3 (fun hc hGc3 => ?_) fun hc hGc3 => ?_
  ·have hf := hf.lit 12 rfl hc
   refine pz 4 hf fun a hf => ?_
   obtain rfl := oi hGc3
   have hf := hf.pn [16, 2, 3]
   have H := H.lt_ [true, true] [] [] [0, 1]
   exact wl_end ⟨hf, H⟩
  ·have hf := hf.lit 12 rfl hc
   refine wlg hf rfl rfl rfl (op_q hf (rq_loadB hf H TF.ls3 0 rfl rfl rfl) rfl (by decide) fun a hf => ?_)
   obtain ⟨y2, hy2, hGc3⟩ := bs_ hGc3
   refine wlg hf rfl rfl rfl (oC hf TF.cl27 (impl_within_ok (S := TT) mk_int mk_int mk_int hy2) fun v2 w a hp2 hf => ?_)
   obtain ⟨hb2, hp2⟩ := hp2
   obtain rfl := VR_bool hp2
   have H := H.keep hb2
   refine pz 2 hf fun a hf => ?_
   obtain rfl := oi hGc3
   have hf := hf.pn [16, 2, 3]
   have H := H.lt_ [true, true] [] [] [0, 1]
   exact wl_end ⟨hf, H⟩
 refine then_n (ib hF hf (fun hc2 hF => ?_) fun hc2 hF => ?_)
 ·refine sqz (pz 3 hf fun a hf => ?_)
  refine wl_end (then_n (wp_ret (then_r (?_))))
  have H := H.ownNil (Int)
  have H := H.lend 0 rfl
  obtain rfl := oi hF
  refine ret_3 hf rfl (rv_tmp hf rfl) (rv_tmp hf rfl) (rv_tmp hf rfl) ?_
  have hN := H.ends1
  exact ⟨_, rfl, H.bel, [], _, _, _, rfl, (mko_list (H.ownAt 0 rfl)), mk_bool, mk_bool, hN⟩
 ·refine wp_skip (then_n (sqz (pz 1 hf fun a hf => ?_)))
  refine lB 1 hf H TF.ls22 fun a hf => ?_
  refine pz 1 hf fun a hf => ?_
  refine oq hf (rq_makeFunc hf rfl) fun a hf => ?_
  obtain ⟨y3, hy3, hF⟩ := bs_ hF
  refine oc hf TF.cl32 (impl_fewest_of_FewestSites_c1_ok (S := TT) mk_int (H.boxTrue 1 rfl) ((Network_mk (x := n') (H.rt 1 rfl) (H.rt 0 rfl))) (H.boxTrue 0 rfl) (rfl) hy3) fun v3 w a hp3 hf => ?_
  obtain ⟨hb3, F, v4, v5, rfl, hp4, hp5, hN⟩ := hp3
  obtain ⟨A3, c4, rfl, hl3⟩ := VO_list hp4
  obtain rfl := VR_bool hp5
  have H := H.aO1 hb3 hN hl3
  have H := H.lend 0 rfl
  refine pz 5 hf fun a hf => ?_
  refine wr (pz 5 hf fun a hf => ?_)
  have hf := hf.pn [4, 5, 6]
  refine wer ?_
  obtain rfl := oi hF
  refine ret_3 hf rfl (rv_tmp hf rfl) (rv_tmp hf rfl) (rv_tmp hf rfl) ?_
  have hN := H.ends1
  exact ⟨_, rfl, H.bel, F, _, _, _, rfl, (mko_list (H.ownAt 0 rfl)), mk_bool, mk_bool, hN⟩
theorem laws_markText_ok {S : Nat → Prop} {v0_ : Value} {k' : Int} {r : ByteArray} (h0 : VR w0 S v0_ k') (hF : laws_markText fu k' = some r) :
    Calls Try.prog 53 [v0_].toArray w0 fun e w' => ∃ v, e = .returned v ∧ (Below w0.heap.size w0 w' ∧ VR w' (St ⟨w0, []⟩ S [] [] [] true) v r) := by
 obtain rfl := VR_int h0
 have H := Mem.start ⟨w0, []⟩ S
 refine en Try.func53 fun a hf => ?_
 rw [laws_markText] at hF
 refine sqz (pz 1 hf fun a hf => ?_)
 refine we (sqz (pz 2 hf fun a hf => ?_))
 refine wl_end (then_n (ib hF hf (fun hc hF => ?_) fun hc hF => ?_))
 ·refine sqz (pz 1 hf fun a hf => ?_)
  refine wl_end (then_n (wp_ret (then_r (?_))))
  obtain rfl := oi hF
  refine rT hf ?_
  exact ⟨_, rfl, H.bel, mk_str⟩
 ·refine wp_skip (then_n (sqz (pz 1 hf fun a hf => ?_)))
  refine wl_end (then_n (sq ?_))
  obtain ⟨out2, hB1, hF⟩ := bs_ hF
  have hf := hf.pn [0, 3]
  have H := H.lt_ [] [] [] []
  refine loopC (fun (s : Int × ByteArray) (a : Act) (w : World) => match s with | (k2, out') => Fr a 20 [(0, (.int .i64 k2)), (3, (.string out'))] ∧ Mem ⟨w0, []⟩ S [] [] [] [] w) (fun k (s : Int × ByteArray) => laws_markText_L1 fu k s.1 s.2 = some out2) (fun s => out2 = s) (k', ByteArray.empty) fu hB1 ⟨hf, H⟩ (fun s h => by cases h) ?_ ?_
  ·rintro fk ⟨k2, out'⟩ a w hR1 hI
   replace hR1 : laws_markText_L1 fu (fk + 1) k2 out' = some out2 := hR1
   rw [laws_markText_L1] at hR1
   obtain ⟨hf, H⟩ := hI
   refine sq (sqz (pz 2 hf fun a hf => ?_))
   refine wl_end (then_n (ib hR1 hf (fun hc2 hR1 => ?_) fun hc2 hR1 => ?_))
   ·refine wp_skip (then_n (wp_block (sqz (pz 1 hf fun a hf => ?_))))
    obtain ⟨q, hq, hR1⟩ := bs_ hR1
    refine oq hf (rq_rem hf rfl rfl hq) fun a hf => ?_
    refine pz 1 hf fun a hf => ?_
    refine oq hf (rq_conv u8w Try.underlying3 Try.underlying5 hf rfl) fun a hf => ?_
    refine wl0 rfl (bl hf H 5 ([(⟨wu8 (w64 (48 + q))⟩ : By)] : List By) [(.int .u8 (wu8 (w64 (48 + q))))] (el1 (y := (⟨wu8 (w64 (48 + q))⟩ : By)) (rfl)) fun A a w hf H => ?_)
    refine oq hf (rq_convBS Try.underlying80 Try.underlying5 Try.underlying9 hf rfl (H.rowTrue 0 rfl)) fun a hf => ?_
    refine pz 1 hf fun a hf => ?_
    obtain ⟨s', hs', hR1⟩ := bs_ hR1
    refine oq hf (rq_scat hf rfl rfl hs') fun a hf => ?_
    refine pz 1 hf fun a hf => ?_
    refine wl_end (then_n (reg (pz 1 hf fun a hf => ?_)))
    obtain ⟨q2, hq2, hR1⟩ := bs_ hR1
    refine oq hf (rq_quo hf rfl rfl hq2) fun a hf => ?_
    refine pz 1 hf fun a hf => ?_
    refine wl_end (blk_n ?_)
    have hf := hf.pn [0, 3]
    have H := H.lt_ [] [false] [] []
    exact then_n ⟨(q2, s'), hR1, hf, H⟩
   ·refine wp_exit (then_x (then_x (blk_e (?_))))
    have hf := hf.pn [0, 3]
    have H := H.lt_ [] [] [] []
    exact ⟨(k2, out'), (Option.some.inj hR1).symm, hf, H⟩
  rintro a w ⟨⟨k3, out3⟩, rfl, hf, H⟩
  try dsimp only at hF
  refine then_n (sqz (pz 1 hf fun a hf => ?_))
  obtain ⟨s2, hs2, hF⟩ := bs_ hF
  refine oq hf (rq_scat hf rfl rfl hs2) fun a hf => ?_
  refine pz 1 hf fun a hf => ?_
  refine wer ?_
  obtain rfl := oi hF
  refine rT hf ?_
  exact ⟨_, rfl, H.bel, mk_str⟩
theorem laws_markStringS_ok {S : Nat → Prop} {F : List Nat} {cs : List Value} {v1_ : Value} {a' : List ByteArray} {k' : Int} {r : Int × List ByteArray} (hO : GoTy.own w0 F cs a') (hn : F.Nodup) (h1 : VR w0 S v1_ k') (hF : laws_markStringS fu a' k' = some r) :
    Calls Try.prog 34 [(bif GoTy.agg (List ByteArray) then .agg cs.toArray else cs.headD undef), v1_].toArray w0 fun e w' => ∃ v, e = .returned v ∧ (Chg w0 w' F ∧ VR w' (fun _ => True) v r.1 ∧ ∃ F', GoTy.own w' F' cs r.2 ∧ Back w0 w' F F') := by
 obtain rfl := VR_int h1
 obtain ⟨A, c, rfl, hO⟩ := own_list hO
 have H := Mem.startG S hO hn
 obtain ⟨Fs, E, H, -⟩ := H.thaw rfl
 have H := H.rowSh 0 rfl
 refine en Try.func34 fun a hf => ?_
 rw [laws_markStringS] at hF
 refine sqz (pz 1 hf fun a hf => ?_)
 refine we (sqz (pz 1 hf fun a hf => ?_))
 refine wl_end (then_n ?_)
 obtain ⟨out', hB1, hF⟩ := bs_ hF
 have hf := hf.pn [0, 1, 5]
 have hf : Fr a 20 [(0, (.slice A a'.length c)), (1, (.int .i64 k')), (5, (.int .i64 0))] := by first | exact hf | (simp only [List.length_set] at hf; exact hf)
 have H := H.lt_ [] [true] [] []
 refine loopC (fun (s : List ByteArray × Int × Int) (a : Act) (w : World) => match s with | (a2, k2, i) => a2.length = a'.length ∧ Fr a 20 [(0, (.slice A a'.length c)), (1, (.int .i64 k2)), (5, (.int .i64 i))] ∧ Mem ⟨w0, F⟩ S [] [⟨.sh true, E, A, c, (a2 : List ByteArray)⟩] [] [] w) (fun k (s : List ByteArray × Int × Int) => laws_markStringS_L1 fu k s.1 s.2.1 s.2.2 = some out') (fun s => out' = s) (a', k', 0) fu hB1 ⟨rfl, hf, H⟩ (fun s h => by cases h) ?_ ?_
 ·rintro fk ⟨a2, k2, i⟩ a w hR1 hI
  replace hR1 : laws_markStringS_L1 fu (fk + 1) a2 k2 i = some out' := hR1
  rw [laws_markStringS_L1] at hR1
  obtain ⟨hlen, hf, H⟩ := hI
  have hf : Fr a 20 [(0, (.slice A a2.length c)), (1, (.int .i64 k2)), (5, (.int .i64 i))] := by rw [hlen]; exact hf
  refine sq (sqz (pz 4 hf fun a hf => ?_))
  refine wl_end (then_n (ib hR1 hf (fun hc hR1 => ?_) fun hc hR1 => ?_))
  ·refine ws (pz 3 hf fun a hf => ?_)
   obtain ⟨y, hy, hR1⟩ := bs_ hR1
   refine oc hf TF.cl53 (laws_markText_ok (S := TT) mk_int hy) fun v w a hp hf => ?_
   obtain ⟨hb, hp⟩ := hp
   obtain rfl := VR_str hp
   have H := H.keep hb
   obtain ⟨e, he, hR1⟩ := bs_ hR1
   refine wl0 rfl (op_iaddrR hf H Try.underlying22 TF.sz9 0 rfl rfl rfl he (by decide) fun p o cs a hf hA hr hk => ?_)
   obtain rfl := hr
   refine wl0 rfl (op_storeR (e' := y) (o := o) (off := 0) hf H TF.sz9 0 rfl rfl rfl rfl rfl (nle rfl) rfl hA he (st_full rfl) fun w H => ?_)
   replace hf : Fr a 20 [(0, (.slice A a2.length c)), (1, (.int .i64 k2)), (5, (.int .i64 i)), (12, (.slice A a2.length c)), (13, (.int .i64 i)), (14, (.int .i64 k2)), (15, (.string y)), (16, (.pointer (some ⟨p, o + 0, none⟩)))] := hf.prune [0, 1, 5, 12, 13, 14, 15, 16] rfl
   replace hf : Fr a 20 [(0, (.slice A (a2.set (i : Int).toNat y).length c)), (1, (.int .i64 k2)), (5, (.int .i64 i)), (12, (.slice A (a2.set (i : Int).toNat y).length c)), (13, (.int .i64 i)), (14, (.int .i64 k2)), (15, (.string y)), (16, (.pointer (some ⟨p, o + 0, none⟩)))] := by simpa only [List.length_set, Nat.add_zero] using hf
   refine wl_end (then_n (reg (pz 3 hf fun a hf => ?_)))
   refine wl_end (blk_n (then_n (reg (pz 3 hf fun a hf => ?_))))
   refine wl_end ?_
   have hf := hf.pn [0, 1, 5]
   have hf : Fr a 20 [(0, (.slice A a'.length c)), (1, (.int .i64 (w64 (k2 + 1)))), (5, (.int .i64 (w64 (i + 1))))] := by first | exact hf | (simp only [List.length_set, hlen] at hf; exact hf)
   have H := H.lt_ [] [true] [] []
   exact then_n ⟨(a2.set (i : Int).toNat y, w64 (k2 + 1), w64 (i + 1)), hR1, (by simp only [List.length_set, hlen]), hf, H⟩
  ·refine wp_exit (then_x (then_x (blk_e (?_))))
   have hf := hf.pn [0, 1, 5]
   have hf : Fr a 20 [(0, (.slice A a'.length c)), (1, (.int .i64 k2)), (5, (.int .i64 i))] := by first | exact hf | (simp only [List.length_set, hlen] at hf; exact hf)
   have H := H.lt_ [] [true] [] []
   exact ⟨(a2, k2, i), (Option.some.inj hR1).symm, (by simp only [List.length_set, hlen]), hf, H⟩
 rintro a w ⟨⟨a3, k3, i2⟩, rfl, hlen, hf, H⟩
 try dsimp only at hlen
 have hf : Fr a 20 [(0, (.slice A a3.length c)), (1, (.int .i64 k3)), (5, (.int .i64 i2))] := by rw [hlen]; exact hf
 try dsimp only at hF
 refine then_n (sqz (pz 2 hf fun a hf => ?_))
 refine wer ?_
 have H := H.rowOwn 0 rfl rfl
 obtain ⟨F', H⟩ := H.freezeOwn 0 rfl
 rw [hlen] at H
 obtain rfl := oi hF
 refine rT hf ?_
 exact ⟨_, rfl, H.chg, mk_int, _, H.ownAt 0 rfl, H.back⟩
theorem laws_markFiberS_ok {S : Nat → Prop} {F : List Nat} {cs : List Value} {v1_ : Value} {a' : List Fiber} {k' : Int} {r : Int × List Fiber} (hO : GoTy.own w0 F cs a') (hn : F.Nodup) (h1 : VR w0 S v1_ k') (hF : laws_markFiberS fu a' k' = some r) :
    Calls Try.prog 35 [(bif GoTy.agg (List Fiber) then .agg cs.toArray else cs.headD undef), v1_].toArray w0 fun e w' => ∃ v, e = .returned v ∧ (Chg w0 w' F ∧ VR w' (fun _ => True) v r.1 ∧ ∃ F', GoTy.own w' F' cs r.2 ∧ Back w0 w' F F') := by
 obtain rfl := VR_int h1
 obtain ⟨A, c, rfl, hO⟩ := own_list hO
 have H := Mem.startG S hO hn
 obtain ⟨Fs, E, H, -⟩ := H.thaw rfl
 have H := H.rowSh 0 rfl
 refine en Try.func35 fun a hf => ?_
 rw [laws_markFiberS] at hF
 refine sqz (pz 1 hf fun a hf => ?_)
 refine we (sqz (pz 1 hf fun a hf => ?_))
 refine wl_end (then_n ?_)
 obtain ⟨out', hB1, hF⟩ := bs_ hF
 have hf := hf.pn [0, 1, 5]
 have hf : Fr a 41 [(0, (.slice A a'.length c)), (1, (.int .i64 k')), (5, (.int .i64 0))] := by first | exact hf | (simp only [List.length_set] at hf; exact hf)
 have H := H.lt_ [] [true] [] []
 refine loopC (fun (s : List Fiber × Int × Int) (a : Act) (w : World) => match s with | (a2, k2, i) => a2.length = a'.length ∧ Fr a 41 [(0, (.slice A a'.length c)), (1, (.int .i64 k2)), (5, (.int .i64 i))] ∧ Mem ⟨w0, F⟩ S [] [⟨.sh true, E, A, c, (a2 : List Fiber)⟩] [] [] w) (fun k (s : List Fiber × Int × Int) => laws_markFiberS_L1 fu k s.1 s.2.1 s.2.2 = some out') (fun s => out' = s) (a', k', 0) fu hB1 ⟨rfl, hf, H⟩ (fun s h => by cases h) ?_ ?_
 ·rintro fk ⟨a2, k2, i⟩ a w hR1 hI
  replace hR1 : laws_markFiberS_L1 fu (fk + 1) a2 k2 i = some out' := hR1
  rw [laws_markFiberS_L1] at hR1
  obtain ⟨hlen, hf, H⟩ := hI
  have hf : Fr a 41 [(0, (.slice A a2.length c)), (1, (.int .i64 k2)), (5, (.int .i64 i))] := by rw [hlen]; exact hf
  refine sq (sqz (pz 4 hf fun a hf => ?_))
  refine wl_end (then_n (ib hR1 hf (fun hc hR1 => ?_) fun hc hR1 => ?_))
  ·refine ws (pz 3 hf fun a hf => ?_)
   obtain ⟨e, he, hR1⟩ := bs_ hR1
   refine wl0 rfl (op_iaddrR hf H Try.underlying30 TF.sz63 0 rfl rfl rfl he (by decide) fun p o cs a hf hA hr hk => ?_)
   obtain rfl := Fiber_cells hr
   refine pz 1 hf fun a hf => ?_
   refine wl0 rfl (op_storeR (e' := ({ A := k2, B := e.B, Length := e.Length, Risk := e.Risk } : Fiber)) (o := o) (off := 0) hf H TF.sz3 0 rfl rfl rfl rfl rfl (nle rfl) rfl hA he (fun cs h => by obtain rfl := Fiber_cells h; exact Fiber_mk (x := ({ A := k2, B := e.B, Length := e.Length, Risk := e.Risk } : Fiber))) fun w H => ?_)
   replace hf : Fr a 41 [(0, (.slice A a2.length c)), (1, (.int .i64 k2)), (5, (.int .i64 i)), (12, (.slice A a2.length c)), (13, (.int .i64 i)), (14, (.int .i64 k2)), (15, (.pointer (some ⟨p, o + 0, none⟩))), (16, (.pointer (some ⟨p, o + 0, none⟩)))] := hf.prune [0, 1, 5, 12, 13, 14, 15, 16] rfl
   replace hf : Fr a 41 [(0, (.slice A (a2.set (i : Int).toNat ({ A := k2, B := e.B, Length := e.Length, Risk := e.Risk } : Fiber)).length c)), (1, (.int .i64 k2)), (5, (.int .i64 i)), (12, (.slice A (a2.set (i : Int).toNat ({ A := k2, B := e.B, Length := e.Length, Risk := e.Risk } : Fiber)).length c)), (13, (.int .i64 i)), (14, (.int .i64 k2)), (15, (.pointer (some ⟨p, o + 0, none⟩))), (16, (.pointer (some ⟨p, o + 0, none⟩)))] := by simpa only [List.length_set, Nat.add_zero] using hf
   refine wr (pz 3 hf fun a hf => ?_)
   refine wr (pz 3 hf fun a hf => ?_)
   obtain ⟨e2, he2, hR1⟩ := bs_ hR1
   refine wl0 rfl (op_iaddrR hf H Try.underlying30 TF.sz63 0 rfl rfl rfl he2 (by decide) fun p2 o2 cs2 a hf hA2 hr2 hk2 => ?_)
   obtain rfl := Fiber_cells hr2
   refine pz 1 hf fun a hf => ?_
   refine wl0 rfl (op_storeR (e' := ({ A := e2.A, B := w64 (k2 + 1), Length := e2.Length, Risk := e2.Risk } : Fiber)) (o := o2) (off := 1) hf H TF.sz3 0 rfl rfl rfl rfl rfl (nle rfl) rfl hA2 he2 (fun cs h => by obtain rfl := Fiber_cells h; exact Fiber_mk (x := ({ A := e2.A, B := w64 (k2 + 1), Length := e2.Length, Risk := e2.Risk } : Fiber))) fun w H => ?_)
   replace hf : Fr a 41 [(0, (.slice A (a2.set (i : Int).toNat ({ A := k2, B := e.B, Length := e.Length, Risk := e.Risk } : Fiber)).length c)), (1, (.int .i64 (w64 (k2 + 1)))), (5, (.int .i64 i)), (19, (.slice A (a2.set (i : Int).toNat ({ A := k2, B := e.B, Length := e.Length, Risk := e.Risk } : Fiber)).length c)), (20, (.int .i64 i)), (21, (.int .i64 (w64 (k2 + 1)))), (22, (.pointer (some ⟨p2, o2 + 0, none⟩))), (23, (.pointer (some ⟨p2, o2 + 1, none⟩)))] := hf.prune [0, 1, 5, 19, 20, 21, 22, 23] rfl
   replace hf : Fr a 41 [(0, (.slice A ((a2.set (i : Int).toNat ({ A := k2, B := e.B, Length := e.Length, Risk := e.Risk } : Fiber)).set (i : Int).toNat ({ A := e2.A, B := w64 (k2 + 1), Length := e2.Length, Risk := e2.Risk } : Fiber)).length c)), (1, (.int .i64 (w64 (k2 + 1)))), (5, (.int .i64 i)), (19, (.slice A ((a2.set (i : Int).toNat ({ A := k2, B := e.B, Length := e.Length, Risk := e.Risk } : Fiber)).set (i : Int).toNat ({ A := e2.A, B := w64 (k2 + 1), Length := e2.Length, Risk := e2.Risk } : Fiber)).length c)), (20, (.int .i64 i)), (21, (.int .i64 (w64 (k2 + 1)))), (22, (.pointer (some ⟨p2, o2 + 0, none⟩))), (23, (.pointer (some ⟨p2, o2 + 1, none⟩)))] := by simpa only [List.length_set, Nat.add_zero] using hf
   refine wr (pz 3 hf fun a hf => ?_)
   refine wr (pz 3 hf fun a hf => ?_)
   obtain ⟨e3, he3, hR1⟩ := bs_ hR1
   refine wl0 rfl (op_iaddrR hf H Try.underlying30 TF.sz63 0 rfl rfl rfl he3 (by decide) fun p3 o3 cs3 a hf hA3 hr3 hk3 => ?_)
   obtain rfl := Fiber_cells hr3
   refine pz 1 hf fun a hf => ?_
   refine wl0 rfl (op_storeR (e' := ({ A := e3.A, B := e3.B, Length := w64 ((w64 (k2 + 1)) + 1), Risk := e3.Risk } : Fiber)) (o := o3) (off := 2) hf H TF.sz3 0 rfl rfl rfl rfl rfl (nle rfl) rfl hA3 he3 (fun cs h => by obtain rfl := Fiber_cells h; exact Fiber_mk (x := ({ A := e3.A, B := e3.B, Length := w64 ((w64 (k2 + 1)) + 1), Risk := e3.Risk } : Fiber))) fun w H => ?_)
   replace hf : Fr a 41 [(0, (.slice A ((a2.set (i : Int).toNat ({ A := k2, B := e.B, Length := e.Length, Risk := e.Risk } : Fiber)).set (i : Int).toNat ({ A := e2.A, B := w64 (k2 + 1), Length := e2.Length, Risk := e2.Risk } : Fiber)).length c)), (1, (.int .i64 (w64 ((w64 (k2 + 1)) + 1)))), (5, (.int .i64 i)), (26, (.slice A ((a2.set (i : Int).toNat ({ A := k2, B := e.B, Length := e.Length, Risk := e.Risk } : Fiber)).set (i : Int).toNat ({ A := e2.A, B := w64 (k2 + 1), Length := e2.Length, Risk := e2.Risk } : Fiber)).length c)), (27, (.int .i64 i)), (28, (.int .i64 (w64 ((w64 (k2 + 1)) + 1)))), (29, (.pointer (some ⟨p3, o3 + 0, none⟩))), (30, (.pointer (some ⟨p3, o3 + 2, none⟩)))] := hf.prune [0, 1, 5, 26, 27, 28, 29, 30] rfl
   replace hf : Fr a 41 [(0, (.slice A (((a2.set (i : Int).toNat ({ A := k2, B := e.B, Length := e.Length, Risk := e.Risk } : Fiber)).set (i : Int).toNat ({ A := e2.A, B := w64 (k2 + 1), Length := e2.Length, Risk := e2.Risk } : Fiber)).set (i : Int).toNat ({ A := e3.A, B := e3.B, Length := w64 ((w64 (k2 + 1)) + 1), Risk := e3.Risk } : Fiber)).length c)), (1, (.int .i64 (w64 ((w64 (k2 + 1)) + 1)))), (5, (.int .i64 i)), (26, (.slice A (((a2.set (i : Int).toNat ({ A := k2, B := e.B, Length := e.Length, Risk := e.Risk } : Fiber)).set (i : Int).toNat ({ A := e2.A, B := w64 (k2 + 1), Length := e2.Length, Risk := e2.Risk } : Fiber)).set (i : Int).toNat ({ A := e3.A, B := e3.B, Length := w64 ((w64 (k2 + 1)) + 1), Risk := e3.Risk } : Fiber)).length c)), (27, (.int .i64 i)), (28, (.int .i64 (w64 ((w64 (k2 + 1)) + 1)))), (29, (.pointer (some ⟨p3, o3 + 0, none⟩))), (30, (.pointer (some ⟨p3, o3 + 2, none⟩)))] := by simpa only [List.length_set, Nat.add_zero] using hf
   refine wr (pz 3 hf fun a hf => ?_)
   refine wr (pz 3 hf fun a hf => ?_)
   obtain ⟨e4, he4, hR1⟩ := bs_ hR1
   refine wl0 rfl (op_iaddrR hf H Try.underlying30 TF.sz63 0 rfl rfl rfl he4 (by decide) fun p4 o4 cs4 a hf hA4 hr4 hk4 => ?_)
   obtain rfl := Fiber_cells hr4
   refine pz 1 hf fun a hf => ?_
   refine wl0 rfl (op_storeR (e' := ({ A := e4.A, B := e4.B, Length := e4.Length, Risk := w64 ((w64 ((w64 (k2 + 1)) + 1)) + 1) } : Fiber)) (o := o4) (off := 3) hf H TF.sz3 0 rfl rfl rfl rfl rfl (nle rfl) rfl hA4 he4 (fun cs h => by obtain rfl := Fiber_cells h; exact Fiber_mk (x := ({ A := e4.A, B := e4.B, Length := e4.Length, Risk := w64 ((w64 ((w64 (k2 + 1)) + 1)) + 1) } : Fiber))) fun w H => ?_)
   replace hf : Fr a 41 [(0, (.slice A (((a2.set (i : Int).toNat ({ A := k2, B := e.B, Length := e.Length, Risk := e.Risk } : Fiber)).set (i : Int).toNat ({ A := e2.A, B := w64 (k2 + 1), Length := e2.Length, Risk := e2.Risk } : Fiber)).set (i : Int).toNat ({ A := e3.A, B := e3.B, Length := w64 ((w64 (k2 + 1)) + 1), Risk := e3.Risk } : Fiber)).length c)), (1, (.int .i64 (w64 ((w64 ((w64 (k2 + 1)) + 1)) + 1)))), (5, (.int .i64 i)), (33, (.slice A (((a2.set (i : Int).toNat ({ A := k2, B := e.B, Length := e.Length, Risk := e.Risk } : Fiber)).set (i : Int).toNat ({ A := e2.A, B := w64 (k2 + 1), Length := e2.Length, Risk := e2.Risk } : Fiber)).set (i : Int).toNat ({ A := e3.A, B := e3.B, Length := w64 ((w64 (k2 + 1)) + 1), Risk := e3.Risk } : Fiber)).length c)), (34, (.int .i64 i)), (35, (.int .i64 (w64 ((w64 ((w64 (k2 + 1)) + 1)) + 1)))), (36, (.pointer (some ⟨p4, o4 + 0, none⟩))), (37, (.pointer (some ⟨p4, o4 + 3, none⟩)))] := hf.prune [0, 1, 5, 33, 34, 35, 36, 37] rfl
   replace hf : Fr a 41 [(0, (.slice A ((((a2.set (i : Int).toNat ({ A := k2, B := e.B, Length := e.Length, Risk := e.Risk } : Fiber)).set (i : Int).toNat ({ A := e2.A, B := w64 (k2 + 1), Length := e2.Length, Risk := e2.Risk } : Fiber)).set (i : Int).toNat ({ A := e3.A, B := e3.B, Length := w64 ((w64 (k2 + 1)) + 1), Risk := e3.Risk } : Fiber)).set (i : Int).toNat ({ A := e4.A, B := e4.B, Length := e4.Length, Risk := w64 ((w64 ((w64 (k2 + 1)) + 1)) + 1) } : Fiber)).length c)), (1, (.int .i64 (w64 ((w64 ((w64 (k2 + 1)) + 1)) + 1)))), (5, (.int .i64 i)), (33, (.slice A ((((a2.set (i : Int).toNat ({ A := k2, B := e.B, Length := e.Length, Risk := e.Risk } : Fiber)).set (i : Int).toNat ({ A := e2.A, B := w64 (k2 + 1), Length := e2.Length, Risk := e2.Risk } : Fiber)).set (i : Int).toNat ({ A := e3.A, B := e3.B, Length := w64 ((w64 (k2 + 1)) + 1), Risk := e3.Risk } : Fiber)).set (i : Int).toNat ({ A := e4.A, B := e4.B, Length := e4.Length, Risk := w64 ((w64 ((w64 (k2 + 1)) + 1)) + 1) } : Fiber)).length c)), (34, (.int .i64 i)), (35, (.int .i64 (w64 ((w64 ((w64 (k2 + 1)) + 1)) + 1)))), (36, (.pointer (some ⟨p4, o4 + 0, none⟩))), (37, (.pointer (some ⟨p4, o4 + 3, none⟩)))] := by simpa only [List.length_set, Nat.add_zero] using hf
   refine wl_end (then_n (reg (pz 3 hf fun a hf => ?_)))
   refine wl_end (blk_n (then_n (reg (pz 3 hf fun a hf => ?_))))
   refine wl_end ?_
   have hf := hf.pn [0, 1, 5]
   have hf : Fr a 41 [(0, (.slice A a'.length c)), (1, (.int .i64 (w64 ((w64 ((w64 ((w64 (k2 + 1)) + 1)) + 1)) + 1)))), (5, (.int .i64 (w64 (i + 1))))] := by first | exact hf | (simp only [List.length_set, hlen] at hf; exact hf)
   have H := H.lt_ [] [true] [] []
   exact then_n ⟨((((a2.set (i : Int).toNat ({ A := k2, B := e.B, Length := e.Length, Risk := e.Risk } : Fiber)).set (i : Int).toNat ({ A := e2.A, B := w64 (k2 + 1), Length := e2.Length, Risk := e2.Risk } : Fiber)).set (i : Int).toNat ({ A := e3.A, B := e3.B, Length := w64 ((w64 (k2 + 1)) + 1), Risk := e3.Risk } : Fiber)).set (i : Int).toNat ({ A := e4.A, B := e4.B, Length := e4.Length, Risk := w64 ((w64 ((w64 (k2 + 1)) + 1)) + 1) } : Fiber), w64 ((w64 ((w64 ((w64 (k2 + 1)) + 1)) + 1)) + 1), w64 (i + 1)), hR1, (by simp only [List.length_set, hlen]), hf, H⟩
  ·refine wp_exit (then_x (then_x (blk_e (?_))))
   have hf := hf.pn [0, 1, 5]
   have hf : Fr a 41 [(0, (.slice A a'.length c)), (1, (.int .i64 k2)), (5, (.int .i64 i))] := by first | exact hf | (simp only [List.length_set, hlen] at hf; exact hf)
   have H := H.lt_ [] [true] [] []
   exact ⟨(a2, k2, i), (Option.some.inj hR1).symm, (by simp only [List.length_set, hlen]), hf, H⟩
 rintro a w ⟨⟨a3, k3, i2⟩, rfl, hlen, hf, H⟩
 try dsimp only at hlen
 have hf : Fr a 41 [(0, (.slice A a3.length c)), (1, (.int .i64 k3)), (5, (.int .i64 i2))] := by rw [hlen]; exact hf
 try dsimp only at hF
 refine then_n (sqz (pz 2 hf fun a hf => ?_))
 refine wer ?_
 have H := H.rowOwn 0 rfl rfl
 obtain ⟨F', H⟩ := H.freezeOwn 0 rfl
 rw [hlen] at H
 obtain rfl := oi hF
 refine rT hf ?_
 exact ⟨_, rfl, H.chg, mk_int, _, H.ownAt 0 rfl, H.back⟩
theorem laws_markNetwork_ok {S : Nat → Prop} {F : List Nat} {cs : List Value} {v1_ : Value} {a' : Network} {k' : Int} {r : Int × Network} (hO : GoTy.own w0 F cs a') (hn : F.Nodup) (h1 : VR w0 S v1_ k') (hF : laws_markNetwork fu a' k' = some r) :
    Calls Try.prog 14 [(bif GoTy.agg (Network) then .agg cs.toArray else cs.headD undef), v1_].toArray w0 fun e w' => ∃ v, e = .returned v ∧ (Chg w0 w' F ∧ VR w' (fun _ => True) v r.1 ∧ ∃ F', GoTy.own w' F' cs r.2 ∧ Back w0 w' F F') := by
 obtain rfl := VR_int h1
 obtain ⟨A1, c1, F1, A2, c2, F2, rfl, hFe, l1, l2⟩ := Network_own hO
 have H := Mem.startG S hO hn
 have H := H.recast (X := [(⟨F, MP.own F [(.slice A1 a'.Nodes.length c1), (.slice A2 a'.Fibers.length c2)] (a' : Network)⟩ : DI)]) (Y := [(⟨F1, MP.own F1 [(.slice A1 a'.Nodes.length c1)] (a'.Nodes : List ByteArray)⟩ : DI), (⟨F2, MP.own F2 [(.slice A2 a'.Fibers.length c2)] (a'.Fibers : List Fiber)⟩ : DI)]) (D := []) (List.Perm.of_eq (by simp [hFe])) fun _ => (ps1 l1 (ps1 l2 ps0))
 have H := H.lend 0 rfl
 have H := H.lend 1 rfl
 refine en Try.func14 fun a hf => ?_
 rw [laws_markNetwork] at hF
 refine bx hf H fun b' a w hf H => ?_
 refine pz 1 hf fun a hf => ?_
 refine wr (pz 1 hf fun a hf => ?_)
 refine lB 0 hf H TF.ls22 fun a hf => ?_
 refine pz 1 hf fun a hf => ?_
 obtain ⟨y, hy, hF⟩ := bs_ hF
 refine oc hf TF.cl34 (laws_markStringS_ok (S := TT) (F := F1) (cs := [(.slice A1 a'.Nodes.length c1)]) (H.ownAt 0 rfl) H.diNd.1 mk_int hy) fun v w a hp hf => ?_
 obtain ⟨hch, hv, F4, ho, hbk⟩ := hp
 obtain rfl := VR_int hv
 have H := H.wrote rfl hch ho hbk
 have H := H.lend 0 rfl
 have H := H.lend 1 rfl
 refine pz 1 hf fun a hf => ?_
 refine wr (pz 1 hf fun a hf => ?_)
 refine lB 0 hf H TF.ls30 fun a hf => ?_
 refine pz 1 hf fun a hf => ?_
 have H := H.frontD 1 rfl
 obtain ⟨y2, hy2, hF⟩ := bs_ hF
 refine oc hf TF.cl35 (laws_markFiberS_ok (S := TT) (F := F2) (cs := [(.slice A2 a'.Fibers.length c2)]) (H.ownAt 0 rfl) H.diNd.1 mk_int hy2) fun v2 w a hp2 hf => ?_
 obtain ⟨hch2, hv2, F5, ho2, hbk2⟩ := hp2
 obtain rfl := VR_int hv2
 have H := H.wrote rfl hch2 ho2 hbk2
 have H := H.lend 0 rfl
 have H := H.lend 1 rfl
 refine pz 1 hf fun a hf => ?_
 refine wr (pz 2 hf fun a hf => ?_)
 refine wer ?_
 have H := H.frontD 1 rfl
 have H := H.recast (X := [(⟨F4, MP.own F4 [(.slice A1 a'.Nodes.length c1)] (y.2 : List ByteArray)⟩ : DI), (⟨F5, MP.own F5 [(.slice A2 a'.Fibers.length c2)] (y2.2 : List Fiber)⟩ : DI)]) (Y := [(⟨(F4 ++ F5), MP.own (F4 ++ F5) [(.slice A1 a'.Nodes.length c1), (.slice A2 a'.Fibers.length c2)] (({ Nodes := y.2, Fibers := y2.2 } : Network) : Network)⟩ : DI)]) (List.Perm.of_eq (by simp)) fun _ => ps1 (Network_ownmk (x := ({ Nodes := y.2, Fibers := y2.2 } : Network)) (H.ownAt 0 rfl) (H.ownAt 1 rfl)) ps0
 obtain rfl := oi hF
 refine rT hf ?_
 exact ⟨_, rfl, H.chg, mk_int, _, H.ownAt 0 rfl, H.back⟩
theorem laws_markIntS_ok {S : Nat → Prop} {F : List Nat} {cs : List Value} {v1_ : Value} {a' : List Int} {k' : Int} {r : Int × List Int} (hO : GoTy.own w0 F cs a') (hn : F.Nodup) (h1 : VR w0 S v1_ k') (hF : laws_markIntS fu a' k' = some r) :
    Calls Try.prog 15 [(bif GoTy.agg (List Int) then .agg cs.toArray else cs.headD undef), v1_].toArray w0 fun e w' => ∃ v, e = .returned v ∧ (Chg w0 w' F ∧ VR w' (fun _ => True) v r.1 ∧ ∃ F', GoTy.own w' F' cs r.2 ∧ Back w0 w' F F') := by
 obtain rfl := VR_int h1
 obtain ⟨A, c, rfl, hO⟩ := own_list hO
 have H := Mem.startG S hO hn
 obtain ⟨Fs, E, H, -⟩ := H.thaw rfl
 have H := H.rowSh 0 rfl
 refine en Try.func15 fun a hf => ?_
 rw [laws_markIntS] at hF
 refine sqz (pz 1 hf fun a hf => ?_)
 refine we (sqz (pz 1 hf fun a hf => ?_))
 refine wl_end (then_n ?_)
 obtain ⟨out', hB1, hF⟩ := bs_ hF
 have hf := hf.pn [0, 1, 5]
 have hf : Fr a 19 [(0, (.slice A a'.length c)), (1, (.int .i64 k')), (5, (.int .i64 0))] := by first | exact hf | (simp only [List.length_set] at hf; exact hf)
 have H := H.lt_ [] [true] [] []
 refine loopC (fun (s : List Int × Int × Int) (a : Act) (w : World) => match s with | (a2, k2, i) => a2.length = a'.length ∧ Fr a 19 [(0, (.slice A a'.length c)), (1, (.int .i64 k2)), (5, (.int .i64 i))] ∧ Mem ⟨w0, F⟩ S [] [⟨.sh true, E, A, c, (a2 : List Int)⟩] [] [] w) (fun k (s : List Int × Int × Int) => laws_markIntS_L1 fu k s.1 s.2.1 s.2.2 = some out') (fun s => out' = s) (a', k', 0) fu hB1 ⟨rfl, hf, H⟩ (fun s h => by cases h) ?_ ?_
 ·rintro fk ⟨a2, k2, i⟩ a w hR1 hI
  replace hR1 : laws_markIntS_L1 fu (fk + 1) a2 k2 i = some out' := hR1
  rw [laws_markIntS_L1] at hR1
  obtain ⟨hlen, hf, H⟩ := hI
  have hf : Fr a 19 [(0, (.slice A a2.length c)), (1, (.int .i64 k2)), (5, (.int .i64 i))] := by rw [hlen]; exact hf
  refine sq (sqz (pz 4 hf fun a hf => ?_))
  refine wl_end (then_n (ib hR1 hf (fun hc hR1 => ?_) fun hc hR1 => ?_))
  ·refine ws (pz 3 hf fun a hf => ?_)
   obtain ⟨e, he, hR1⟩ := bs_ hR1
   refine wl0 rfl (op_iaddrR hf H Try.underlying26 TF.sz3 0 rfl rfl rfl he (by decide) fun p o cs a hf hA hr hk => ?_)
   obtain rfl := hr
   refine wl0 rfl (op_storeR (e' := k2) (o := o) (off := 0) hf H TF.sz3 0 rfl rfl rfl rfl rfl (nle rfl) rfl hA he (st_full rfl) fun w H => ?_)
   replace hf : Fr a 19 [(0, (.slice A a2.length c)), (1, (.int .i64 k2)), (5, (.int .i64 i)), (12, (.slice A a2.length c)), (13, (.int .i64 i)), (14, (.int .i64 k2)), (15, (.pointer (some ⟨p, o + 0, none⟩)))] := hf.prune [0, 1, 5, 12, 13, 14, 15] rfl
   replace hf : Fr a 19 [(0, (.slice A (a2.set (i : Int).toNat k2).length c)), (1, (.int .i64 k2)), (5, (.int .i64 i)), (12, (.slice A (a2.set (i : Int).toNat k2).length c)), (13, (.int .i64 i)), (14, (.int .i64 k2)), (15, (.pointer (some ⟨p, o + 0, none⟩)))] := by simpa only [List.length_set, Nat.add_zero] using hf
   refine wl_end (then_n (reg (pz 3 hf fun a hf => ?_)))
   refine wl_end (blk_n (then_n (reg (pz 3 hf fun a hf => ?_))))
   refine wl_end ?_
   have hf := hf.pn [0, 1, 5]
   have hf : Fr a 19 [(0, (.slice A a'.length c)), (1, (.int .i64 (w64 (k2 + 1)))), (5, (.int .i64 (w64 (i + 1))))] := by first | exact hf | (simp only [List.length_set, hlen] at hf; exact hf)
   have H := H.lt_ [] [true] [] []
   exact then_n ⟨(a2.set (i : Int).toNat k2, w64 (k2 + 1), w64 (i + 1)), hR1, (by simp only [List.length_set, hlen]), hf, H⟩
  ·refine wp_exit (then_x (then_x (blk_e (?_))))
   have hf := hf.pn [0, 1, 5]
   have hf : Fr a 19 [(0, (.slice A a'.length c)), (1, (.int .i64 k2)), (5, (.int .i64 i))] := by first | exact hf | (simp only [List.length_set, hlen] at hf; exact hf)
   have H := H.lt_ [] [true] [] []
   exact ⟨(a2, k2, i), (Option.some.inj hR1).symm, (by simp only [List.length_set, hlen]), hf, H⟩
 rintro a w ⟨⟨a3, k3, i2⟩, rfl, hlen, hf, H⟩
 try dsimp only at hlen
 have hf : Fr a 19 [(0, (.slice A a3.length c)), (1, (.int .i64 k3)), (5, (.int .i64 i2))] := by rw [hlen]; exact hf
 try dsimp only at hF
 refine then_n (sqz (pz 2 hf fun a hf => ?_))
 refine wer ?_
 have H := H.rowOwn 0 rfl rfl
 obtain ⟨F', H⟩ := H.freezeOwn 0 rfl
 rw [hlen] at H
 obtain rfl := oi hF
 refine rT hf ?_
 exact ⟨_, rfl, H.chg, mk_int, _, H.ownAt 0 rfl, H.back⟩
theorem laws_heldIntS_ok {S : Nat → Prop} {v0_ : Value} {v1_ : Value} {a' : List Int} {k' : Int} {r : Int} (h0 : VR w0 S v0_ a') (h1 : VR w0 S v1_ k') (hF : laws_heldIntS fu a' k' = some r) :
    Calls Try.prog 16 [v0_, v1_].toArray w0 fun e w' => ∃ v, e = .returned v ∧ (Below w0.heap.size w0 w' ∧ VR w' (St ⟨w0, []⟩ S [] [] [] true) v r) := by
 obtain ⟨A, c, rfl, hl⟩ := VR_list h0
 obtain rfl := VR_int h1
 have H := Mem.start ⟨w0, []⟩ S
 have H := H.pA hl
 refine en Try.func16 fun a hf => ?_
 rw [laws_heldIntS] at hF
 refine sqz (pz 1 hf fun a hf => ?_)
 refine we (sqz (pz 1 hf fun a hf => ?_))
 refine wl_end (then_n ?_)
 obtain ⟨out', hB1, hF⟩ := bs_ hF
 have hf := hf.pn [0, 1, 5]
 have H := H.lt_ [] [] [] [0]
 refine loopC (fun (s : Int × Int) (a : Act) (w : World) => match s with | (k2, i) => Fr a 21 [(0, (.slice A a'.length c)), (1, (.int .i64 k2)), (5, (.int .i64 i))] ∧ Mem ⟨w0, []⟩ S [] [] [] [(false, MP.val [(.slice A a'.length c)] (a' : List Int))] w) (fun k (s : Int × Int) => laws_heldIntS_L1 fu a' k s.1 s.2 = some out') (fun s => out' = Out.next s) (k', 0) fu hB1 ⟨hf, H⟩ (fun s h => by cases h) ?_ ?_
 ·rintro fk ⟨k2, i⟩ a w hR1 hI
  replace hR1 : laws_heldIntS_L1 fu a' (fk + 1) k2 i = some out' := hR1
  rw [laws_heldIntS_L1] at hR1
  obtain ⟨hf, H⟩ := hI
  refine sq (sqz (pz 4 hf fun a hf => ?_))
  refine wl_end (then_n (ib hR1 hf (fun hc hR1 => ?_) fun hc hR1 => ?_))
  ·refine wp_skip (then_n (sq (wp_block (sq (sqz (pz 2 hf fun a hf => ?_))))))
   obtain ⟨e, he, hR1⟩ := bs_ hR1
   refine wl0 rfl (op_iaddr hf H Try.underlying26 TF.sz3 0 rfl rfl rfl he (by decide) fun p o cs a hf hr H => ?_)
   obtain rfl := hr
   refine oq hf (rq_loadI hf H TF.ls3 0 0 rfl rfl rfl) fun a hf => ?_
   refine pz 2 hf fun a hf => ?_
   refine wl_end (then_n (ib hR1 hf (fun hc2 hR1 => ?_) fun hc2 hR1 => ?_))
   ·refine sqz (pz 1 hf fun a hf => ?_)
    have hf := hf.pn [4]
    refine wl_end (then_n (wp_ret (then_r (blk_r (then_r (then_r (blk_r (then_r (then_r (?_))))))))))
    obtain rfl := oi hR1
    replace hF := on_ret hF
    obtain rfl := oi hF
    refine rT hf ?_
    exact ⟨_, rfl, H.bel, mk_int⟩
   ·refine wp_skip (then_n (reg (pz 3 hf fun a hf => ?_)))
    refine wl_end (blk_n (then_n (reg (pz 3 hf fun a hf => ?_))))
    have hf := hf.pn [0, 1, 5]
    refine wl_end ?_
    have hf := hf.pn [0, 1, 5]
    have H := H.lt_ [] [] [] [1]
    exact then_n ⟨(w64 (k2 + 1), w64 (i + 1)), hR1, hf, H⟩
  ·refine wp_exit (then_x (then_x (blk_e (?_))))
   have hf := hf.pn [0, 1, 5]
   have H := H.lt_ [] [] [] [0]
   exact ⟨(k2, i), (Option.some.inj hR1).symm, hf, H⟩
 rintro a w ⟨⟨k3, i2⟩, rfl, hf, H⟩
 replace hF := on_next hF
 try dsimp only at hF
 refine then_n (sqz (pz 2 hf fun a hf => ?_))
 refine wer ?_
 obtain rfl := oi hF
 refine rT hf ?_
 exact ⟨_, rfl, H.bel, mk_int⟩
theorem laws_FnExactFewestSites_ok {S : Nat → Prop} {v0_ : Value} {v1_ : Value} {aN : Network} {aReach : Int} {r : Bool} (h0 : VR w0 S v0_ aN) (h1 : VR w0 S v1_ aReach) (hF : laws_FnExactFewestSites fu aN aReach = some r) :
    Calls Try.prog 4 [v0_, v1_].toArray w0 fun e w' => ∃ v, e = .returned v ∧ (Below w0.heap.size w0 w' ∧ VR w' (St ⟨w0, []⟩ S [] [] [] true) v r) := by
 obtain ⟨A, c, A2, c2, rfl, hl, hl2⟩ := Network_open h0
 obtain rfl := VR_int h1
 have H := Mem.start ⟨w0, []⟩ S
 have H := H.pA hl
 have H := H.pA hl2
 refine en Try.func4 fun a hf => ?_
 rw [laws_FnExactFewestSites] at hF
 refine bx hf H fun b' a w hf H => ?_
 refine pz 1 hf fun a hf => ?_
 refine wr (pz 1 hf fun a hf => ?_)
 refine wr (lN 0 hf H TF.la25 fun a hf => ?_)
 refine pz 1 hf fun a hf => ?_
 obtain ⟨y, hy, hF⟩ := bs_ hF
 refine oc hf TF.cl5 (laws_szNetwork_ok (S := TT) (Network_mkv (x := aN) (H.rt 1 rfl) (H.rt 0 rfl)) mk_int hy) fun v w a hp hf => ?_
 obtain ⟨hb, hp⟩ := hp
 obtain rfl := VR_int hp
 have H := H.keep hb
 refine pz 1 hf fun a hf => ?_
 refine we (sqz (pz 2 hf fun a hf => ?_))
 refine wl_end (then_n (ib hF hf (fun hc hF => ?_) fun hc hF => ?_))
 ·refine sqz (pz 1 hf fun a hf => ?_)
  refine wl_end (then_n (wp_ret (then_r (?_))))
  obtain rfl := oi hF
  refine rT hf ?_
  exact ⟨_, rfl, H.bel, mk_bool⟩
 ·refine wp_skip (then_n (sq (reg (lN 0 hf H TF.la25 fun a hf => ?_))))
  obtain ⟨y2, hy2, hF⟩ := bs_ hF
  refine oc hf TF.cl7 (laws_toNetwork_ok (S := TT) (Network_mkv (x := aN) (H.rt 1 rfl) (H.rt 0 rfl)) hy2) fun v2 w a hp2 hf => ?_
  obtain ⟨hb2, F, hp3, hN⟩ := hp2
  obtain ⟨A3, c3, F2, A4, c4, F3, rfl, rfl, hl3, hl4⟩ := Network_vo hp3
  have H := H.aO2 hb2 hN hl3 hl4
  have H := H.lend 0 rfl
  have H := H.lend 1 rfl
  refine pz 1 hf fun a hf => ?_
  obtain ⟨y3, hy3, hF⟩ := bs_ hF
  refine oc hf TF.cl12 (spec_FewestSites_ok (S := TT) (Network_mkv (x := y2) (H.rt 1 rfl) (H.rt 0 rfl)) mk_int hy3) fun v3 w a hp4 hf => ?_
  obtain ⟨hb3, v4, v5, v6, rfl, hp5, hp6, hp7⟩ := hp4
  obtain ⟨A5, c5, rfl, hl5⟩ := VR_list hp5
  obtain rfl := VR_bool hp6
  obtain rfl := VR_bool hp7
  obtain ⟨F4, H⟩ := H.addRo hb3 (p := MP.val [(.slice A5 y3.1.length c5)] (y3.1 : List Int)) hl5
  have H := H.lendQ 0 (q := MP.val [(.slice A5 y3.1.length c5)] (y3.1 : List Int)) rfl fun _ _ h => h
  refine pz 7 hf fun a hf => ?_
  have hf := hf.pn [1, 2, 6, 7, 8]
  refine wr (lN 0 hf H TF.la25 fun a hf => ?_)
  obtain ⟨y4, hy4, hF⟩ := bs_ hF
  refine oc hf TF.cl7 (laws_toNetwork_ok (S := TT) (Network_mkv (x := aN) (H.rt 4 rfl) (H.rt 3 rfl)) hy4) fun v7 w a hp8 hf => ?_
  obtain ⟨hb4, F5, hp9, hN2⟩ := hp8
  obtain ⟨A6, c6, F6, A7, c7, F7, rfl, rfl, hl6, hl7⟩ := Network_vo hp9
  have H := H.aO2 hb4 hN2 hl6 hl7
  have H := H.lend 0 rfl
  have H := H.lend 1 rfl
  refine aL hf H TF.zv32 fun b2 a w hf H => ?_
  refine sB 0 hf H TF.sz32 fun w H => ?_
  refine wr (lN 0 hf H TF.la32 fun a hf => ?_)
  refine pz 1 hf fun a hf => ?_
  obtain ⟨y5, hy5, hF⟩ := bs_ hF
  refine oc hf TF.cl13 (impl_FewestSites_ok (S := TT) (Network_mkv (x := y4) (H.rt 1 rfl) (H.rt 0 rfl)) mk_int hy5) fun v8 w a hp10 hf => ?_
  obtain ⟨hb5, F8, v9, v10, v11, rfl, hp11, hp12, hp13, hN3⟩ := hp10
  obtain ⟨A8, c8, rfl, hl8⟩ := VO_list hp11
  obtain rfl := VR_bool hp12
  obtain rfl := VR_bool hp13
  have H := H.aO1 hb5 hN3 hl8
  have H := H.lend 0 rfl
  refine pz 7 hf fun a hf => ?_
  refine wl_end (then_n (sq (sq ?_)))
  obtain ⟨c9, hGc9, hF⟩ := bs_ hF
  have fh := hf.prune [1, 2, 6, 7, 8, 9, 10, 11, 12] rfl
  have Hm := H.lt_ [true, true] [] [true, true, true, true, false, false] [0, 1, 2, 3, 6, 7]
  refine midF 54 (.bool c9) fh Hm ?_ fun a w hf H => ?_
  ·refine reg (pz 2 hf fun a hf => ?_)
   obtain ⟨y6, hy6, hGc9⟩ := bs_ hGc9
   refine oc hf TF.cl11 (laws_eqIntS_ok (S := TT) (mk_list (H.rt 0 rfl)) (mk_list (H.rt 3 rfl)) hy6) fun v12 w a hp14 hf => ?_
   obtain ⟨hb6, hp14⟩ := hp14
   obtain rfl := VR_bool hp14
   have H := H.keep hb6
   refine pz 2 hf fun a hf => ?_
   refine iteB hGc9 (fun hc2 hGc9 => ?_) fun hc2 hGc9 => ?_
   ·have hf := hf.lit 45 rfl hc2
    refine pz 9 hf fun a hf => ?_
    obtain rfl := oi hGc9
    have hf := hf.pn [54, 1, 2, 6, 7, 8, 9, 10, 11, 12]
    have H := H.lt_ [true, true] [] [true, true, true, true, false, false] [0, 1, 2, 3, 6, 7]
    exact wl_end ⟨hf, H⟩
   ·have hf := hf.lit 45 rfl hc2
    refine pz 5 hf fun a hf => ?_
    refine iteB hGc9 (fun hc3 hGc9 => ?_) fun hc3 hGc9 => ?_
    ·have hf := hf.lit 50 rfl hc3
     refine pz 4 hf fun a hf => ?_
     obtain rfl := oi hGc9
     have hf := hf.pn [54, 1, 2, 6, 7, 8, 9, 10, 11, 12]
     have H := H.lt_ [true, true] [] [true, true, true, true, false, false] [0, 1, 2, 3, 6, 7]
     exact wl_end ⟨hf, H⟩
    ·have hf := hf.lit 50 rfl hc3
     refine pz 4 hf fun a hf => ?_
     obtain rfl := oi hGc9
     have hf := hf.pn [54, 1, 2, 6, 7, 8, 9, 10, 11, 12]
     have H := H.lt_ [true, true] [] [true, true, true, true, false, false] [0, 1, 2, 3, 6, 7]
     exact wl_end ⟨hf, H⟩
  refine then_n (ib hF hf (fun hc4 hF => ?_) fun hc4 hF => ?_)
  ·refine sqz (pz 1 hf fun a hf => ?_)
   refine wl_end (then_n (wp_ret (then_r (?_))))
   obtain rfl := oi hF
   refine rT hf ?_
   exact ⟨_, rfl, H.bel, mk_bool⟩
  ·refine wp_skip (then_n (sq (sq (dw [] 5 fun w hb => ?_))))
   have H := H.keep hb
   refine strT (H.lt_ [true, false] [] [false, false, false, false] []) (fun w H => trivial) fun hS => ?_
   refine zS 0 [] rfl rfl rfl rfl hf hS (fun w H => rq_loadBN hf H TF.la32 0 rfl rfl rfl rfl) fun a hf => ?_
   refine strT (H.lt_ [true, true] [] [false, false, false, false] []) (fun w H => H.lt_ [true, false] [] [] []) fun hS => ?_
   refine zS 1 [] rfl rfl rfl rfl hf hS (fun w H => rq_loadBN hf H TF.la25 1 rfl rfl rfl rfl) fun a hf => ?_
   obtain ⟨y7, hy7, hF⟩ := bs_ hF
   refine nn 2 rfl (oC hf TF.cl7 (laws_toNetwork_ok (S := TT) (Network_mkv (x := aN) (H.rt 5 rfl) (H.rt 4 rfl)) hy7) fun v13 w a hp15 hf => ?_)
   obtain ⟨hb7, F10, hp16, hN4⟩ := hp15
   obtain ⟨A9, c10, F11, A10, c11, F12, rfl, rfl, hl9, hl10⟩ := Network_vo hp16
   have H := H.aO2 hb7 hN4 hl9 hl10
   have H := H.lend 0 rfl
   have H := H.lend 1 rfl
   have hS := H.lt_ [true, true] [] [false, false, false, false, false, false] []
   refine aS hS ?_
   obtain ⟨y8, hy8, hF⟩ := bs_ hF
   refine nn 3 rfl (oC hf TF.cl10 (laws_eqNetwork_ok (S := TT) (Network_mkv (x := y4) (H.rt 4 rfl) (H.rt 3 rfl)) (Network_mkv (x := y7) (H.rt 1 rfl) (H.rt 0 rfl)) hy8) fun v14 w a hp17 hf => ?_)
   obtain ⟨hb8, hp17⟩ := hp17
   obtain rfl := VR_bool hp17
   have H := H.keep hb8
   have hS := H.lt_ [true, true] [] [false, false, false, false, false, false] []
   refine aS hS ?_
   refine zp 4 hf hS fun a hf => ?_
   refine dk ?_
   refine then_n (ib hF hf (fun hc5 hF => ?_) fun hc5 hF => ?_)
   ·refine sqz (pz 1 hf fun a hf => ?_)
    have hf := hf.pn [4]
    refine wl_end (then_n (wp_ret (then_r (?_))))
    obtain rfl := oi hF
    refine rT hf ?_
    exact ⟨_, rfl, H.bel, mk_bool⟩
   ·refine wp_skip (then_n (sqz (pz 1 hf fun a hf => ?_)))
    refine wr (lN 0 hf H TF.la32 fun a hf => ?_)
    refine pz 1 hf fun a hf => ?_
    have H := H.frontD 4 rfl
    have H := H.frontD 4 rfl
    have H := H.recast (X := [(⟨F6, MP.own F6 [(.slice A6 y4.Nodes.length c6)] (y4.Nodes : List ByteArray)⟩ : DI), (⟨F7, MP.own F7 [(.slice A7 y4.Fibers.length c7)] (y4.Fibers : List Fiber)⟩ : DI)]) (Y := [(⟨(F6 ++ F7), MP.own (F6 ++ F7) [(.slice A6 y4.Nodes.length c6), (.slice A7 y4.Fibers.length c7)] (y4 : Network)⟩ : DI)]) (List.Perm.of_eq (by simp)) fun _ => ps1 (Network_ownmk (x := y4) (H.ownAt 0 rfl) (H.ownAt 1 rfl)) ps0
    obtain ⟨y9, hy9, hF⟩ := bs_ hF
    refine oc hf TF.cl14 (laws_markNetwork_ok (S := TT) (F := (F6 ++ F7)) (cs := [(.slice A6 y4.Nodes.length c6), (.slice A7 y4.Fibers.length c7)]) (H.ownAt 0 rfl) H.diNd.1 mk_int hy9) fun v15 w a hp18 hf => ?_
    obtain ⟨hch, hv, F13, ho, hbk⟩ := hp18
    obtain rfl := VR_int hv
    have H := H.wrote rfl hch ho hbk
    obtain ⟨F14, F15, hFe, hl11, hl12⟩ := Network_ownc (H.ownAt 0 rfl)
    have H := H.recast (X := [(⟨F13, MP.own F13 [(.slice A6 y4.Nodes.length c6), (.slice A7 y4.Fibers.length c7)] (y9.2 : Network)⟩ : DI)]) (Y := [(⟨F14, MP.own F14 [(.slice A6 y4.Nodes.length c6)] (y9.2.Nodes : List ByteArray)⟩ : DI), (⟨F15, MP.own F15 [(.slice A7 y4.Fibers.length c7)] (y9.2.Fibers : List Fiber)⟩ : DI)]) (List.Perm.of_eq (by simp [hFe])) fun _ => (ps1 hl11 (ps1 hl12 ps0))
    have H := H.pA hl
    have H := H.pA hl2
    have H := H.lend 0 rfl
    have H := H.lend 1 rfl
    have H := H.lend 2 rfl
    have H := H.lend 3 rfl
    have H := H.lend 4 rfl
    have H := H.lendQ 5 (q := MP.val [(.slice A5 y3.1.length c5)] (y3.1 : List Int)) rfl fun _ _ h => h
    refine pz 1 hf fun a hf => ?_
    refine wl_end (then_n (sq (sq ?_)))
    obtain ⟨c12, hGc12, hF⟩ := bs_ hF
    have fh2 := hf.prune [1, 2, 6, 7, 8, 10] rfl
    have Hm2 := H.lt_ [false, true] [] [false, false, false, false, true, true] [0, 1, 6, 7]
    refine midF 80 (.bool c12) fh2 Hm2 ?_ fun a w hf H => ?_
    ·refine reg (pz 3 hf fun a hf => ?_)
     refine iteB hGc12 (fun hc6 hGc12 => ?_) fun hc6 hGc12 => ?_
     ·have hf := hf.lit 65 rfl hc6
      refine pz 15 hf fun a hf => ?_
      obtain rfl := oi hGc12
      have hf := hf.pn [80, 1, 2, 6, 7, 8, 10]
      have H := H.lt_ [false, true] [] [false, false, false, false, true, true] [0, 1, 6, 7]
      exact wl_end ⟨hf, H⟩
     ·have hf := hf.lit 65 rfl hc6
      refine pz 2 hf fun a hf => ?_
      obtain ⟨y10, hy10, hGc12⟩ := bs_ hGc12
      refine wlg hf rfl rfl rfl (oC hf TF.cl11 (laws_eqIntS_ok (S := TT) (mk_list (H.rt 1 rfl)) (mk_list (H.rt 0 rfl)) hy10) fun v16 w a hp19 hf => ?_)
      obtain ⟨hb9, hp19⟩ := hp19
      obtain rfl := VR_bool hp19
      have H := H.keep hb9
      refine pz 3 hf fun a hf => ?_
      refine iteB hGc12 (fun hc7 hGc12 => ?_) fun hc7 hGc12 => ?_
      ·have hf := hf.lit 71 rfl hc7
       refine pz 9 hf fun a hf => ?_
       obtain rfl := oi hGc12
       have hf := hf.pn [80, 1, 2, 6, 7, 8, 10]
       have H := H.lt_ [false, true] [] [false, false, false, false, true, true] [0, 1, 6, 7]
       exact wl_end ⟨hf, H⟩
      ·have hf := hf.lit 71 rfl hc7
       refine pz 5 hf fun a hf => ?_
       refine iteB hGc12 (fun hc8 hGc12 => ?_) fun hc8 hGc12 => ?_
       ·have hf := hf.lit 76 rfl hc8
        refine pz 4 hf fun a hf => ?_
        obtain rfl := oi hGc12
        have hf := hf.pn [80, 1, 2, 6, 7, 8, 10]
        have H := H.lt_ [false, true] [] [false, false, false, false, true, true] [0, 1, 6, 7]
        exact wl_end ⟨hf, H⟩
       ·have hf := hf.lit 76 rfl hc8
        refine pz 4 hf fun a hf => ?_
        obtain rfl := oi hGc12
        have hf := hf.pn [80, 1, 2, 6, 7, 8, 10]
        have H := H.lt_ [false, true] [] [false, false, false, false, true, true] [0, 1, 6, 7]
        exact wl_end ⟨hf, H⟩
    refine then_n (ib hF hf (fun hc9 hF => ?_) fun hc9 hF => ?_)
    ·refine sqz (pz 1 hf fun a hf => ?_)
     refine wl_end (then_n (wp_ret (then_r (?_))))
     obtain rfl := oi hF
     refine rT hf ?_
     exact ⟨_, rfl, H.bel, mk_bool⟩
    ·refine wp_skip (then_n (sqz (pz 1 hf fun a hf => ?_)))
     refine wr (pz 2 hf fun a hf => ?_)
     obtain ⟨y11, hy11, hF⟩ := bs_ hF
     refine oc hf TF.cl15 (laws_markIntS_ok (S := TT) (F := F8) (cs := [(.slice A8 y5.1.length c8)]) (H.ownAt 0 rfl) H.diNd.1 mk_int hy11) fun v17 w a hp20 hf => ?_
     obtain ⟨hch2, hv2, F16, ho2, hbk2⟩ := hp20
     obtain rfl := VR_int hv2
     have H := H.wrote rfl hch2 ho2 hbk2
     have H := H.pA hl
     have H := H.pA hl2
     have H := H.lend 0 rfl
     have H := H.lendQ 1 (q := MP.val [(.slice A5 y3.1.length c5)] (y3.1 : List Int)) rfl fun _ _ h => h
     refine pz 1 hf fun a hf => ?_
     refine wr (pz 1 hf fun a hf => ?_)
     refine wr (pz 2 hf fun a hf => ?_)
     obtain ⟨y12, hy12, hF⟩ := bs_ hF
     refine oc hf TF.cl16 (laws_heldIntS_ok (S := TT) (mk_list (H.rt 1 rfl)) mk_int hy12) fun v18 w a hp21 hf => ?_
     obtain ⟨hb10, hp21⟩ := hp21
     obtain rfl := VR_int hp21
     have H := H.keep hb10
     refine pz 1 hf fun a hf => ?_
     refine we (sqz (pz 2 hf fun a hf => ?_))
     refine wl_end (then_n (ib hF hf (fun hc10 hF => ?_) fun hc10 hF => ?_))
     ·refine sqz (pz 1 hf fun a hf => ?_)
      have hf := hf.pn [4]
      refine wl_end (then_n (wp_ret (then_r (?_))))
      obtain rfl := oi hF
      refine rT hf ?_
      exact ⟨_, rfl, H.bel, mk_bool⟩
     ·refine wp_skip (then_n (sq (sqz (pz 3 hf fun a hf => ?_))))
      refine wl_end (then_n (ib hF hf (fun hc11 hF => ?_) fun hc11 hF => ?_))
      ·refine sqz (pz 1 hf fun a hf => ?_)
       have hf := hf.pn [4]
       refine wl_end (then_n (wp_ret (then_r (?_))))
       obtain rfl := oi hF
       refine rT hf ?_
       exact ⟨_, rfl, H.bel, mk_bool⟩
      ·refine wp_skip (then_n (sq (reg (lN 0 hf H TF.la25 fun a hf => ?_))))
       obtain ⟨y13, hy13, hF⟩ := bs_ hF
       refine oc hf TF.cl7 (laws_toNetwork_ok (S := TT) (Network_mkv (x := aN) (H.rt 3 rfl) (H.rt 2 rfl)) hy13) fun v19 w a hp22 hf => ?_
       obtain ⟨hb11, F17, hp23, hN5⟩ := hp22
       obtain ⟨A11, c13, F18, A12, c14, F19, rfl, rfl, hl13, hl14⟩ := Network_vo hp23
       have H := H.aO2 hb11 hN5 hl13 hl14
       have H := H.lend 0 rfl
       have H := H.lend 1 rfl
       refine pz 1 hf fun a hf => ?_
       obtain ⟨y14, hy14, hF⟩ := bs_ hF
       refine oc hf TF.cl13 (impl_FewestSites_ok (S := TT) (Network_mkv (x := y13) (H.rt 1 rfl) (H.rt 0 rfl)) mk_int hy14) fun v20 w a hp24 hf => ?_
       obtain ⟨hb12, F20, v21, v22, v23, rfl, hp25, hp26, hp27, hN6⟩ := hp24
       obtain ⟨A13, c15, rfl, hl15⟩ := VO_list hp25
       obtain rfl := VR_bool hp26
       obtain rfl := VR_bool hp27
       have H := H.aO1 hb12 hN6 hl15
       have H := H.lend 0 rfl
       refine pz 7 hf fun a hf => ?_
       have hf := hf.pn [6, 7, 8, 10, 14, 16, 17, 18]
       refine wl_end (then_n (sq (sq ?_)))
       obtain ⟨c16, hGc16, hF⟩ := bs_ hF
       have fh3 := hf.prune [10, 14] rfl
       have Hm3 := H.lt_ [false] [] [false, false, false, true, false] [4]
       refine midF 113 (.bool c16) fh3 Hm3 ?_ fun a w hf H => ?_
       ·refine reg (pz 2 hf fun a hf => ?_)
        obtain ⟨y15, hy15, hGc16⟩ := bs_ hGc16
        refine oc hf TF.cl11 (laws_eqIntS_ok (S := TT) (mk_list (H.rt 0 rfl)) (mk_list (H.rt 3 rfl)) hy15) fun v24 w a hp28 hf => ?_
        obtain ⟨hb13, hp28⟩ := hp28
        obtain rfl := VR_bool hp28
        have H := H.keep hb13
        refine pz 2 hf fun a hf => ?_
        refine iteB hGc16 (fun hc12 hGc16 => ?_) fun hc12 hGc16 => ?_
        ·have hf := hf.lit 104 rfl hc12
         refine pz 9 hf fun a hf => ?_
         obtain rfl := oi hGc16
         have hf := hf.pn [113, 10, 14]
         have H := H.lt_ [false] [] [false, false, false, true, false] [4]
         exact wl_end ⟨hf, H⟩
        ·have hf := hf.lit 104 rfl hc12
         refine pz 5 hf fun a hf => ?_
         refine iteB hGc16 (fun hc13 hGc16 => ?_) fun hc13 hGc16 => ?_
         ·have hf := hf.lit 109 rfl hc13
          refine pz 4 hf fun a hf => ?_
          obtain rfl := oi hGc16
          have hf := hf.pn [113, 10, 14]
          have H := H.lt_ [false] [] [false, false, false, true, false] [4]
          exact wl_end ⟨hf, H⟩
         ·have hf := hf.lit 109 rfl hc13
          refine pz 4 hf fun a hf => ?_
          obtain rfl := oi hGc16
          have hf := hf.pn [113, 10, 14]
          have H := H.lt_ [false] [] [false, false, false, true, false] [4]
          exact wl_end ⟨hf, H⟩
       refine then_n (ib hF hf (fun hc14 hF => ?_) fun hc14 hF => ?_)
       ·refine sqz (pz 1 hf fun a hf => ?_)
        refine wl_end (then_n (wp_ret (then_r (?_))))
        obtain rfl := oi hF
        refine rT hf ?_
        exact ⟨_, rfl, H.bel, mk_bool⟩
       ·refine wp_skip (then_n (sqz (pz 1 hf fun a hf => ?_)))
        refine wr (pz 2 hf fun a hf => ?_)
        obtain ⟨y16, hy16, hF⟩ := bs_ hF
        refine oc hf TF.cl16 (laws_heldIntS_ok (S := TT) (mk_list (H.rt 0 rfl)) mk_int hy16) fun v25 w a hp29 hf => ?_
        obtain ⟨hb14, hp29⟩ := hp29
        obtain rfl := VR_int hp29
        have H := H.keep hb14
        refine pz 1 hf fun a hf => ?_
        refine we (sqz (pz 2 hf fun a hf => ?_))
        refine wl_end (then_n (ib hF hf (fun hc15 hF => ?_) fun hc15 hF => ?_))
        ·refine sqz (pz 1 hf fun a hf => ?_)
         refine wl_end (then_n (wp_ret (then_r (?_))))
         obtain rfl := oi hF
         refine rT hf ?_
         exact ⟨_, rfl, H.bel, mk_bool⟩
        ·refine wp_skip (then_n (sq (sqz (pz 3 hf fun a hf => ?_))))
         refine wl_end (then_n (ib hF hf (fun hc16 hF => ?_) fun hc16 hF => ?_))
         ·refine sqz (pz 1 hf fun a hf => ?_)
          refine wl_end (then_n (wp_ret (then_r (?_))))
          obtain rfl := oi hF
          refine rT hf ?_
          exact ⟨_, rfl, H.bel, mk_bool⟩
         ·refine wp_skip (then_n (sqz (pz 1 hf fun a hf => ?_)))
          refine wer ?_
          obtain rfl := oi hF
          refine rT hf ?_
          exact ⟨_, rfl, H.bel, mk_bool⟩
end AT
