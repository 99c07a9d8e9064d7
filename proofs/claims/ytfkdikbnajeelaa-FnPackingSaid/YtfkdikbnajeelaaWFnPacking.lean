/- The Go functions do what is told of them, by program (gen.py). -/
import Derived.Test.YtfkdikbnajeelaaWFnPacking0
set_option linter.unusedVariables false
set_option linter.unusedSimpArgs false
set_option maxRecDepth 100000
set_option maxHeartbeats 1000000
namespace AT
open Go Go.RowKit Go.Proofs
variable {fu : Nat} {w0 : World}
theorem laws_rPacked_ok {S : Nat → Prop} {v0_ : Value} {v1_ : Value} {v2_ : Value} {rates : List Int} {units : List Int} {capacity : Int} {r : Int} (h0 : VR w0 S v0_ rates) (h1 : VR w0 S v1_ units) (h2 : VR w0 S v2_ capacity) (hF : laws_rPacked fu rates units capacity = some r) :
    Calls Try.prog 10 [v0_, v1_, v2_].toArray w0 fun e w' => ∃ v, e = .returned v ∧ (Below w0.heap.size w0 w' ∧ VR w' (St ⟨w0, []⟩ S [] [] [] true) v r) := by
 obtain ⟨A, c, rfl, hl⟩ := VR_list h0
 obtain ⟨A2, c2, rfl, hl2⟩ := VR_list h1
 obtain rfl := VR_int h2
 have H := Mem.start ⟨w0, []⟩ S
 have H := H.pA hl
 have H := H.pA hl2
 refine en Try.func10 fun a hf => ?_
 rw [laws_rPacked] at hF
 refine sqz (pz 1 hf fun a hf => ?_)
 refine we (sqz (pz 5 hf fun a hf => ?_))
 refine wl_end (then_n (ib hF hf (fun hc hF => ?_) fun hc hF => ?_))
 ·refine sqz (pz 1 hf fun a hf => ?_)
  refine wl_end (then_n (wp_ret (then_r (?_))))
  obtain rfl := oi hF
  refine rT hf ?_
  exact ⟨_, rfl, H.bel, mk_int⟩
 ·refine wp_skip (then_n (sqz (pz 3 hf fun a hf => ?_)))
  obtain ⟨l, hl_, hF⟩ := bs_ hF
  refine wl0 rfl (op_make (z0 := (0 : Int)) hf H Try.underlying24 TF.ai3 rfl (by decide) rfl rfl rfl hl_ (by decide) fun A3 c3 a w hf H => ?_)
  refine pz 1 hf fun a hf => ?_
  refine wr (pz 1 hf fun a hf => ?_)
  refine we (sqz (pz 1 hf fun a hf => ?_))
  refine wl_end (then_n ?_)
  obtain ⟨out', hB1, hF⟩ := bs_ hF
  have hf := hf.pn [0, 1, 2, 7, 8, 9]
  have H := H.lt_ [] [true] [] [0, 1]
  refine loopC (fun (s : List Int × Int × Int) (a : Act) (w : World) => match s with | (load, most, i) => ∃ (A4 : Option Addr) (c4 : Nat) (E : Go.TypeId), Fr a 79 [(0, (.slice A rates.length c)), (1, (.slice A2 units.length c2)), (2, (.int .i64 capacity)), (7, (.slice A4 load.length c4)), (8, (.int .i64 most)), (9, (.int .i64 i))] ∧ Mem ⟨w0, []⟩ S [] [⟨.sh true, E, A4, c4, (load : List Int)⟩] [] [(false, MP.val [(.slice A2 units.length c2)] (units : List Int)), (false, MP.val [(.slice A rates.length c)] (rates : List Int))] w) (fun k (s : List Int × Int × Int) => laws_rPacked_L1 fu rates units capacity k s.1 s.2.1 s.2.2 = some out') (fun s => out' = Out.next s) (l, 0, 0) fu hB1 ⟨A3, c3, 3, hf, H⟩ (fun s h => by cases h) ?_ ?_
  ·rintro fk ⟨load, most, i⟩ a w hR1 hI
   replace hR1 : laws_rPacked_L1 fu rates units capacity (fk + 1) load most i = some out' := hR1
   rw [laws_rPacked_L1] at hR1
   obtain ⟨A4, c4, E, hf, H⟩ := hI
   refine sq (sqz (pz 4 hf fun a hf => ?_))
   refine wl_end (then_n (ib hR1 hf (fun hc2 hR1 => ?_) fun hc2 hR1 => ?_))
   ·refine wp_skip (then_n (sq (wp_block (sq (sq ?_)))))
    obtain ⟨c5, hGc5, hR1⟩ := bs_ hR1
    have fh := hf.prune [0, 1, 2, 7, 8, 9] rfl
    have Hm := H.lt_ [] [true] [] [0, 1]
    refine midF 38 (.bool c5) fh Hm ?_ fun a w hf H => ?_
    ·refine reg (pz 2 hf fun a hf => ?_)
     obtain ⟨e, he, hGc5⟩ := bs_ hGc5
     refine wl0 rfl (op_iaddr hf H Try.underlying24 TF.sz3 0 rfl rfl rfl he (by decide) fun p o cs a hf hr H => ?_)
     obtain rfl := hr
     refine oq hf (rq_loadI hf H TF.ls3 0 0 rfl rfl rfl) fun a hf => ?_
     refine pz 2 hf fun a hf => ?_
     refine iteB hGc5 (fun hc3 hGc5 => ?_) fun hc3 hGc5 => ?_
     ·have hf := hf.lit 30 rfl hc3
      refine pz 8 hf fun a hf => ?_
      obtain rfl := oi hGc5
      have hf := hf.pn [38, 0, 1, 2, 7, 8, 9]
      have H := H.lt_ [] [true] [] [1, 2]
      exact wl_end ⟨hf, H⟩
     ·have hf := hf.lit 30 rfl hc3
      refine pz 2 hf fun a hf => ?_
      obtain ⟨e2, he2, hGc5⟩ := bs_ hGc5
      refine wlg hf rfl rfl rfl (op_iaddr hf H Try.underlying24 TF.sz3 1 rfl rfl rfl he2 (by decide) fun p2 o2 cs2 a hf hr2 H => ?_)
      obtain rfl := hr2
      refine wlg hf rfl rfl rfl (op_q hf (rq_loadI hf H TF.ls3 0 0 rfl rfl rfl) rfl (by decide) fun a hf => ?_)
      refine pz 4 hf fun a hf => ?_
      obtain rfl := oi hGc5
      have hf := hf.pn [38, 0, 1, 2, 7, 8, 9]
      have H := H.lt_ [] [true] [] [2, 3]
      exact wl_end ⟨hf, H⟩
    refine then_n (ib hR1 hf (fun hc4 hR1 => ?_) fun hc4 hR1 => ?_)
    ·refine sqz (pz 1 hf fun a hf => ?_)
     refine wl_end (then_n (wp_ret (then_r (blk_r (then_r (then_r (blk_r (then_r (then_r (?_))))))))))
     obtain rfl := oi hR1
     replace hF := on_ret hF
     obtain rfl := oi hF
     refine rT hf ?_
     exact ⟨_, rfl, H.bel, mk_int⟩
    ·refine wp_skip (then_n (sq (dw [18] 19 fun w hb => ?_)))
     have H := H.keep hb
     refine zp 0 hf trivial fun a hf => ?_
     refine zp 1 hf trivial fun a hf => ?_
     refine zp 2 hf trivial fun a hf => ?_
     obtain ⟨e3, he3, hR1⟩ := bs_ hR1
     obtain ⟨p3, o3, cs3, hx, hr3, H⟩ := pre_iaddr H Try.underlying24 TF.sz3 0 rfl he3
     refine tP 3 rfl rfl rfl rfl hf (by kernel_rfl) (fun _ => trivial) (fun w => rq_iaddrE hf rfl rfl rfl hx w) fun a hf => ?_
     obtain rfl := hr3
     refine strT (H.lt_ [] [false] [] [0]) (fun w H => trivial) fun hS => ?_
     refine zS 4 [4, 17, 18] rfl rfl rfl rfl hf hS (fun w H => rq_loadI hf H TF.ls3 0 0 rfl rfl rfl) fun a hf => ?_
     refine zp 5 hf hS fun a hf => ?_
     refine zp 6 hf hS fun a hf => ?_
     refine zp 7 hf hS fun a hf => ?_
     obtain ⟨e4, he4, hR1⟩ := bs_ hR1
     obtain ⟨p4, o4, cs4, hx2, hr4, H⟩ := pre_iaddr H Try.underlying24 TF.sz3 1 rfl he4
     refine zP 8 rfl rfl rfl rfl hf hS (fun w => rq_iaddrE hf rfl rfl rfl hx2 w) fun a hf => ?_
     obtain rfl := hr4
     refine strT (H.lt_ [] [false] [] [0, 1]) (fun w H => H.lt_ [] [] [] [1]) fun hS => ?_
     refine zS 9 [9, 10, 11, 16, 17, 18] rfl rfl rfl rfl hf hS (fun w H => rq_loadI hf H TF.ls3 0 0 rfl rfl rfl) fun a hf => ?_
     obtain ⟨e5, he5, hR1⟩ := bs_ hR1
     obtain ⟨p5, o5, hA, hx3⟩ := pre_iaddrR H Try.underlying24 TF.sz3 0 rfl he5
     refine zP 10 rfl rfl rfl rfl hf hS (fun w => rq_iaddrE hf rfl rfl rfl hx3 w) fun a hf => ?_
     refine strT (H.lt_ [] [true] [] [0, 1]) (fun w H => H.lt_ [] [false] [] [0, 1]) fun hS => ?_
     refine zS 11 [11, 16, 17, 18] rfl rfl rfl rfl hf hS (fun w H => rq_loadRow (off := 0) hf H TF.ls3 0 rfl rfl hA he5 (fun w T cs h => by obtain rfl := h; rfl)) fun a hf => ?_
     refine zp 12 hf hS fun a hf => ?_
     refine zp 13 hf hS fun a hf => ?_
     obtain ⟨e6, he6, hR1⟩ := bs_ hR1
     obtain ⟨p6, o6, cs5, hx4, hr5, H⟩ := pre_iaddr H Try.underlying24 TF.sz3 3 rfl he6
     refine zP 14 rfl rfl rfl rfl hf hS (fun w => rq_iaddrE hf rfl rfl rfl hx4 w) fun a hf => ?_
     obtain rfl := hr5
     refine strT (H.lt_ [] [true] [] [0, 1, 2]) (fun w H => H.lt_ [] [true] [] [1, 2]) fun hS => ?_
     refine zS 15 [15, 16, 17, 18] rfl rfl rfl rfl hf hS (fun w H => rq_loadI hf H TF.ls3 0 0 rfl rfl rfl) fun a hf => ?_
     refine zp 16 hf hS fun a hf => ?_
     obtain ⟨e7, he7, hR1⟩ := bs_ hR1
     refine nn 17 rfl (op_iaddrR hf H Try.underlying24 TF.sz3 0 rfl rfl rfl he7 (by decide) fun p7 o7 cs6 a hf hA2 hr6 hk => ?_)
     obtain rfl := hr6
     have hS := H.lt_ [] [true] [] [0, 1, 2]
     refine aS hS ?_
     refine nn 18 rfl (op_storeR (e' := w64 (e5 + e6)) (o := o7) (off := 0) hf H TF.sz3 0 rfl rfl rfl rfl rfl (nle rfl) rfl hA2 he7 (st_full rfl) fun w H => ?_)
     replace hf : Fr a 79 [(0, (.slice A rates.length c)), (1, (.slice A2 units.length c2)), (2, (.int .i64 capacity)), (7, (.slice A4 load.length c4)), (8, (.int .i64 most)), (9, (.int .i64 i)), (39, (.slice A4 load.length c4)), (40, (.slice A2 units.length c2)), (41, (.int .i64 i)), (42, (.pointer (some ⟨p3, o3 + 0, none⟩))), (43, (.int .i64 e3)), (44, (.slice A4 load.length c4)), (45, (.slice A2 units.length c2)), (46, (.int .i64 i)), (47, (.pointer (some ⟨p4, o4 + 0, none⟩))), (48, (.int .i64 e4)), (49, (.pointer (some ⟨p5, o5 + 0, none⟩))), (50, (.int .i64 e5)), (51, (.slice A rates.length c)), (52, (.int .i64 i)), (53, (.pointer (some ⟨p6, o6 + 0, none⟩))), (54, (.int .i64 e6)), (55, (.int .i64 (w64 (e5 + e6)))), (56, (.pointer (some ⟨p7, o7 + 0, none⟩)))] := hf.prune [0, 1, 2, 7, 8, 9, 39, 40, 41, 42, 43, 44, 45, 46, 47, 48, 49, 50, 51, 52, 53, 54, 55, 56] rfl
     replace hf : Fr a 79 [(0, (.slice A rates.length c)), (1, (.slice A2 units.length c2)), (2, (.int .i64 capacity)), (7, (.slice A4 (load.set (e3 : Int).toNat (w64 (e5 + e6))).length c4)), (8, (.int .i64 most)), (9, (.int .i64 i)), (39, (.slice A4 (load.set (e3 : Int).toNat (w64 (e5 + e6))).length c4)), (40, (.slice A2 units.length c2)), (41, (.int .i64 i)), (42, (.pointer (some ⟨p3, o3 + 0, none⟩))), (43, (.int .i64 e3)), (44, (.slice A4 (load.set (e3 : Int).toNat (w64 (e5 + e6))).length c4)), (45, (.slice A2 units.length c2)), (46, (.int .i64 i)), (47, (.pointer (some ⟨p4, o4 + 0, none⟩))), (48, (.int .i64 e4)), (49, (.pointer (some ⟨p5, o5 + 0, none⟩))), (50, (.int .i64 e5)), (51, (.slice A rates.length c)), (52, (.int .i64 i)), (53, (.pointer (some ⟨p6, o6 + 0, none⟩))), (54, (.int .i64 e6)), (55, (.int .i64 (w64 (e5 + e6)))), (56, (.pointer (some ⟨p7, o7 + 0, none⟩)))] := by simpa only [List.length_set, Nat.add_zero] using hf
     refine ⟨fun h => absurd h (by decide), ?_⟩
     refine dk ?_
     have hf := hf.pn [0, 1, 2, 7, 8, 9]
     refine then_n (sq (sqz (pz 3 hf fun a hf => ?_)))
     obtain ⟨e8, he8, hR1⟩ := bs_ hR1
     refine wl0 rfl (op_iaddr hf H Try.underlying24 TF.sz3 3 rfl rfl rfl he8 (by decide) fun p8 o8 cs7 a hf hr7 H => ?_)
     obtain rfl := hr7
     refine oq hf (rq_loadI hf H TF.ls3 0 0 rfl rfl rfl) fun a hf => ?_
     obtain ⟨e9, he9, hR1⟩ := bs_ hR1
     refine wl0 rfl (op_iaddrR hf H Try.underlying24 TF.sz3 0 rfl rfl rfl he9 (by decide) fun p9 o9 cs8 a hf hA3 hr8 hk2 => ?_)
     obtain rfl := hr8
     refine oq hf (rq_load1 hf TF.ls3 rfl (hk2 0 _ rfl)) fun a hf => ?_
     refine pz 2 hf fun a hf => ?_
     refine wl_end (then_n (ib hR1 hf (fun hc5 hR1 => ?_) fun hc5 hR1 => ?_))
     ·refine sqz (pz 1 hf fun a hf => ?_)
      have hf := hf.pn [6]
      refine wl_end (then_n (wp_ret (then_r (blk_r (then_r (then_r (blk_r (then_r (then_r (?_))))))))))
      obtain rfl := oi hR1
      replace hF := on_ret hF
      obtain rfl := oi hF
      refine rT hf ?_
      exact ⟨_, rfl, H.bel, mk_int⟩
     ·refine wp_skip (then_n (sqz (pz 2 hf fun a hf => ?_)))
      obtain ⟨e10, he10, hR1⟩ := bs_ hR1
      refine wl0 rfl (op_iaddr hf H Try.underlying24 TF.sz3 4 rfl rfl rfl he10 (by decide) fun p10 o10 cs9 a hf hr9 H => ?_)
      obtain rfl := hr9
      refine oq hf (rq_loadI hf H TF.ls3 0 0 rfl rfl rfl) fun a hf => ?_
      refine pz 3 hf fun a hf => ?_
      have hf := hf.pn [0, 1, 2, 7, 8, 9, 72]
      refine wl_end (then_n (ib hR1 hf (fun hc6 hR1 => ?_) fun hc6 hR1 => ?_))
      ·refine reg (pz 2 hf fun a hf => ?_)
       obtain ⟨e11, he11, hR1⟩ := bs_ hR1
       refine wl0 rfl (op_iaddr hf H Try.underlying24 TF.sz3 5 rfl rfl rfl he11 (by decide) fun p11 o11 cs10 a hf hr10 H => ?_)
       obtain rfl := hr10
       refine oq hf (rq_loadI hf H TF.ls3 0 0 rfl rfl rfl) fun a hf => ?_
       refine pz 2 hf fun a hf => ?_
       refine wl_end (blk_n (then_n (reg (pz 3 hf fun a hf => ?_))))
       refine wl_end ?_
       have hf := hf.pn [0, 1, 2, 7, 8, 9]
       have H := H.lt_ [] [true] [] [6, 7]
       exact then_n ⟨(load.set (e3 : Int).toNat (w64 (e5 + e6)), w64 (e11 + 1), w64 (i + 1)), hR1, A4, c4, E, hf, H⟩
      ·refine wp_skip (blk_n (then_n (reg (pz 3 hf fun a hf => ?_))))
       refine wl_end ?_
       have hf := hf.pn [0, 1, 2, 7, 8, 9]
       have H := H.lt_ [] [true] [] [5, 6]
       exact then_n ⟨(load.set (e3 : Int).toNat (w64 (e5 + e6)), most, w64 (i + 1)), hR1, A4, c4, E, hf, H⟩
   ·refine wp_exit (then_x (then_x (blk_e (?_))))
    have hf := hf.pn [0, 1, 2, 7, 8, 9]
    have H := H.lt_ [] [true] [] [0, 1]
    exact ⟨(load, most, i), (Option.some.inj hR1).symm, A4, c4, E, hf, H⟩
  rintro a w ⟨⟨load2, most2, i2⟩, rfl, A5, c6, E2, hf, H⟩
  replace hF := on_next hF
  try dsimp only at hF
  refine then_n (sqz (pz 2 hf fun a hf => ?_))
  refine wer ?_
  obtain rfl := oi hF
  refine rT hf ?_
  exact ⟨_, rfl, H.bel, mk_int⟩
theorem slices_Clone_int_int_ok {S : Nat → Prop} {v0_ : Value} {s' : List Int} {r : List Int} (h0 : VR w0 S v0_ s') (hF : slices_Clone_int_int fu s' = some r) :
    Calls Try.prog 22 [v0_].toArray w0 fun e w' => ∃ v, e = .returned v ∧ (Below w0.heap.size w0 w' ∧ ∃ F0, VO w' F0 v r ∧ New w0 w' F0) := by
 obtain ⟨A, c, rfl, hl⟩ := VR_list h0
 have H := Mem.start ⟨w0, []⟩ S
 have H := H.pA hl
 refine en Try.func22 fun a hf => ?_
 rw [slices_Clone_int_int] at hF
 refine sqz (pz 1 hf fun a hf => ?_)
 refine we (sqz (pz 1 hf fun a hf => ?_))
 cases A with
 | none =>
  have hnil : s' = [] := nil_data (α := Int) (H.get 0 rfl)
  replace hF := nil_case1 hnil hF
  refine oq hf (rq_nilN hf Try.underlying24 rfl rfl) fun a hf => ?_
  refine wl_end (then_n (cd_t hf rfl rfl (sqz (pz 1 hf fun a hf => ?_))))
  refine wl_end (then_n (wp_ret (then_r (?_))))
  have H := H.ownNil (Int)
  have H := H.lend 0 rfl
  obtain rfl := oi hF
  refine rT hf ?_
  have hN := H.ends1
  exact ⟨_, rfl, H.bel, [], (mko_list (H.ownAt 0 rfl)), by first | exact hN | simpa using hN⟩
 | some A2 =>
  replace hF := nil_case2 hF
  refine oq hf (rq_nilS hf Try.underlying24 rfl rfl) fun a hf => ?_
  refine wl_end (then_n (cd_f hf rfl rfl (wp_skip (then_n (sq (reg (wl0 rfl (bl hf H 3 ([] : List Int) [] el0 fun A3 a w hf H => ?_))))))))
  refine pz 1 hf fun a hf => ?_
  obtain ⟨l, hl_, hF⟩ := bs_ hF
  have H := H.rowWeak 0 rfl
  refine wl0 rfl (op_appI hf H Try.underlying24 TF.ai3 rfl (by decide) 0 0 rfl rfl rfl rfl (.inl rfl) hl_ (by decide) fun E A4 c2 a w hf H => ?_)
  have H := H.rowOwn 0 rfl rfl
  have H := H.rowSh 0 rfl
  refine pz 1 hf fun a hf => ?_
  refine wer ?_
  have H := H.rowOwn 0 rfl rfl
  obtain ⟨F, H⟩ := H.freezeOwn 0 rfl
  have H := H.lend 0 rfl
  obtain rfl := oi hF
  refine rT hf ?_
  have hN := H.ends1
  exact ⟨_, rfl, H.bel, F, (mko_list (H.ownAt 0 rfl)), by first | exact hN | simpa using hN⟩
theorem math_bits_Len64_ok {S : Nat → Prop} {v0_ : Value} {x1 : U64} {r : Int} (h0 : VR w0 S v0_ x1) (hF : math_bits_Len64 fu x1 = some r) :
    Calls Try.prog 52 [v0_].toArray w0 fun e w' => ∃ v, e = .returned v ∧ (Below w0.heap.size w0 w' ∧ VR w' (St ⟨w0, []⟩ S [] [] [] true) v r) := by
 obtain rfl := VR_u64 h0
 have H := Mem.start ⟨w0, []⟩ S
 refine en Try.func52 fun a hf => ?_
 rw [math_bits_Len64] at hF
 refine sqz (pz 1 hf fun a hf => ?_)
 refine we (sqz (pz 1 hf fun a hf => ?_))
 refine oq hf (rq_geK hf rfl rfl) fun a hf => ?_
 refine wl_end (then_n (ib hF hf (fun hc hF => ?_) fun hc hF => ?_))
 ·cases hF
 ·refine wp_skip (then_n (sq (sqz (pz 1 hf fun a hf => ?_))))
  refine oq hf (rq_geK hf rfl rfl) fun a hf => ?_
  refine wl_end (then_n (ib hF hf (fun hc2 hF => ?_) fun hc2 hF => ?_))
  ·cases hF
  ·refine wp_skip (then_n (sq (sqz (pz 1 hf fun a hf => ?_))))
   refine oq hf (rq_geK hf rfl rfl) fun a hf => ?_
   refine wl_end (then_n (ib hF hf (fun hc3 hF => ?_) fun hc3 hF => ?_))
   ·cases hF
   ·refine wp_skip (then_n (sqz (pz 2 hf fun a hf => ?_)))
    refine oq hf (rq_conv u8w Try.underlying34 Try.underlying5 hf rfl) fun a hf => ?_
    obtain ⟨e, he, hF⟩ := bs_ hF
    refine oq hf (rq_indexS hf Try.underlying9 rfl rfl he) fun a hf => ?_
    refine oq hf (rq_conv i64w Try.underlying5 Try.underlying3 hf rfl) fun a hf => ?_
    refine pz 2 hf fun a hf => ?_
    have hf := hf.pn [2]
    refine wer ?_
    obtain rfl := oi hF
    refine rT hf ?_
    exact ⟨_, rfl, H.bel, mk_int⟩
theorem math_bits_Len_ok {S : Nat → Prop} {v0_ : Value} {x1 : U64} {r : Int} (h0 : VR w0 S v0_ x1) (hF : math_bits_Len fu x1 = some r) :
    Calls Try.prog 38 [v0_].toArray w0 fun e w' => ∃ v, e = .returned v ∧ (Below w0.heap.size w0 w' ∧ VR w' (St ⟨w0, []⟩ S [] [] [] true) v r) := by
 obtain rfl := VR_u64 h0
 have H := Mem.start ⟨w0, []⟩ S
 refine en Try.func38 fun a hf => ?_
 rw [math_bits_Len] at hF
 refine sqz (pz 1 hf fun a hf => ?_)
 refine wl_end (then_n (sq (cd_f hf rfl rfl (wp_skip (then_n (sqz (pz 1 hf fun a hf => ?_)))))))
 obtain ⟨y, hy, hF⟩ := bs_ hF
 refine oc hf TF.cl52 (math_bits_Len64_ok (S := TT) mk_u64 hy) fun v w a hp hf => ?_
 obtain ⟨hb, hp⟩ := hp
 obtain rfl := VR_int hp
 have H := H.keep hb
 refine pz 1 hf fun a hf => ?_
 refine wer ?_
 obtain rfl := oi hF
 refine rT hf ?_
 exact ⟨_, rfl, H.bel, mk_int⟩
theorem impl_FewestUnits_c1_ok {S : Nat → Prop} {v0_ : Value} {v1_ : Value} {a' : Int} {b' : Int} {r : Int} (h0 : VR w0 S v0_ a') (h1 : VR w0 S v1_ b') (hF : impl_FewestUnits_c1 fu a' b' = some r) :
    Calls Try.prog 24 [v0_, v1_].toArray w0 fun e w' => ∃ v, e = .returned v ∧ (Below w0.heap.size w0 w' ∧ VR w' (St ⟨w0, []⟩ S [] [] [] true) v r) := by
 obtain rfl := VR_int h0
 obtain rfl := VR_int h1
 have H := Mem.start ⟨w0, []⟩ S
 refine en Try.func24 fun a hf => ?_
 rw [impl_FewestUnits_c1] at hF
 refine sqz (pz 1 hf fun a hf => ?_)
 refine wr (pz 2 hf fun a hf => ?_)
 obtain ⟨y, hy, hF⟩ := bs_ hF
 refine oc hf TF.cl25 (cmp_Compare_int_ok (S := TT) mk_int mk_int hy) fun v w a hp hf => ?_
 obtain ⟨hb, hp⟩ := hp
 obtain rfl := VR_int hp
 have H := H.keep hb
 refine pz 1 hf fun a hf => ?_
 refine wer ?_
 obtain rfl := oi hF
 refine rT hf ?_
 exact ⟨_, rfl, H.bel, mk_int⟩
theorem slices_insertionSortCmpFunc_int_of_FewestUnits_c1_ok {S : Nat → Prop} {F : List Nat} {cs : List Value} {v1_ : Value} {v2_ : Value} {data : List Int} {a' : Int} {b5 : Int} {r : List Int} (hO : GoTy.own w0 F cs data) (hn : F.Nodup) (h1 : VR w0 S v1_ a') (h2 : VR w0 S v2_ b5) (hF : slices_insertionSortCmpFunc_int_of_FewestUnits_c1 fu data a' b5 = some r) :
    Calls Try.prog 43 [(bif GoTy.agg (List Int) then .agg cs.toArray else cs.headD undef), v1_, v2_, (.func (.func 24) #[] #[])].toArray w0 fun e w' => ∃ v, e = .returned v ∧ (Chg w0 w' F ∧ v = .tuple #[] ∧ ∃ F', GoTy.own w' F' cs r ∧ Back w0 w' F F') := by
 obtain rfl := VR_int h1
 obtain rfl := VR_int h2
 obtain ⟨A, c, rfl, hO⟩ := own_list hO
 have H := Mem.startG S hO hn
 obtain ⟨Fs, E, H, -⟩ := H.thaw rfl
 have H := H.rowSh 0 rfl
 refine en Try.func43 fun a hf => ?_
 rw [slices_insertionSortCmpFunc_int_of_FewestUnits_c1] at hF
 refine sqz (pz 3 hf fun a hf => ?_)
 refine wl_end (then_n ?_)
 obtain ⟨out', hB1, hF⟩ := bs_ hF
 have hf := hf.pn [0, 1, 2, 3, 8]
 have hf : Fr a 53 [(0, (.slice A data.length c)), (1, (.int .i64 a')), (2, (.int .i64 b5)), (3, (.func (.func 24) #[] #[])), (8, (.int .i64 (w64 (a' + 1))))] := by first | exact hf | (simp only [List.length_set] at hf; exact hf)
 have H := H.lt_ [] [true] [] []
 refine loopC (fun (s : List Int × Int) (a : Act) (w : World) => match s with | (data2, i) => data2.length = data.length ∧ Fr a 53 [(0, (.slice A data.length c)), (1, (.int .i64 a')), (2, (.int .i64 b5)), (3, (.func (.func 24) #[] #[])), (8, (.int .i64 i))] ∧ Mem ⟨w0, F⟩ S [] [⟨.sh true, E, A, c, (data2 : List Int)⟩] [] [] w) (fun k (s : List Int × Int) => slices_insertionSortCmpFunc_int_of_FewestUnits_c1_L1 fu a' b5 k s.1 s.2 = some out') (fun s => out' = s) (data, w64 (a' + 1)) fu hB1 ⟨rfl, hf, H⟩ (fun s h => by cases h) ?_ ?_
 ·rintro fk ⟨data2, i⟩ a w hR1 hI
  replace hR1 : slices_insertionSortCmpFunc_int_of_FewestUnits_c1_L1 fu a' b5 (fk + 1) data2 i = some out' := hR1
  rw [slices_insertionSortCmpFunc_int_of_FewestUnits_c1_L1] at hR1
  obtain ⟨hlen, hf, H⟩ := hI
  have hf : Fr a 53 [(0, (.slice A data2.length c)), (1, (.int .i64 a')), (2, (.int .i64 b5)), (3, (.func (.func 24) #[] #[])), (8, (.int .i64 i))] := by rw [hlen]; exact hf
  refine sq (sqz (pz 3 hf fun a hf => ?_))
  refine wl_end (then_n (ib hR1 hf (fun hc hR1 => ?_) fun hc hR1 => ?_))
  ·refine ws (pz 2 hf fun a hf => ?_)
   refine wl_end (then_n ?_)
   obtain ⟨out2, hB2, hR1⟩ := bs_ hR1
   have hf := hf.pn [0, 1, 2, 3, 8, 9]
   have hf : Fr a 53 [(0, (.slice A data2.length c)), (1, (.int .i64 a')), (2, (.int .i64 b5)), (3, (.func (.func 24) #[] #[])), (8, (.int .i64 i)), (9, (.int .i64 i))] := by first | exact hf | (simp only [List.length_set] at hf; exact hf)
   have H := H.lt_ [] [true] [] []
   refine loopC (fun (s : List Int × Int) (a : Act) (w : World) => match s with | (data3, j) => data3.length = data2.length ∧ Fr a 53 [(0, (.slice A data2.length c)), (1, (.int .i64 a')), (2, (.int .i64 b5)), (3, (.func (.func 24) #[] #[])), (8, (.int .i64 i)), (9, (.int .i64 j))] ∧ Mem ⟨w0, F⟩ S [] [⟨.sh true, E, A, c, (data3 : List Int)⟩] [] [] w) (fun k (s : List Int × Int) => slices_insertionSortCmpFunc_int_of_FewestUnits_c1_L2 fu a' k s.1 s.2 = some out2) (fun s => out2 = s) (data2, i) fu hB2 ⟨rfl, hf, H⟩ (fun s h => by cases h) ?_ ?_
   ·rintro fk ⟨data3, j⟩ a w hR2 hI
    replace hR2 : slices_insertionSortCmpFunc_int_of_FewestUnits_c1_L2 fu a' (fk + 1) data3 j = some out2 := hR2
    rw [slices_insertionSortCmpFunc_int_of_FewestUnits_c1_L2] at hR2
    obtain ⟨hlen2, hf, H⟩ := hI
    have hf : Fr a 53 [(0, (.slice A data3.length c)), (1, (.int .i64 a')), (2, (.int .i64 b5)), (3, (.func (.func 24) #[] #[])), (8, (.int .i64 i)), (9, (.int .i64 j))] := by rw [hlen2]; exact hf
    refine sq (sq ?_)
    obtain ⟨c2, hGc2, hR2⟩ := bs_ hR2
    have fh := hf.prune [0, 1, 2, 3, 8, 9] rfl
    have Hm := H.lt_ [] [true] [] []
    refine midF 34 (.bool c2) fh Hm ?_ fun a w hf H => ?_
    ·refine dw [] 17 fun w hb => ?_
     have H := H.keep hb
     refine zp 0 hf trivial fun a hf => ?_
     refine zp 1 hf trivial fun a hf => ?_
     refine zp 2 hf trivial fun a hf => ?_
     refine zp 3 hf trivial fun a hf => ?_
     refine iteB hGc2 (fun hc2 hGc2 => ?_) fun hc2 hGc2 => ?_
     ·have hf := hf.lit 21 rfl hc2
      refine zg 4 hf trivial fun a hf => ?_
      refine zg 5 hf trivial fun a hf => ?_
      refine zg 6 hf trivial fun a hf => ?_
      obtain ⟨e, he, hGc2⟩ := bs_ hGc2
      obtain ⟨p, o5, hA, hx⟩ := pre_iaddrR H Try.underlying24 TF.sz3 0 rfl he
      refine tPg 7 rfl rfl rfl rfl rfl rfl hf (by kernel_rfl) (fun _ => trivial) (fun w => rq_iaddrE hf rfl rfl rfl hx w) fun a hf => ?_
      refine strT H (fun w H => trivial) fun hS => ?_
      refine tSg 8 [] rfl rfl rfl rfl rfl rfl hf (by kernel_rfl) (by kernel_rfl) hS (fun w H => rq_loadRow (off := 0) hf H TF.ls3 0 rfl rfl hA he (fun w T cs h => by obtain rfl := h; rfl)) fun a hf => ?_
      refine zg 9 hf hS fun a hf => ?_
      refine zg 10 hf hS fun a hf => ?_
      refine zg 11 hf hS fun a hf => ?_
      obtain ⟨e2, he2, hGc2⟩ := bs_ hGc2
      obtain ⟨p2, o6, hA2, hx2⟩ := pre_iaddrR H Try.underlying24 TF.sz3 0 rfl he2
      refine tPg 12 rfl rfl rfl rfl rfl rfl hf (by kernel_rfl) (fun _ => hS) (fun w => rq_iaddrE hf rfl rfl rfl hx2 w) fun a hf => ?_
      refine tSg 13 [] rfl rfl rfl rfl rfl rfl hf (by kernel_rfl) (by kernel_rfl) hS (fun w H => rq_loadRow (off := 0) hf H TF.ls3 0 rfl rfl hA2 he2 (fun w T cs h => by obtain rfl := h; rfl)) fun a hf => ?_
      obtain ⟨y, hy, hGc2⟩ := bs_ hGc2
      refine n1g 14 (by kernel_rfl) rfl rfl rfl rfl hf (op_callV hf TF.cl24 rfl rfl (by decide) (impl_FewestUnits_c1_ok (S := TT) mk_int mk_int hy) fun v w a hp5 hf => ?_)
      obtain ⟨hb, hp5⟩ := hp5
      obtain rfl := VR_int hp5
      have H := H.keep hb
      have hS := H
      refine aS hS ?_
      refine zg 15 hf hS fun a hf => ?_
      refine zp 16 hf hS fun a hf => ?_
      refine dk ?_
      obtain rfl := oi hGc2
      have hf := hf.pn [34, 0, 1, 2, 3, 8, 9]
      have H := H.lt_ [] [true] [] []
      exact ⟨hf, H⟩
     ·have hf := hf.lit 21 rfl hc2
      refine zU 4 hf trivial fun a hf => ?_
      refine zU 5 hf trivial fun a hf => ?_
      refine zU 6 hf trivial fun a hf => ?_
      refine zU 7 hf trivial fun a hf => ?_
      refine zU 8 hf trivial fun a hf => ?_
      refine zU 9 hf trivial fun a hf => ?_
      refine zU 10 hf trivial fun a hf => ?_
      refine zU 11 hf trivial fun a hf => ?_
      refine zU 12 hf trivial fun a hf => ?_
      refine zU 13 hf trivial fun a hf => ?_
      refine zU 14 hf trivial fun a hf => ?_
      refine zU 15 hf trivial fun a hf => ?_
      refine zp 16 hf trivial fun a hf => ?_
      refine dk ?_
      obtain rfl := oi hGc2
      have hf := hf.pn [34, 0, 1, 2, 3, 8, 9]
      have H := H.lt_ [] [true] [] []
      exact ⟨hf, H⟩
    refine then_n (ib hR2 hf (fun hc3 hR2 => ?_) fun hc3 hR2 => ?_)
    ·refine wp_skip (then_n (sq (wp_block (dw [15, 17] 18 fun w hb => ?_))))
     have H := H.keep hb
     refine zp 0 hf trivial fun a hf => ?_
     refine zp 1 hf trivial fun a hf => ?_
     refine zp 2 hf trivial fun a hf => ?_
     refine zp 3 hf trivial fun a hf => ?_
     refine zp 4 hf trivial fun a hf => ?_
     refine zp 5 hf trivial fun a hf => ?_
     refine zp 6 hf trivial fun a hf => ?_
     refine zp 7 hf trivial fun a hf => ?_
     obtain ⟨e3, he3, hR2⟩ := bs_ hR2
     obtain ⟨p3, o7, hA3, hx3⟩ := pre_iaddrR H Try.underlying24 TF.sz3 0 rfl he3
     refine tP 8 rfl rfl rfl rfl hf (by kernel_rfl) (fun _ => trivial) (fun w => rq_iaddrE hf rfl rfl rfl hx3 w) fun a hf => ?_
     refine strT H (fun w H => trivial) fun hS => ?_
     refine zS 9 [9, 14, 15, 16, 17] rfl rfl rfl rfl hf hS (fun w H => rq_loadRow (off := 0) hf H TF.ls3 0 rfl rfl hA3 he3 (fun w T cs h => by obtain rfl := h; rfl)) fun a hf => ?_
     refine zp 10 hf hS fun a hf => ?_
     refine zp 11 hf hS fun a hf => ?_
     obtain ⟨e4, he4, hR2⟩ := bs_ hR2
     obtain ⟨p4, o8, hA4, hx4⟩ := pre_iaddrR H Try.underlying24 TF.sz3 0 rfl he4
     refine zP 12 rfl rfl rfl rfl hf hS (fun w => rq_iaddrE hf rfl rfl rfl hx4 w) fun a hf => ?_
     refine zS 13 [13, 14, 15, 16, 17] rfl rfl rfl rfl hf hS (fun w H => rq_loadRow (off := 0) hf H TF.ls3 0 rfl rfl hA4 he4 (fun w T cs h => by obtain rfl := h; rfl)) fun a hf => ?_
     obtain ⟨e5, he5, hR2⟩ := bs_ hR2
     refine nn 14 rfl (op_iaddrR hf H Try.underlying24 TF.sz3 0 rfl rfl rfl he5 (by decide) fun p5 o9 cs5 a hf hA5 hr5 hk => ?_)
     obtain rfl := hr5
     have hS := H
     refine aS hS ?_
     refine nn 15 rfl (op_storeR (e' := e3) (o := o9) (off := 0) hf H TF.sz3 0 rfl rfl rfl rfl rfl (nle rfl) rfl hA5 he5 (st_full rfl) fun w H => ?_)
     replace hf : Fr a 53 [(0, (.slice A data3.length c)), (1, (.int .i64 a')), (2, (.int .i64 b5)), (3, (.func (.func 24) #[] #[])), (8, (.int .i64 i)), (9, (.int .i64 j)), (37, (.slice A data3.length c)), (38, (.int .i64 j)), (39, (.slice A data3.length c)), (40, (.int .i64 j)), (41, (.int .i64 (w64 (j - 1)))), (42, (.slice A data3.length c)), (43, (.int .i64 j)), (44, (.int .i64 (w64 (j - 1)))), (45, (.pointer (some ⟨p3, o7 + 0, none⟩))), (46, (.int .i64 e3)), (47, (.slice A data3.length c)), (48, (.int .i64 j)), (49, (.pointer (some ⟨p4, o8 + 0, none⟩))), (50, (.int .i64 e4)), (51, (.pointer (some ⟨p5, o9 + 0, none⟩)))] := hf.prune [0, 1, 2, 3, 8, 9, 37, 38, 39, 40, 41, 42, 43, 44, 45, 46, 47, 48, 49, 50, 51] rfl
     replace hf : Fr a 53 [(0, (.slice A (data3.set (j : Int).toNat e3).length c)), (1, (.int .i64 a')), (2, (.int .i64 b5)), (3, (.func (.func 24) #[] #[])), (8, (.int .i64 i)), (9, (.int .i64 j)), (37, (.slice A (data3.set (j : Int).toNat e3).length c)), (38, (.int .i64 j)), (39, (.slice A (data3.set (j : Int).toNat e3).length c)), (40, (.int .i64 j)), (41, (.int .i64 (w64 (j - 1)))), (42, (.slice A (data3.set (j : Int).toNat e3).length c)), (43, (.int .i64 j)), (44, (.int .i64 (w64 (j - 1)))), (45, (.pointer (some ⟨p3, o7 + 0, none⟩))), (46, (.int .i64 e3)), (47, (.slice A (data3.set (j : Int).toNat e3).length c)), (48, (.int .i64 j)), (49, (.pointer (some ⟨p4, o8 + 0, none⟩))), (50, (.int .i64 e4)), (51, (.pointer (some ⟨p5, o9 + 0, none⟩)))] := by simpa only [List.length_set, Nat.add_zero] using hf
     refine ⟨fun h => absurd h (by decide), ?_⟩
     obtain ⟨e6, he6, hR2⟩ := bs_ hR2
     refine nn 16 rfl (op_iaddrR hf H Try.underlying24 TF.sz3 0 rfl rfl rfl he6 (by decide) fun p6 o10 cs6 a hf hA6 hr6 hk2 => ?_)
     obtain rfl := hr6
     refine ⟨fun h => absurd h (by decide), ?_⟩
     refine nn 17 rfl (op_storeR (e' := e4) (o := o10) (off := 0) hf H TF.sz3 0 rfl rfl rfl rfl rfl (nle rfl) rfl hA6 he6 (st_full rfl) fun w H => ?_)
     replace hf : Fr a 53 [(0, (.slice A (data3.set (j : Int).toNat e3).length c)), (1, (.int .i64 a')), (2, (.int .i64 b5)), (3, (.func (.func 24) #[] #[])), (8, (.int .i64 i)), (9, (.int .i64 j)), (37, (.slice A (data3.set (j : Int).toNat e3).length c)), (38, (.int .i64 j)), (39, (.slice A (data3.set (j : Int).toNat e3).length c)), (40, (.int .i64 j)), (41, (.int .i64 (w64 (j - 1)))), (42, (.slice A (data3.set (j : Int).toNat e3).length c)), (43, (.int .i64 j)), (44, (.int .i64 (w64 (j - 1)))), (45, (.pointer (some ⟨p3, o7 + 0, none⟩))), (46, (.int .i64 e3)), (47, (.slice A (data3.set (j : Int).toNat e3).length c)), (48, (.int .i64 j)), (49, (.pointer (some ⟨p4, o8 + 0, none⟩))), (50, (.int .i64 e4)), (51, (.pointer (some ⟨p5, o9 + 0, none⟩))), (52, (.pointer (some ⟨p6, o10 + 0, none⟩)))] := hf.prune [0, 1, 2, 3, 8, 9, 37, 38, 39, 40, 41, 42, 43, 44, 45, 46, 47, 48, 49, 50, 51, 52] rfl
     replace hf : Fr a 53 [(0, (.slice A ((data3.set (j : Int).toNat e3).set (w64 (j - 1) : Int).toNat e4).length c)), (1, (.int .i64 a')), (2, (.int .i64 b5)), (3, (.func (.func 24) #[] #[])), (8, (.int .i64 i)), (9, (.int .i64 j)), (37, (.slice A ((data3.set (j : Int).toNat e3).set (w64 (j - 1) : Int).toNat e4).length c)), (38, (.int .i64 j)), (39, (.slice A ((data3.set (j : Int).toNat e3).set (w64 (j - 1) : Int).toNat e4).length c)), (40, (.int .i64 j)), (41, (.int .i64 (w64 (j - 1)))), (42, (.slice A ((data3.set (j : Int).toNat e3).set (w64 (j - 1) : Int).toNat e4).length c)), (43, (.int .i64 j)), (44, (.int .i64 (w64 (j - 1)))), (45, (.pointer (some ⟨p3, o7 + 0, none⟩))), (46, (.int .i64 e3)), (47, (.slice A ((data3.set (j : Int).toNat e3).set (w64 (j - 1) : Int).toNat e4).length c)), (48, (.int .i64 j)), (49, (.pointer (some ⟨p4, o8 + 0, none⟩))), (50, (.int .i64 e4)), (51, (.pointer (some ⟨p5, o9 + 0, none⟩))), (52, (.pointer (some ⟨p6, o10 + 0, none⟩)))] := by simpa only [List.length_set, Nat.add_zero] using hf
     refine ⟨fun h => absurd h (by decide), ?_⟩
     refine dk ?_
     have hf := hf.pn [0, 1, 2, 3, 8, 9]
     refine blk_n (then_n (reg (pz 3 hf fun a hf => ?_)))
     refine wl_end ?_
     have hf := hf.pn [0, 1, 2, 3, 8, 9]
     have hf : Fr a 53 [(0, (.slice A data2.length c)), (1, (.int .i64 a')), (2, (.int .i64 b5)), (3, (.func (.func 24) #[] #[])), (8, (.int .i64 i)), (9, (.int .i64 (w64 (j - 1))))] := by first | exact hf | (simp only [List.length_set, hlen2] at hf; exact hf)
     have H := H.lt_ [] [true] [] []
     exact then_n ⟨((data3.set (j : Int).toNat e3).set (w64 (j - 1) : Int).toNat e4, w64 (j - 1)), hR2, (by simp only [List.length_set, hlen2]), hf, H⟩
    ·refine wp_exit (then_x (then_x (blk_e (?_))))
     have hf := hf.pn [0, 1, 2, 3, 8, 9]
     have hf : Fr a 53 [(0, (.slice A data2.length c)), (1, (.int .i64 a')), (2, (.int .i64 b5)), (3, (.func (.func 24) #[] #[])), (8, (.int .i64 i)), (9, (.int .i64 j))] := by first | exact hf | (simp only [List.length_set, hlen2] at hf; exact hf)
     have H := H.lt_ [] [true] [] []
     exact ⟨(data3, j), (Option.some.inj hR2).symm, (by simp only [List.length_set, hlen2]), hf, H⟩
   rintro a w ⟨⟨data4, j2⟩, rfl, hlen2, hf, H⟩
   try dsimp only at hlen2
   have hf : Fr a 53 [(0, (.slice A data4.length c)), (1, (.int .i64 a')), (2, (.int .i64 b5)), (3, (.func (.func 24) #[] #[])), (8, (.int .i64 i)), (9, (.int .i64 j2))] := by rw [hlen2]; exact hf
   try dsimp only at hR1
   refine blk_n (then_n (reg (pz 3 hf fun a hf => ?_)))
   refine wl_end ?_
   have hf := hf.pn [0, 1, 2, 3, 8]
   have hf : Fr a 53 [(0, (.slice A data.length c)), (1, (.int .i64 a')), (2, (.int .i64 b5)), (3, (.func (.func 24) #[] #[])), (8, (.int .i64 (w64 (i + 1))))] := by first | exact hf | (simp only [List.length_set, hlen, hlen2] at hf; exact hf)
   have H := H.lt_ [] [true] [] []
   exact then_n ⟨(data4, w64 (i + 1)), hR1, (by simp only [List.length_set, hlen, hlen2]), hf, H⟩
  ·refine wp_exit (then_x (then_x (blk_e (?_))))
   have hf := hf.pn [0, 1, 2, 3, 8]
   have hf : Fr a 53 [(0, (.slice A data.length c)), (1, (.int .i64 a')), (2, (.int .i64 b5)), (3, (.func (.func 24) #[] #[])), (8, (.int .i64 i))] := by first | exact hf | (simp only [List.length_set, hlen] at hf; exact hf)
   have H := H.lt_ [] [true] [] []
   exact ⟨(data2, i), (Option.some.inj hR1).symm, (by simp only [List.length_set, hlen]), hf, H⟩
 rintro a w ⟨⟨data5, i2⟩, rfl, hlen, hf, H⟩
 try dsimp only at hlen
 have hf : Fr a 53 [(0, (.slice A data5.length c)), (1, (.int .i64 a')), (2, (.int .i64 b5)), (3, (.func (.func 24) #[] #[])), (8, (.int .i64 i2))] := by rw [hlen]; exact hf
 try dsimp only at hF
 have H := H.rowOwn 0 rfl rfl
 obtain ⟨F', H⟩ := H.freezeOwn 0 rfl
 simp only [List.length_set, hlen] at H
 obtain rfl := oi hF
 refine ret_0 hf rfl ?_
 exact ⟨_, rfl, H.chg, rfl, _, H.ownAt 0 rfl, H.back⟩
theorem slices_pdqsortCmpFunc_int_of_FewestUnits_c1_ok {S : Nat → Prop} {F : List Nat} {cs : List Value} {v1_ : Value} {v2_ : Value} {v3_ : Value} {data : List Int} {a' : Int} {b6 : Int} {limit : Int} {r : List Int} (hO : GoTy.own w0 F cs data) (hn : F.Nodup) (h1 : VR w0 S v1_ a') (h2 : VR w0 S v2_ b6) (h3 : VR w0 S v3_ limit) (hF : slices_pdqsortCmpFunc_int_of_FewestUnits_c1 fu data a' b6 limit = some r) :
    Calls Try.prog 37 [(bif GoTy.agg (List Int) then .agg cs.toArray else cs.headD undef), v1_, v2_, v3_, (.func (.func 24) #[] #[])].toArray w0 fun e w' => ∃ v, e = .returned v ∧ (Chg w0 w' F ∧ v = .tuple #[] ∧ ∃ F', GoTy.own w' F' cs r ∧ Back w0 w' F F') := by
 obtain rfl := VR_int h1
 obtain rfl := VR_int h2
 obtain rfl := VR_int h3
 obtain ⟨A, c, rfl, hO⟩ := own_list hO
 have H := Mem.startG S hO hn
 obtain ⟨Fs, E, H, -⟩ := H.thaw rfl
 have H := H.rowSh 0 rfl
 refine en Try.func37 fun a hf => ?_
 rw [slices_pdqsortCmpFunc_int_of_FewestUnits_c1] at hF
 refine sqz (pz 1 hf fun a hf => ?_)
 refine wr (pz 1 hf fun a hf => ?_)
 refine wl_end (then_n ?_)
 obtain ⟨out', hB1, hF⟩ := bs_ hF
 have hf := hf.pn [0, 1, 2, 3, 4, 10, 11]
 have H := H.lt_ [] [true] [] []
 refine loopC (fun (s : Unit) (a : Act) (w : World) => match s with | _ => Fr a 148 [(0, (.slice A data.length c)), (1, (.int .i64 a')), (2, (.int .i64 b6)), (3, (.int .i64 limit)), (4, (.func (.func 24) #[] #[])), (10, (.bool true)), (11, (.bool true))] ∧ Mem ⟨w0, F⟩ S [] [⟨.sh true, E, A, c, (data : List Int)⟩] [] [] w) (fun k (s : Unit) => slices_pdqsortCmpFunc_int_of_FewestUnits_c1_L1 fu data a' b6 k = some out') (fun s => out' = Out.next s) () fu hB1 ⟨hf, H⟩ (fun s h => by cases h) ?_ ?_
 ·rintro fk _ a w hR1 hI
  replace hR1 : slices_pdqsortCmpFunc_int_of_FewestUnits_c1_L1 fu data a' b6 (fk + 1) = some out' := hR1
  rw [slices_pdqsortCmpFunc_int_of_FewestUnits_c1_L1] at hR1
  obtain ⟨hf, H⟩ := hI
  refine wp_block (sqz (pz 4 hf fun a hf => ?_))
  refine we (sqz (pz 2 hf fun a hf => ?_))
  refine wl_end (then_n (ib hR1 hf (fun hc hR1 => ?_) fun hc hR1 => ?_))
  ·refine sqz (pz 4 hf fun a hf => ?_)
   have H := H.rowOwn 0 rfl rfl
   obtain ⟨F2, H⟩ := H.freezeOwn 0 rfl
   have H := H.lend 0 rfl
   obtain ⟨y, hy, hR1⟩ := bs_ hR1
   refine oc hf TF.cl43 (slices_insertionSortCmpFunc_int_of_FewestUnits_c1_ok (S := TT) (F := F2) (cs := [(.slice A data.length c)]) (H.ownAt 0 rfl) H.diNd.1 mk_int mk_int hy) fun v w a hp6 hf => ?_
   obtain ⟨hch, hv, F3, ho, hbk⟩ := hp6
   subst hv
   have H := H.wrote rfl hch ho hbk
   have H := H.lend 0 rfl
   have hf := hf.pn []
   refine wl_end (then_n (wp_ret (then_r (blk_r (then_r (blk_r (then_r (?_))))))))
   obtain rfl := oi hR1
   replace hF := on_ret hF
   obtain rfl := oi hF
   refine ret_0r (fn := Try.f37) hf rfl ?_
   exact ⟨_, rfl, H.chg, rfl, _, H.ownAt 0 rfl, H.back⟩
  ·refine wp_skip (then_n (sq (sqz (pz 2 hf fun a hf => ?_))))
   refine wl_end (then_n ?_)
   cases hR1
 rintro a w ⟨_, rfl, hf, H⟩
 replace hF := on_next hF
 have H := H.rowOwn 0 rfl rfl
 obtain ⟨F', H⟩ := H.freezeOwn 0 rfl
 obtain rfl := oi hF
 refine ret_0 hf rfl ?_
 exact ⟨_, rfl, H.chg, rfl, _, H.ownAt 0 rfl, H.back⟩
theorem slices_SortFunc_int_int_of_FewestUnits_c1_ok {S : Nat → Prop} {F : List Nat} {cs : List Value} {x1 : List Int} {r : List Int} (hO : GoTy.own w0 F cs x1) (hn : F.Nodup) (hF : slices_SortFunc_int_int_of_FewestUnits_c1 fu x1 = some r) :
    Calls Try.prog 23 [(bif GoTy.agg (List Int) then .agg cs.toArray else cs.headD undef), (.func (.func 24) #[] #[])].toArray w0 fun e w' => ∃ v, e = .returned v ∧ (Chg w0 w' F ∧ v = .tuple #[] ∧ ∃ F', GoTy.own w' F' cs r ∧ Back w0 w' F F') := by
 obtain ⟨A, c, rfl, hO⟩ := own_list hO
 have H := Mem.startG S hO hn
 obtain ⟨Fs, E, H, -⟩ := H.thaw rfl
 have H := H.rowSh 0 rfl
 refine en Try.func23 fun a hf => ?_
 rw [slices_SortFunc_int_int_of_FewestUnits_c1] at hF
 refine sqz (pz 3 hf fun a hf => ?_)
 refine wl_end (then_n (reg (pz 3 hf fun a hf => ?_)))
 refine oq hf (rq_conv u64w Try.underlying3 Try.underlying49 hf rfl) fun a hf => ?_
 obtain ⟨y, hy, hF⟩ := bs_ hF
 refine oc hf TF.cl38 (math_bits_Len_ok (S := TT) (mk_u64 (x := (⟨wu64 (x1.length : Int)⟩ : U64))) hy) fun v w a hp3 hf => ?_
 obtain ⟨hb, hp3⟩ := hp3
 obtain rfl := VR_int hp3
 have H := H.keep hb
 refine pz 1 hf fun a hf => ?_
 have H := H.rowOwn 0 rfl rfl
 obtain ⟨F2, H⟩ := H.freezeOwn 0 rfl
 have H := H.lend 0 rfl
 obtain ⟨y2, hy2, hF⟩ := bs_ hF
 refine oc hf TF.cl37 (slices_pdqsortCmpFunc_int_of_FewestUnits_c1_ok (S := TT) (F := F2) (cs := [(.slice A x1.length c)]) (H.ownAt 0 rfl) H.diNd.1 mk_int mk_int mk_int hy2) fun v2 w a hp4 hf => ?_
 obtain ⟨hch, hv, F3, ho, hbk⟩ := hp4
 subst hv
 have H := H.wrote rfl hch ho hbk
 have H := H.lend 0 rfl
 refine wl_end ?_
 obtain rfl := oi hF
 refine ret_0 hf rfl ?_
 exact ⟨_, rfl, H.chg, rfl, _, H.ownAt 0 rfl, H.back⟩
theorem math_bits_Mul64_ok {S : Nat → Prop} {v0_ : Value} {v1_ : Value} {x1 : U64} {y : U64} {r : U64 × U64} (h0 : VR w0 S v0_ x1) (h1 : VR w0 S v1_ y) (hF : math_bits_Mul64 fu x1 y = some r) :
    Calls Try.prog 55 [v0_, v1_].toArray w0 fun e w' => ∃ v, e = .returned v ∧ (Below w0.heap.size w0 w' ∧ ∃ u0 u1, v = .tuple #[u0, u1] ∧ VR w' (St ⟨w0, []⟩ S [] [] [] true) u0 r.1 ∧ VR w' (St ⟨w0, []⟩ S [] [] [] true) u1 r.2) := by
 obtain rfl := VR_u64 h0
 obtain rfl := VR_u64 h1
 have H := Mem.start ⟨w0, []⟩ S
 refine en Try.func55 fun a hf => ?_
 rw [math_bits_Mul64] at hF
 refine sqz (pz 2 hf fun a hf => ?_)
 refine wr (pz 1 hf fun a hf => ?_)
 refine oq hf (rq_andu64 hf rfl rfl) fun a hf => ?_
 refine pz 1 hf fun a hf => ?_
 refine wr (pz 1 hf fun a hf => ?_)
 obtain ⟨q, hq, hF⟩ := bs_ hF
 refine oq hf (rq_shrK rfl hf rfl rfl hq) fun a hf => ?_
 refine pz 1 hf fun a hf => ?_
 refine wr (pz 1 hf fun a hf => ?_)
 refine oq hf (rq_andu64 hf rfl rfl) fun a hf => ?_
 refine pz 1 hf fun a hf => ?_
 refine wr (pz 1 hf fun a hf => ?_)
 obtain ⟨q2, hq2, hF⟩ := bs_ hF
 refine oq hf (rq_shrK rfl hf rfl rfl hq2) fun a hf => ?_
 refine pz 1 hf fun a hf => ?_
 refine wr (pz 2 hf fun a hf => ?_)
 refine oq hf (rq_mulK u64w hf rfl rfl) fun a hf => ?_
 refine pz 1 hf fun a hf => ?_
 have hf := hf.pn [0, 1, 6, 7, 8, 9, 10]
 refine wr (pz 2 hf fun a hf => ?_)
 refine oq hf (rq_mulK u64w hf rfl rfl) fun a hf => ?_
 refine pz 1 hf fun a hf => ?_
 obtain ⟨q3, hq3, hF⟩ := bs_ hF
 refine oq hf (rq_shrK rfl hf rfl rfl hq3) fun a hf => ?_
 refine oq hf (rq_addK u64w hf rfl rfl) fun a hf => ?_
 refine pz 1 hf fun a hf => ?_
 refine wr (pz 1 hf fun a hf => ?_)
 refine oq hf (rq_andu64 hf rfl rfl) fun a hf => ?_
 refine pz 1 hf fun a hf => ?_
 refine wr (pz 1 hf fun a hf => ?_)
 obtain ⟨q4, hq4, hF⟩ := bs_ hF
 refine oq hf (rq_shrK rfl hf rfl rfl hq4) fun a hf => ?_
 refine pz 1 hf fun a hf => ?_
 have hf := hf.pn [0, 1, 6, 7, 9, 12, 13]
 refine wr (pz 3 hf fun a hf => ?_)
 refine oq hf (rq_mulK u64w hf rfl rfl) fun a hf => ?_
 refine oq hf (rq_addK u64w hf rfl rfl) fun a hf => ?_
 refine pz 1 hf fun a hf => ?_
 refine wr (pz 2 hf fun a hf => ?_)
 refine oq hf (rq_mulK u64w hf rfl rfl) fun a hf => ?_
 refine pz 1 hf fun a hf => ?_
 refine oq hf (rq_addK u64w hf rfl rfl) fun a hf => ?_
 refine pz 1 hf fun a hf => ?_
 obtain ⟨q5, hq5, hF⟩ := bs_ hF
 refine oq hf (rq_shrK rfl hf rfl rfl hq5) fun a hf => ?_
 refine oq hf (rq_addK u64w hf rfl rfl) fun a hf => ?_
 refine pz 1 hf fun a hf => ?_
 have hf := hf.pn [0, 1, 4]
 refine wr (pz 2 hf fun a hf => ?_)
 refine oq hf (rq_mulK u64w hf rfl rfl) fun a hf => ?_
 refine pz 1 hf fun a hf => ?_
 refine wer ?_
 obtain rfl := oi hF
 refine ret_2 hf rfl (rv_tmp hf rfl) (rv_tmp hf rfl) ?_
 exact ⟨_, rfl, H.bel, _, _, rfl, (mk_u64 (x := (⟨wu64 ((wu64 ((wu64 (q * q2)) + q4)) + q5)⟩ : U64))), (mk_u64 (x := (⟨wu64 (x1.n * y.n)⟩ : U64)))⟩
theorem math_bits_Mul_ok {S : Nat → Prop} {v0_ : Value} {v1_ : Value} {x1 : U64} {y : U64} {r : U64 × U64} (h0 : VR w0 S v0_ x1) (h1 : VR w0 S v1_ y) (hF : math_bits_Mul fu x1 y = some r) :
    Calls Try.prog 41 [v0_, v1_].toArray w0 fun e w' => ∃ v, e = .returned v ∧ (Below w0.heap.size w0 w' ∧ ∃ u0 u1, v = .tuple #[u0, u1] ∧ VR w' (St ⟨w0, []⟩ S [] [] [] true) u0 r.1 ∧ VR w' (St ⟨w0, []⟩ S [] [] [] true) u1 r.2) := by
 obtain rfl := VR_u64 h0
 obtain rfl := VR_u64 h1
 have H := Mem.start ⟨w0, []⟩ S
 refine en Try.func41 fun a hf => ?_
 rw [math_bits_Mul] at hF
 refine sqz (pz 2 hf fun a hf => ?_)
 refine wl_end (then_n (sq (cd_f hf rfl rfl (wp_skip (then_n (sqz (pz 2 hf fun a hf => ?_)))))))
 obtain ⟨y2, hy2, hF⟩ := bs_ hF
 refine oc hf TF.cl55 (math_bits_Mul64_ok (S := TT) mk_u64 mk_u64 hy2) fun v w a hp hf => ?_
 obtain ⟨hb, v2, v3, rfl, hp2, hp3⟩ := hp
 obtain rfl := VR_u64 hp2
 obtain rfl := VR_u64 hp3
 have H := H.keep hb
 refine pz 5 hf fun a hf => ?_
 refine wr (pz 4 hf fun a hf => ?_)
 refine wer ?_
 obtain rfl := oi hF
 refine ret_2 hf rfl (rv_tmp hf rfl) (rv_tmp hf rfl) ?_
 exact ⟨_, rfl, H.bel, _, _, rfl, mk_u64, mk_u64⟩
theorem slices_Repeat_int_int_ok {S : Nat → Prop} {v0_ : Value} {v1_ : Value} {x1 : List Int} {count : Int} {r : List Int} (h0 : VR w0 S v0_ x1) (h1 : VR w0 S v1_ count) (hF : slices_Repeat_int_int fu x1 count = some r) :
    Calls Try.prog 27 [v0_, v1_].toArray w0 fun e w' => ∃ v, e = .returned v ∧ (Below w0.heap.size w0 w' ∧ ∃ F0, VO w' F0 v r ∧ New w0 w' F0) := by
 obtain ⟨A, c, rfl, hl⟩ := VR_list h0
 obtain rfl := VR_int h1
 have H := Mem.start ⟨w0, []⟩ S
 have H := H.pA hl
 refine en Try.func27 fun a hf => ?_
 rw [slices_Repeat_int_int] at hF
 refine sqz (pz 1 hf fun a hf => ?_)
 refine we (sqz (pz 2 hf fun a hf => ?_))
 refine wl_end (then_n (ib hF hf (fun hc hF => ?_) fun hc hF => ?_))
 ·refine reg ?_
  cases hF
 ·refine wp_skip (then_n (sqz (pz 2 hf fun a hf => ?_)))
  refine oq hf (rq_conv u64w Try.underlying3 Try.underlying49 hf rfl) fun a hf => ?_
  refine pz 1 hf fun a hf => ?_
  refine oq hf (rq_conv u64w Try.underlying3 Try.underlying49 hf rfl) fun a hf => ?_
  obtain ⟨y, hy, hF⟩ := bs_ hF
  refine oc hf TF.cl41 (math_bits_Mul_ok (S := TT) (mk_u64 (x := (⟨wu64 (x1.length : Int)⟩ : U64))) (mk_u64 (x := (⟨wu64 count⟩ : U64))) hy) fun v w a hp hf => ?_
  obtain ⟨hb, v2, v3, rfl, hp2, hp3⟩ := hp
  obtain rfl := VR_u64 hp2
  obtain rfl := VR_u64 hp3
  have H := H.keep hb
  refine pz 5 hf fun a hf => ?_
  have hf := hf.pn [0, 5, 6]
  refine wl_end (then_n (sq (sq ?_)))
  obtain ⟨c2, hGc2, hF⟩ := bs_ hF
  have fh := hf.prune [0, 6] rfl
  have Hm := H.lt_ [] [] [] [0]
  refine midF 26 (.bool c2) fh Hm ?_ fun a w hf H => ?_
  ·refine reg (pz 1 hf fun a hf => ?_)
   refine oq hf (rq_gtK hf rfl rfl) fun a hf => ?_
   refine pz 1 hf fun a hf => ?_
   refine iteB hGc2 (fun hc2 hGc2 => ?_) fun hc2 hGc2 => ?_
   ·have hf := hf.lit 23 rfl hc2
    refine pz 3 hf fun a hf => ?_
    obtain rfl := oi hGc2
    have hf := hf.pn [26, 0, 6]
    have H := H.lt_ [] [] [] [0]
    exact wl_end ⟨hf, H⟩
   ·have hf := hf.lit 23 rfl hc2
    refine pz 1 hf fun a hf => ?_
    refine wlg hf rfl rfl rfl (op_q hf (rq_gtK hf rfl rfl) rfl (by decide) fun a hf => ?_)
    refine pz 1 hf fun a hf => ?_
    obtain rfl := oi hGc2
    have hf := hf.pn [26, 0, 6]
    have H := H.lt_ [] [] [] [0]
    exact wl_end ⟨hf, H⟩
  refine then_n (ib hF hf (fun hc3 hF => ?_) fun hc3 hF => ?_)
  ·refine reg ?_
   cases hF
  ·refine wp_skip (then_n (sqz (pz 1 hf fun a hf => ?_)))
   refine oq hf (rq_conv i64w Try.underlying49 Try.underlying3 hf rfl) fun a hf => ?_
   obtain ⟨l, hl_, hF⟩ := bs_ hF
   refine wl0 rfl (op_make (z0 := (0 : Int)) hf H Try.underlying24 TF.ai3 rfl (by decide) rfl rfl rfl hl_ (by decide) fun A2 c3 a w hf H => ?_)
   refine pz 1 hf fun a hf => ?_
   refine wr (pz 2 hf fun a hf => ?_)
   obtain ⟨y2, hy2, hF⟩ := bs_ hF
   have H := H.rowWeak 0 rfl
   refine wl0 rfl (op_copyRI hf H Try.underlying24 TF.sz3 0 0 rfl rfl rfl rfl (.inl rfl) hy2 (by decide) fun a w hf H => ?_)
   replace hf : Fr a 48 [(0, (.slice A x1.length c)), (7, (.slice A2 l.length c3)), (31, (.slice A2 l.length c3)), (32, (.slice A x1.length c)), (33, (.int .i64 y2.2))] := hf.prune [0, 7, 31, 32, 33] rfl
   replace hf : Fr a 48 [(0, (.slice A x1.length c)), (7, (.slice A2 y2.1.length c3)), (31, (.slice A2 y2.1.length c3)), (32, (.slice A x1.length c)), (33, (.int .i64 y2.2))] := by simp only [cpy_len hy2]; exact hf
   have H := H.rowOwn 0 rfl rfl
   have H := H.rowSh 0 rfl
   refine pz 1 hf fun a hf => ?_
   refine wl_end (then_n (sq ?_))
   obtain ⟨out', hB1, hF⟩ := bs_ hF
   have hf := hf.pn [7, 8]
   have H := H.lt_ [] [true] [] []
   refine loopC (fun (s : List Int × Int) (a : Act) (w : World) => match s with | (newslice, n') => ∃ (A3 : Option Addr) (c4 : Nat) (E : Go.TypeId), Fr a 48 [(7, (.slice A3 newslice.length c4)), (8, (.int .i64 n'))] ∧ Mem ⟨w0, []⟩ S [] [⟨.sh true, E, A3, c4, (newslice : List Int)⟩] [] [] w) (fun k (s : List Int × Int) => slices_Repeat_int_int_L1 fu k s.1 s.2 = some out') (fun s => out' = s) (y2.1, y2.2) fu hB1 ⟨A2, c3, 3, hf, H⟩ (fun s h => by cases h) ?_ ?_
   ·rintro fk ⟨newslice, n'⟩ a w hR1 hI
    replace hR1 : slices_Repeat_int_int_L1 fu (fk + 1) newslice n' = some out' := hR1
    rw [slices_Repeat_int_int_L1] at hR1
    obtain ⟨A3, c4, E, hf, H⟩ := hI
    refine sq (sqz (pz 4 hf fun a hf => ?_))
    refine wl_end (then_n (ib hR1 hf (fun hc4 hR1 => ?_) fun hc4 hR1 => ?_))
    ·refine wp_skip (then_n (wp_block ?_))
     obtain ⟨y3, hy3, hR1⟩ := bs_ hR1
     obtain ⟨q, hq, h0, h1, he, he2⟩ := selfcp_some hy3
     have hnc : newslice.length ≤ c4 := H.rowCap 0 rfl
     have hmx : newslice.length ≤ maxLen := H.rowMax 0 rfl
     simp only [maxLen] at hmx
     have hf := hf.pn [7, 8, 34, 35, 36, 37]
     replace hf : Fr a 48 [(7, (.slice A3 newslice.length c4)), (8, (.int .i64 ((q : Nat) : Int))), (34, (.int .i64 ((q : Nat) : Int))), (35, (.slice A3 newslice.length c4)), (36, (.int .i64 (newslice.length : Int))), (37, (.bool (decide (n' < (newslice.length : Int)))))] := by rw [← hq]; exact hf
     refine dw [] 10 fun w hb => ?_
     have H := H.keep hb
     refine zp 0 hf trivial fun a hf => ?_
     refine zp 1 hf trivial fun a hf => ?_
     refine zp 2 hf trivial fun a hf => ?_
     refine tP 3 rfl rfl rfl rfl hf (by kernel_rfl) (fun _ => trivial) (fun w => rq_cut hf rfl rfl rfl rfl (run_cut Try.underlying24 TF.sz3 fun w => b_lo (Nat.le_of_lt h1)) w) fun a hf => ?_
     refine zp 4 hf trivial fun a hf => ?_
     refine zp 5 hf trivial fun a hf => ?_
     refine tP 6 rfl rfl rfl rfl hf (by kernel_rfl) (fun _ => trivial) (fun w => rq_cut hf rfl rfl rfl rfl (run_cut Try.underlying24 TF.sz3 fun w => b_hi (show q ≤ c4 by omega)) w) fun a hf => ?_
     refine nn 7 rfl (op_selfcp (α := Int) hf H Try.underlying24 TF.sz3 0 rfl rfl rfl h0 h1 (by decide) fun a w hf H => ?_)
     refine ⟨fun _ => trivial, ?_⟩
     refine zp 8 hf trivial fun a hf => ?_
     refine zp 9 hf trivial fun a hf => ?_
     refine dk ?_
     have hf := hf.pn [7, 8]
     have hw : w64 (((q : Nat) : Int) + ((min q (newslice.length - q) : Nat) : Int)) = y3.2 := by rw [he2, w64_in (by omega) (by omega)]; omega
     replace hf : Fr a 48 [(7, (.slice A3 newslice.length c4)), (8, (.int .i64 y3.2))] := by rw [← hw]; exact hf
     rw [← he] at H
     replace hf : Fr a 48 [(7, (.slice A3 y3.1.length c4)), (8, (.int .i64 y3.2))] := by simp only [selfcp_len hy3]; exact hf
     refine blk_n ?_
     have hf := hf.pn [7, 8]
     have H := H.lt_ [] [true] [] []
     exact then_n ⟨(y3.1, y3.2), hR1, A3, c4, E, hf, H⟩
    ·refine wp_exit (then_x (then_x (blk_e (?_))))
     have hf := hf.pn [7, 8]
     have H := H.lt_ [] [true] [] []
     exact ⟨(newslice, n'), (Option.some.inj hR1).symm, A3, c4, E, hf, H⟩
   rintro a w ⟨⟨newslice2, n2⟩, rfl, A4, c5, E2, hf, H⟩
   try dsimp only at hF
   refine then_n (sqz (pz 2 hf fun a hf => ?_))
   refine wer ?_
   have H := H.rowOwn 0 rfl rfl
   obtain ⟨F, H⟩ := H.freezeOwn 0 rfl
   have H := H.lend 0 rfl
   obtain rfl := oi hF
   refine rT hf ?_
   have hN := H.ends1
   exact ⟨_, rfl, H.bel, F, (mko_list (H.ownAt 0 rfl)), by first | exact hN | simpa using hN⟩
theorem slices_Index_int_int_ok {S : Nat → Prop} {v0_ : Value} {v1_ : Value} {s' : List Int} {v : Int} {r : Int} (h0 : VR w0 S v0_ s') (h1 : VR w0 S v1_ v) (hF : slices_Index_int_int fu s' v = some r) :
    Calls Try.prog 53 [v0_, v1_].toArray w0 fun e w' => ∃ v, e = .returned v ∧ (Below w0.heap.size w0 w' ∧ VR w' (St ⟨w0, []⟩ S [] [] [] true) v r) := by
 obtain ⟨A, c, rfl, hl⟩ := VR_list h0
 obtain rfl := VR_int h1
 have H := Mem.start ⟨w0, []⟩ S
 have H := H.pA hl
 refine en Try.func53 fun a hf => ?_
 rw [slices_Index_int_int] at hF
 refine sqz (pz 1 hf fun a hf => ?_)
 refine we (sqz (pz 3 hf fun a hf => ?_))
 refine wl_end (then_n ?_)
 obtain ⟨out', hB1, hF⟩ := bs_ hF
 have hf := hf.pn [0, 1, 7, 8]
 have H := H.lt_ [] [] [] [0]
 refine loopC (fun (s : Int) (a : Act) (w : World) => match s with | i => Fr a 19 [(0, (.slice A s'.length c)), (1, (.int .i64 v)), (7, (.int .i64 (s'.length : Int))), (8, (.int .i64 i))] ∧ Mem ⟨w0, []⟩ S [] [] [] [(false, MP.val [(.slice A s'.length c)] (s' : List Int))] w) (fun k (s : Int) => slices_Index_int_int_L1 fu s' v k s = some out') (fun s => out' = Out.next s) 0 fu hB1 ⟨hf, H⟩ (fun s h => by cases h) ?_ ?_
 ·rintro fk i a w hR1 hI
  replace hR1 : slices_Index_int_int_L1 fu s' v (fk + 1) i = some out' := hR1
  rw [slices_Index_int_int_L1] at hR1
  obtain ⟨hf, H⟩ := hI
  refine sqz (pz 1 hf fun a hf => ?_)
  refine wl_end (then_n (sq (ib hR1 hf (fun hc hR1 => ?_) fun hc hR1 => ?_)))
  ·refine ws (pz 2 hf fun a hf => ?_)
   refine wr (pz 3 hf fun a hf => ?_)
   obtain ⟨e, he, hR1⟩ := bs_ hR1
   refine wl0 rfl (op_iaddr hf H Try.underlying24 TF.sz3 0 rfl rfl rfl he (by decide) fun p o cs a hf hr H => ?_)
   obtain rfl := hr
   refine oq hf (rq_loadI hf H TF.ls3 0 0 rfl rfl rfl) fun a hf => ?_
   refine pz 1 hf fun a hf => ?_
   refine wl_end (then_n (ib hR1 hf (fun hc2 hR1 => ?_) fun hc2 hR1 => ?_))
   ·refine sqz (pz 2 hf fun a hf => ?_)
    have hf := hf.pn [4]
    refine wl_end (then_n (wp_ret (blk_r (then_r (then_r (blk_r (then_r (then_r (?_)))))))))
    obtain rfl := oi hR1
    replace hF := on_ret hF
    obtain rfl := oi hF
    refine rT hf ?_
    exact ⟨_, rfl, H.bel, mk_int⟩
   ·refine wp_skip (blk_n (then_n (reg (pz 2 hf fun a hf => ?_))))
    refine wl_end ?_
    have hf := hf.pn [0, 1, 7, 8]
    have H := H.lt_ [] [] [] [1]
    exact then_n ⟨w64 (i + 1), hR1, hf, H⟩
  ·refine wp_exit (then_x (then_x (blk_e (?_))))
   have hf := hf.pn [0, 1, 7, 8]
   have H := H.lt_ [] [] [] [0]
   exact ⟨i, (Option.some.inj hR1).symm, hf, H⟩
 rintro a w ⟨i2, rfl, hf, H⟩
 replace hF := on_next hF
 refine then_n (sqz (pz 1 hf fun a hf => ?_))
 refine wer ?_
 obtain rfl := oi hF
 refine rT hf ?_
 exact ⟨_, rfl, H.bel, mk_int⟩
theorem slices_Contains_int_int_ok {S : Nat → Prop} {v0_ : Value} {v1_ : Value} {s' : List Int} {v : Int} {r : Bool} (h0 : VR w0 S v0_ s') (h1 : VR w0 S v1_ v) (hF : slices_Contains_int_int fu s' v = some r) :
    Calls Try.prog 40 [v0_, v1_].toArray w0 fun e w' => ∃ v, e = .returned v ∧ (Below w0.heap.size w0 w' ∧ VR w' (St ⟨w0, []⟩ S [] [] [] true) v r) := by
 obtain ⟨A, c, rfl, hl⟩ := VR_list h0
 obtain rfl := VR_int h1
 have H := Mem.start ⟨w0, []⟩ S
 have H := H.pA hl
 refine en Try.func40 fun a hf => ?_
 rw [slices_Contains_int_int] at hF
 refine sqz (pz 1 hf fun a hf => ?_)
 refine wr (pz 2 hf fun a hf => ?_)
 obtain ⟨y, hy, hF⟩ := bs_ hF
 refine oc hf TF.cl53 (slices_Index_int_int_ok (S := TT) (mk_list (H.rt 0 rfl)) mk_int hy) fun v2 w a hp hf => ?_
 obtain ⟨hb, hp⟩ := hp
 obtain rfl := VR_int hp
 have H := H.keep hb
 refine pz 2 hf fun a hf => ?_
 refine wer ?_
 obtain rfl := oi hF
 refine rT hf ?_
 exact ⟨_, rfl, H.bel, mk_bool⟩
theorem impl_fits_B_ok {fu : Nat} {rec_ : (List Int) → (List Int) → Option (Bool × List Int)} (ih : ∀ {w0 : World} {S : Nat → Prop} {F : List Nat} {cs : List Value} {v0_ : Value} {rates : List Int} {free : List Int} {r : Bool × List Int} (hO : GoTy.own w0 F cs free) (hn : F.Nodup) (hSm : ∀ c ∈ F, ¬ S c) (h0 : VR w0 S v0_ rates) (hF : rec_ rates free = some r), Calls Try.prog 26 [v0_, (bif GoTy.agg (List Int) then .agg cs.toArray else cs.headD undef)].toArray w0 fun e w' => ∃ v, e = .returned v ∧ (Chg w0 w' F ∧ VR w' (fun _ => True) v r.1 ∧ ∃ F', GoTy.own w' F' cs r.2 ∧ Back w0 w' F F')) {w0 : World} {S : Nat → Prop} {F : List Nat} {cs : List Value} {v0_ : Value} {rates : List Int} {free : List Int} {r : Bool × List Int} (hO : GoTy.own w0 F cs free) (hn : F.Nodup) (hSm : ∀ c ∈ F, ¬ S c) (h0 : VR w0 S v0_ rates) (hF : impl_fits_B fu rec_ rates free = some r) :
    Calls Try.prog 26 [v0_, (bif GoTy.agg (List Int) then .agg cs.toArray else cs.headD undef)].toArray w0 fun e w' => ∃ v, e = .returned v ∧ (Chg w0 w' F ∧ VR w' (fun _ => True) v r.1 ∧ ∃ F', GoTy.own w' F' cs r.2 ∧ Back w0 w' F F') := by
 obtain ⟨A2, c2, rfl, hl⟩ := VR_list h0
 obtain ⟨A, c, rfl, hO⟩ := own_list hO
 have H := Mem.startG S hO hn
 obtain ⟨Fs, E, H, -⟩ := H.thaw rfl
 have H := H.rowSh 0 rfl
 have H := H.argB hSm (p := MP.val [(.slice A2 rates.length c2)] rates) hl
 refine en Try.func26 fun a hf => ?_
 rw [impl_fits_B] at hF
 refine sqz (pz 1 hf fun a hf => ?_)
 refine we (sqz (pz 3 hf fun a hf => ?_))
 refine wl_end (then_n (ib hF hf (fun hc hF => ?_) fun hc hF => ?_))
 ·refine sqz (pz 1 hf fun a hf => ?_)
  refine wl_end (then_n (wp_ret (then_r (?_))))
  have H := H.rowOwn 0 rfl rfl
  obtain ⟨F', H⟩ := H.freezeOwn 0 rfl
  obtain rfl := oi hF
  refine rT hf ?_
  exact ⟨_, rfl, H.chg, mk_bool, _, H.ownAt 0 rfl, H.back⟩
 ·refine wp_skip (then_n (sq (sqz (pz 3 hf fun a hf => ?_))))
  refine wl_end (then_n ?_)
  obtain ⟨out', hB1, hF⟩ := bs_ hF
  have hf := hf.pn [0, 1, 11, 12, 13]
  have hf : Fr a 49 [(0, (.slice A2 rates.length c2)), (1, (.slice A free.length c)), (11, (.slice A free.length c)), (12, (.int .i64 (free.length : Int))), (13, (.int .i64 0))] := by first | exact hf | (simp only [List.length_set] at hf; exact hf)
  have H := H.lt_ [] [true] [] [0]
  refine loopC (fun (s : Int × List Int) (a : Act) (w : World) => match s with | (i, free2) => ∃ (E2 : Go.TypeId), free2.length = free.length ∧ Fr a 49 [(0, (.slice A2 rates.length c2)), (1, (.slice A free.length c)), (11, (.slice A free.length c)), (12, (.int .i64 (free.length : Int))), (13, (.int .i64 i))] ∧ Mem ⟨w0, F⟩ S [] [⟨.sh true, E2, A, c, (free2 : List Int)⟩] [] [(false, MP.val [(.slice A2 rates.length c2)] (rates : List Int))] w) (fun k (s : Int × List Int) => impl_fits_L1 fu rates free rec_ k s.1 s.2 = some out') (fun s => out' = Out.next s) (0, free) fu hB1 ⟨E, rfl, hf, H⟩ (fun s h => by cases h) ?_ ?_
  ·rintro fk ⟨i, free2⟩ a w hR1 hI
   replace hR1 : impl_fits_L1 fu rates free rec_ (fk + 1) i free2 = some out' := hR1
   rw [impl_fits_L1] at hR1
   obtain ⟨E2, hlen, hf, H⟩ := hI
   have hf : Fr a 49 [(0, (.slice A2 rates.length c2)), (1, (.slice A free2.length c)), (11, (.slice A free2.length c)), (12, (.int .i64 (free.length : Int))), (13, (.int .i64 i))] := by rw [hlen]; exact hf
   refine sqz (pz 1 hf fun a hf => ?_)
   refine wl_end (then_n (sq (ib hR1 hf (fun hc2 hR1 => ?_) fun hc2 hR1 => ?_)))
   ·refine ws (pz 1 hf fun a hf => ?_)
    obtain ⟨e, he, hR1⟩ := bs_ hR1
    refine wl0 rfl (op_iaddrR hf H Try.underlying24 TF.sz3 0 rfl rfl rfl he (by decide) fun p o cs a hf hA hr hk => ?_)
    obtain rfl := hr
    refine oq hf (rq_load1 hf TF.ls3 rfl (hk 0 _ rfl)) fun a hf => ?_
    refine pz 2 hf fun a hf => ?_
    refine wl_end (then_n (sq (sq ?_)))
    obtain ⟨c3, hGc3, hR1⟩ := bs_ hR1
    have fh := hf.prune [0, 1, 5, 6, 11, 12, 13] rfl
    have Hm := H.lt_ [] [true] [] [0]
    refine midF 29 (.bool c3) fh Hm ?_ fun a w hf H => ?_
    ·refine reg (pz 2 hf fun a hf => ?_)
     obtain ⟨e2, he2, hGc3⟩ := bs_ hGc3
     refine wl0 rfl (op_iaddr hf H Try.underlying24 TF.sz3 0 rfl rfl rfl he2 (by decide) fun p2 o2 cs2 a hf hr2 H => ?_)
     obtain rfl := hr2
     refine oq hf (rq_loadI hf H TF.ls3 0 0 rfl rfl rfl) fun a hf => ?_
     refine pz 2 hf fun a hf => ?_
     refine iteB hGc3 (fun hc3 hGc3 => ?_) fun hc3 hGc3 => ?_
     ·have hf := hf.lit 23 rfl hc3
      refine pz 6 hf fun a hf => ?_
      obtain rfl := oi hGc3
      have hf := hf.pn [29, 0, 1, 5, 6, 11, 12, 13]
      have H := H.lt_ [] [true] [] [1]
      exact wl_end ⟨hf, H⟩
     ·have hf := hf.lit 23 rfl hc3
      refine pz 2 hf fun a hf => ?_
      obtain ⟨l, hl_, hGc3⟩ := bs_ hGc3
      refine wlg hf rfl rfl rfl (op_sliceV hf H Try.underlying24 TF.sz3 0 rfl rfl rfl rfl hl_ (by decide) fun A3 c4 a hf hv => ?_)
      refine pz 1 hf fun a hf => ?_
      obtain ⟨y, hy, hGc3⟩ := bs_ hGc3
      refine wlg hf rfl rfl rfl (oC hf TF.cl40 (slices_Contains_int_int_ok (S := TT) (mk_list (hv)) mk_int hy) fun v w a hp hf => ?_)
      obtain ⟨hb, hp⟩ := hp
      obtain rfl := VR_bool hp
      have H := H.keep hb
      refine pz 1 hf fun a hf => ?_
      obtain rfl := oi hGc3
      have hf := hf.pn [29, 0, 1, 5, 6, 11, 12, 13]
      have H := H.lt_ [] [true] [] [1]
      exact wl_end ⟨hf, H⟩
    refine then_n (ib hR1 hf (fun hc4 hR1 => ?_) fun hc4 hR1 => ?_)
    ·refine wp_exit (then_x (blk_e (?_)))
     refine then_n (reg (pz 2 hf fun a hf => ?_))
     refine wl_end ?_
     have hf := hf.pn [0, 1, 11, 12, 13]
     have hf : Fr a 49 [(0, (.slice A2 rates.length c2)), (1, (.slice A free.length c)), (11, (.slice A free.length c)), (12, (.int .i64 (free.length : Int))), (13, (.int .i64 (w64 (i + 1))))] := by first | exact hf | (simp only [List.length_set, hlen] at hf; exact hf)
     have H := H.lt_ [] [true] [] [0]
     exact then_n ⟨(w64 (i + 1), free2), hR1, E2, (by simp only [List.length_set, hlen]), hf, H⟩
    ·refine wp_skip (then_n (sq (dw [9] 10 fun w hb => ?_)))
     have H := H.keep hb
     refine zp 0 hf trivial fun a hf => ?_
     refine zp 1 hf trivial fun a hf => ?_
     obtain ⟨e3, he3, hR1⟩ := bs_ hR1
     obtain ⟨p3, o3, hA2, hx⟩ := pre_iaddrR H Try.underlying24 TF.sz3 0 rfl he3
     refine tP 2 rfl rfl rfl rfl hf (by kernel_rfl) (fun _ => trivial) (fun w => rq_iaddrE hf rfl rfl rfl hx w) fun a hf => ?_
     refine strT (H.lt_ [] [true] [] []) (fun w H => trivial) fun hS => ?_
     refine zS 3 [3, 7, 8, 9] rfl rfl rfl rfl hf hS (fun w H => rq_loadRow (off := 0) hf H TF.ls3 0 rfl rfl hA2 he3 (fun w T cs h => by obtain rfl := h; rfl)) fun a hf => ?_
     refine zp 4 hf hS fun a hf => ?_
     obtain ⟨e4, he4, hR1⟩ := bs_ hR1
     obtain ⟨p4, o4, cs3, hx2, hr3, H⟩ := pre_iaddr H Try.underlying24 TF.sz3 0 rfl he4
     refine zP 5 rfl rfl rfl rfl hf hS (fun w => rq_iaddrE hf rfl rfl rfl hx2 w) fun a hf => ?_
     obtain rfl := hr3
     refine strT (H.lt_ [] [true] [] [0]) (fun w H => H.lt_ [] [true] [] []) fun hS => ?_
     refine zS 6 [6, 7, 8, 9] rfl rfl rfl rfl hf hS (fun w H => rq_loadI hf H TF.ls3 0 0 rfl rfl rfl) fun a hf => ?_
     refine zp 7 hf hS fun a hf => ?_
     obtain ⟨e5, he5, hR1⟩ := bs_ hR1
     refine nn 8 rfl (op_iaddrR hf H Try.underlying24 TF.sz3 0 rfl rfl rfl he5 (by decide) fun p5 o5 cs4 a hf hA3 hr4 hk2 => ?_)
     obtain rfl := hr4
     have hS := H.lt_ [] [true] [] [0]
     refine aS hS ?_
     refine nn 9 rfl (op_storeR (e' := w64 (e3 - e4)) (o := o5) (off := 0) hf H TF.sz3 0 rfl rfl rfl rfl rfl (nle rfl) rfl hA3 he5 (st_full rfl) fun w H => ?_)
     replace hf : Fr a 49 [(0, (.slice A2 rates.length c2)), (1, (.slice A free2.length c)), (5, (.int .i64 i)), (6, (.int .i64 e)), (11, (.slice A free2.length c)), (12, (.int .i64 (free.length : Int))), (13, (.int .i64 i)), (30, (.slice A free2.length c)), (31, (.int .i64 i)), (32, (.pointer (some ⟨p3, o3 + 0, none⟩))), (33, (.int .i64 e3)), (34, (.slice A2 rates.length c2)), (35, (.pointer (some ⟨p4, o4 + 0, none⟩))), (36, (.int .i64 e4)), (37, (.int .i64 (w64 (e3 - e4)))), (38, (.pointer (some ⟨p5, o5 + 0, none⟩)))] := hf.prune [0, 1, 5, 6, 11, 12, 13, 30, 31, 32, 33, 34, 35, 36, 37, 38] rfl
     replace hf : Fr a 49 [(0, (.slice A2 rates.length c2)), (1, (.slice A (free2.set (i : Int).toNat (w64 (e3 - e4))).length c)), (5, (.int .i64 i)), (6, (.int .i64 e)), (11, (.slice A (free2.set (i : Int).toNat (w64 (e3 - e4))).length c)), (12, (.int .i64 (free.length : Int))), (13, (.int .i64 i)), (30, (.slice A (free2.set (i : Int).toNat (w64 (e3 - e4))).length c)), (31, (.int .i64 i)), (32, (.pointer (some ⟨p3, o3 + 0, none⟩))), (33, (.int .i64 e3)), (34, (.slice A2 rates.length c2)), (35, (.pointer (some ⟨p4, o4 + 0, none⟩))), (36, (.int .i64 e4)), (37, (.int .i64 (w64 (e3 - e4)))), (38, (.pointer (some ⟨p5, o5 + 0, none⟩)))] := by simpa only [List.length_set, Nat.add_zero] using hf
     refine ⟨fun h => absurd h (by decide), ?_⟩
     refine dk ?_
     refine then_n (sqz (pz 1 hf fun a hf => ?_))
     obtain ⟨l2, hl2_, hR1⟩ := bs_ hR1
     refine wl0 rfl (op_sliceA hf H Try.underlying24 TF.sz3 1 rfl rfl rfl rfl hl2_ (by decide) fun A4 c5 a hf hsa H => ?_)
     refine pz 1 hf fun a hf => ?_
     have H := H.rowOwn 0 rfl rfl
     obtain ⟨F2, H⟩ := H.freezeOwn 0 rfl
     have H := H.lend 0 rfl
     obtain ⟨y2, hy2, hR1⟩ := bs_ hR1
     refine oc hf TF.cl26 (ih (S := NO F2) (F := F2) (cs := [(.slice A (free2.set (i : Int).toNat (w64 (e3 - e4))).length c)]) (H.ownAt 0 rfl) H.diNd.1 (fun _ h1 h2 => h2 h1) (mk_list (H.argO hSm (α := List Int) (hsa _ _ hl))) hy2) fun v2 w a hp2 hf => ?_
     obtain ⟨hch, hv2, F3, ho, hbk⟩ := hp2
     obtain rfl := VR_bool hv2
     have H := H.wrote rfl hch ho hbk
     have H := H.argB hSm (p := MP.val [(.slice A2 rates.length c2)] rates) hl
     have H := H.argB hSm (p := MP.val [(.slice A4 l2.length c5)] l2) (hsa _ _ hl)
     have H := H.lend 0 rfl
     refine pz 1 hf fun a hf => ?_
     have hf := hf.pn [0, 1, 5, 6, 7, 11, 12, 13]
     refine wr (pz 3 hf fun a hf => ?_)
     have hlen2 := H.ownLen rfl
     obtain ⟨Fs2, E3, H, -⟩ := H.thaw rfl
     have H := H.rowSh 0 rfl
     have hf := hf.pn [0, 1, 5, 6, 7, 11, 12, 13, 43, 44, 45]
     replace hf : Fr a 49 [(0, (.slice A2 rates.length c2)), (1, (.slice A y2.2.length c)), (5, (.int .i64 i)), (6, (.int .i64 e)), (7, (.bool y2.1)), (11, (.slice A y2.2.length c)), (12, (.int .i64 (free.length : Int))), (13, (.int .i64 i)), (43, (.slice A y2.2.length c)), (44, (.int .i64 i)), (45, (.int .i64 e))] := by rw [hlen2]; exact hf
     have H := H.argB hSm (p := MP.val [(.slice A2 rates.length c2)] rates) hl
     have H := H.argB hSm (p := MP.val [(.slice A4 l2.length c5)] l2) (hsa _ _ hl)
     obtain ⟨e6, he6, hR1⟩ := bs_ hR1
     refine wl0 rfl (op_iaddrR hf H Try.underlying24 TF.sz3 0 rfl rfl rfl he6 (by decide) fun p6 o6 cs5 a hf hA4 hr5 hk3 => ?_)
     obtain rfl := hr5
     refine wl0 rfl (op_storeR (e' := e) (o := o6) (off := 0) hf H TF.sz3 0 rfl rfl rfl rfl rfl (nle rfl) rfl hA4 he6 (st_full rfl) fun w H => ?_)
     replace hf : Fr a 49 [(0, (.slice A2 rates.length c2)), (1, (.slice A y2.2.length c)), (5, (.int .i64 i)), (6, (.int .i64 e)), (7, (.bool y2.1)), (11, (.slice A y2.2.length c)), (12, (.int .i64 (free.length : Int))), (13, (.int .i64 i)), (43, (.slice A y2.2.length c)), (44, (.int .i64 i)), (45, (.int .i64 e)), (46, (.pointer (some ⟨p6, o6 + 0, none⟩)))] := hf.prune [0, 1, 5, 6, 7, 11, 12, 13, 43, 44, 45, 46] rfl
     replace hf : Fr a 49 [(0, (.slice A2 rates.length c2)), (1, (.slice A (y2.2.set (i : Int).toNat e).length c)), (5, (.int .i64 i)), (6, (.int .i64 e)), (7, (.bool y2.1)), (11, (.slice A (y2.2.set (i : Int).toNat e).length c)), (12, (.int .i64 (free.length : Int))), (13, (.int .i64 i)), (43, (.slice A (y2.2.set (i : Int).toNat e).length c)), (44, (.int .i64 i)), (45, (.int .i64 e)), (46, (.pointer (some ⟨p6, o6 + 0, none⟩)))] := by simpa only [List.length_set, Nat.add_zero] using hf
     refine wr (pz 1 hf fun a hf => ?_)
     refine wl_end (then_n (ib hR1 hf (fun hc5 hR1 => ?_) fun hc5 hR1 => ?_))
     ·refine sqz (pz 1 hf fun a hf => ?_)
      have hf := hf.pn [4]
      refine wl_end (then_n (wp_ret (blk_r (then_r (then_r (blk_r (then_r (then_r (?_)))))))))
      have H := H.rowOwn 0 rfl rfl
      obtain ⟨F', H⟩ := H.freezeOwn 0 rfl
      simp only [List.length_set, hlen2, hlen] at H
      obtain rfl := oi hR1
      replace hF := on_ret hF
      obtain rfl := oi hF
      refine rT hf ?_
      exact ⟨_, rfl, H.chg, mk_bool, _, H.ownAt 0 rfl, H.back⟩
     ·refine wp_skip (blk_n (then_n (reg (pz 2 hf fun a hf => ?_))))
      refine wl_end ?_
      have hf := hf.pn [0, 1, 11, 12, 13]
      have hf : Fr a 49 [(0, (.slice A2 rates.length c2)), (1, (.slice A free.length c)), (11, (.slice A free.length c)), (12, (.int .i64 (free.length : Int))), (13, (.int .i64 (w64 (i + 1))))] := by first | exact hf | (simp only [List.length_set, hlen, hlen2] at hf; exact hf)
      have H := H.lt_ [] [true] [] [1]
      exact then_n ⟨(w64 (i + 1), y2.2.set (i : Int).toNat e), hR1, E3, (by simp only [List.length_set, hlen, hlen2]), hf, H⟩
   ·refine wp_exit (then_x (then_x (blk_e (?_))))
    have hf := hf.pn [0, 1, 11, 12, 13]
    have hf : Fr a 49 [(0, (.slice A2 rates.length c2)), (1, (.slice A free.length c)), (11, (.slice A free.length c)), (12, (.int .i64 (free.length : Int))), (13, (.int .i64 i))] := by first | exact hf | (simp only [List.length_set, hlen] at hf; exact hf)
    have H := H.lt_ [] [true] [] [0]
    exact ⟨(i, free2), (Option.some.inj hR1).symm, E2, (by simp only [List.length_set, hlen]), hf, H⟩
  rintro a w ⟨⟨i2, free3⟩, rfl, E4, hlen, hf, H⟩
  try dsimp only at hlen
  have hf : Fr a 49 [(0, (.slice A2 rates.length c2)), (1, (.slice A free3.length c)), (11, (.slice A free3.length c)), (12, (.int .i64 (free.length : Int))), (13, (.int .i64 i2))] := by rw [hlen]; exact hf
  replace hF := on_next hF
  try dsimp only at hF
  refine then_n (sqz (pz 1 hf fun a hf => ?_))
  refine wer ?_
  have H := H.rowOwn 0 rfl rfl
  obtain ⟨F', H⟩ := H.freezeOwn 0 rfl
  simp only [List.length_set, hlen] at H
  obtain rfl := oi hF
  refine rT hf ?_
  exact ⟨_, rfl, H.chg, mk_bool, _, H.ownAt 0 rfl, H.back⟩
theorem impl_fits_ok {fu : Nat} : ∀ {w0 : World} {S : Nat → Prop} {F : List Nat} {cs : List Value} {v0_ : Value} {rates : List Int} {free : List Int} {r : Bool × List Int} (hO : GoTy.own w0 F cs free) (hn : F.Nodup) (hSm : ∀ c ∈ F, ¬ S c) (h0 : VR w0 S v0_ rates) (hF : impl_fits fu rates free = some r), Calls Try.prog 26 [v0_, (bif GoTy.agg (List Int) then .agg cs.toArray else cs.headD undef)].toArray w0 fun e w' => ∃ v, e = .returned v ∧ (Chg w0 w' F ∧ VR w' (fun _ => True) v r.1 ∧ ∃ F', GoTy.own w' F' cs r.2 ∧ Back w0 w' F F') := by
  induction fu with
  | zero => intro w0 S F cs v0_ rates free r hO hn hSm h0 hF; rw [impl_fits] at hF; cases hF
  | succ fu ih => intro w0 S F cs v0_ rates free r hO hn hSm h0 hF; rw [impl_fits] at hF; exact impl_fits_B_ok (rec_ := fun rates free => impl_fits fu rates free) (fun hO hn hSm h0 hF => ih hO hn hSm h0 hF) hO hn hSm h0 hF
theorem impl_FewestUnits_ok {S : Nat → Prop} {v0_ : Value} {v1_ : Value} {rates : List Int} {capacity : Int} {r : Int × Bool} (h0 : VR w0 S v0_ rates) (h1 : VR w0 S v1_ capacity) (hF : impl_FewestUnits fu rates capacity = some r) :
    Calls Try.prog 11 [v0_, v1_].toArray w0 fun e w' => ∃ v, e = .returned v ∧ (Below w0.heap.size w0 w' ∧ ∃ u0 u1, v = .tuple #[u0, u1] ∧ VR w' (St ⟨w0, []⟩ S [] [] [] true) u0 r.1 ∧ VR w' (St ⟨w0, []⟩ S [] [] [] true) u1 r.2) := by
 obtain ⟨A, c, rfl, hl⟩ := VR_list h0
 obtain rfl := VR_int h1
 have H := Mem.start ⟨w0, []⟩ S
 have H := H.pA hl
 refine en Try.func11 fun a hf => ?_
 rw [impl_FewestUnits] at hF
 refine sqz (pz 2 hf fun a hf => ?_)
 refine we (sqz (pz 2 hf fun a hf => ?_))
 obtain ⟨y, hy, hF⟩ := bs_ hF
 refine oc hf TF.cl15 (impl_isPacking_ok (S := TT) (mk_list (H.rt 0 rfl)) mk_int mk_int hy) fun v w a hp hf => ?_
 obtain ⟨hb, hp⟩ := hp
 obtain rfl := VR_bool hp
 have H := H.keep hb
 refine pz 1 hf fun a hf => ?_
 refine wl_end (then_n (ib hF hf (fun hc hF => ?_) fun hc hF => ?_))
 ·refine sqz (pz 2 hf fun a hf => ?_)
  refine wl_end (then_n (wp_ret (then_r (?_))))
  obtain rfl := oi hF
  refine ret_2 hf rfl (rv_tmp hf rfl) (rv_tmp hf rfl) ?_
  exact ⟨_, rfl, H.bel, _, _, rfl, mk_int, mk_bool⟩
 ·refine wp_skip (then_n (sqz (pz 1 hf fun a hf => ?_)))
  obtain ⟨y2, hy2, hF⟩ := bs_ hF
  refine oc hf TF.cl22 (slices_Clone_int_int_ok (S := TT) (mk_list (H.rt 0 rfl)) hy2) fun v2 w a hp2 hf => ?_
  obtain ⟨hb2, F, hp3, hN⟩ := hp2
  obtain ⟨A2, c2, rfl, hl2⟩ := VO_list hp3
  have H := H.aO1 hb2 hN hl2
  have H := H.lend 0 rfl
  refine pz 1 hf fun a hf => ?_
  refine wr (pz 1 hf fun a hf => ?_)
  obtain ⟨y3, hy3, hF⟩ := bs_ hF
  refine oc hf TF.cl23 (slices_SortFunc_int_int_of_FewestUnits_c1_ok (S := TT) (F := F) (cs := [(.slice A2 y2.length c2)]) (H.ownAt 0 rfl) H.diNd.1 hy3) fun v3 w a hp4 hf => ?_
  obtain ⟨hch, hv, F3, ho, hbk⟩ := hp4
  subst hv
  have H := H.wrote rfl hch ho hbk
  have H := H.pA hl
  have H := H.lend 0 rfl
  refine wr (pz 1 hf fun a hf => ?_)
  refine wl_end (then_n (sq ?_))
  obtain ⟨out', hB1, hF⟩ := bs_ hF
  have hf := hf.pn [1, 6, 7]
  have H := H.lt_ [] [] [true] [0]
  refine loopC (fun (s : Int) (a : Act) (w : World) => match s with | units => Fr a 26 [(1, (.int .i64 capacity)), (6, (.slice A2 y2.length c2)), (7, (.int .i64 units))] ∧ Mem ⟨w0, []⟩ S [] [] [⟨F3, MP.own F3 [(.slice A2 y2.length c2)] (y3 : List Int)⟩] [(true, MP.val [(.slice A2 y2.length c2)] (y3 : List Int))] w) (fun k (s : Int) => impl_FewestUnits_L1 fu capacity y3 k s = some out') (fun s => out' = s) 0 fu hB1 ⟨hf, H⟩ (fun s h => by cases h) ?_ ?_
  ·rintro fk units a w hR1 hI
   replace hR1 : impl_FewestUnits_L1 fu capacity y3 (fk + 1) units = some out' := hR1
   rw [impl_FewestUnits_L1] at hR1
   obtain ⟨hf, H⟩ := hI
   refine sq (sqz (pz 2 hf fun a hf => ?_))
   refine wl0 rfl (bl hf H 3 ([capacity] : List Int) [(.int .i64 capacity)] (el1 (y := capacity) (rfl)) fun A3 a w hf H => ?_)
   refine pz 1 hf fun a hf => ?_
   obtain ⟨y4, hy4, hR1⟩ := bs_ hR1
   refine oc hf TF.cl27 (slices_Repeat_int_int_ok (S := TT) (mk_list (H.rowTrue 0 rfl)) mk_int hy4) fun v4 w a hp5 hf => ?_
   obtain ⟨hb3, F4, hp6, hN2⟩ := hp5
   obtain ⟨A4, c3, rfl, hl3⟩ := VO_list hp6
   have H := H.aO1 hb3 hN2 hl3
   have H := H.lend 0 rfl
   obtain ⟨y5, hy5, hR1⟩ := bs_ hR1
   refine oc hf TF.cl26 (impl_fits_ok (S := NO F4) (F := F4) (cs := [(.slice A4 y4.length c3)]) (H.ownAt 0 rfl) H.diNd.1 (fun _ h1 h2 => h2 h1) (mk_list (H.ownO 0 rfl)) hy5) fun v5 w a hp7 hf => ?_
   obtain ⟨hch2, hv2, F6, ho2, hbk2⟩ := hp7
   obtain rfl := VR_bool hv2
   have H := H.wrote rfl hch2 ho2 hbk2
   have H := H.pA hl
   have H := H.lend 0 rfl
   have H := H.lend 1 rfl
   refine pz 1 hf fun a hf => ?_
   refine wl_end (then_n (ib hR1 hf (fun hc2 hR1 => ?_) fun hc2 hR1 => ?_))
   ·refine wp_skip (then_n (wp_block (reg (pz 3 hf fun a hf => ?_))))
    refine wl_end (blk_n ?_)
    have hf := hf.pn [1, 6, 7]
    have H := H.lt_ [] [false] [false, true] [0]
    exact then_n ⟨w64 (units + 1), hR1, hf, H⟩
   ·refine wp_exit (then_x (then_x (blk_e (?_))))
    have hf := hf.pn [1, 6, 7]
    have H := H.lt_ [] [false] [false, true] [0]
    exact ⟨units, (Option.some.inj hR1).symm, hf, H⟩
  rintro a w ⟨out', rfl, hf, H⟩
  refine then_n (sqz (pz 3 hf fun a hf => ?_))
  refine wer ?_
  obtain rfl := oi hF
  refine ret_2 hf rfl (rv_tmp hf rfl) (rv_tmp hf rfl) ?_
  exact ⟨_, rfl, H.bel, _, _, rfl, mk_int, mk_bool⟩
theorem spec_FewestUnits_ok {S : Nat → Prop} {v0_ : Value} {v1_ : Value} {rates : List Int} {capacity : Int} {r : Int × Bool} (h0 : VR w0 S v0_ rates) (h1 : VR w0 S v1_ capacity) (hF : spec_FewestUnits fu rates capacity = some r) :
    Calls Try.prog 12 [v0_, v1_].toArray w0 fun e w' => ∃ v, e = .returned v ∧ (Below w0.heap.size w0 w' ∧ ∃ u0 u1, v = .tuple #[u0, u1] ∧ VR w' (St ⟨w0, []⟩ S [] [] [] true) u0 r.1 ∧ VR w' (St ⟨w0, []⟩ S [] [] [] true) u1 r.2) := by
 obtain ⟨A, c, rfl, hl⟩ := VR_list h0
 obtain rfl := VR_int h1
 have H := Mem.start ⟨w0, []⟩ S
 have H := H.pA hl
 refine en Try.func12 fun a hf => ?_
 rw [spec_FewestUnits] at hF
 refine sqz (pz 2 hf fun a hf => ?_)
 refine wl_end (then_n (sq (sq ?_)))
 obtain ⟨c2, hGc2, hF⟩ := bs_ hF
 have fh := hf.prune [0, 1] rfl
 have Hm := H.lt_ [] [] [] [0]
 refine midF 23 (.bool c2) fh Hm ?_ fun a w hf H => ?_
 ·refine reg (pz 2 hf fun a hf => ?_)
  obtain ⟨y, hy, hGc2⟩ := bs_ hGc2
  refine oc hf TF.cl19 (spec_l18Rates_ok (S := TT) (mk_list (H.rt 0 rfl)) mk_int hy) fun v w a hp hf => ?_
  obtain ⟨hb, hp⟩ := hp
  obtain rfl := VR_bool hp
  have H := H.keep hb
  refine pz 2 hf fun a hf => ?_
  refine iteB hGc2 (fun hc hGc2 => ?_) fun hc hGc2 => ?_
  ·have hf := hf.lit 19 rfl hc
   refine pz 4 hf fun a hf => ?_
   obtain rfl := oi hGc2
   have hf := hf.pn [23, 0, 1]
   have H := H.lt_ [] [] [] [0]
   exact wl_end ⟨hf, H⟩
  ·have hf := hf.lit 19 rfl hc
   refine pz 4 hf fun a hf => ?_
   obtain rfl := oi hGc2
   have hf := hf.pn [23, 0, 1]
   have H := H.lt_ [] [] [] [0]
   exact wl_end ⟨hf, H⟩
 refine then_n (ib hF hf (fun hc2 hF => ?_) fun hc2 hF => ?_)
 ·refine sqz (pz 2 hf fun a hf => ?_)
  refine wl_end (then_n (wp_ret (then_r (?_))))
  obtain rfl := oi hF
  refine ret_2 hf rfl (rv_tmp hf rfl) (rv_tmp hf rfl) ?_
  exact ⟨_, rfl, H.bel, _, _, rfl, mk_int, mk_bool⟩
 ·refine wp_skip (then_n (sqz (pz 2 hf fun a hf => ?_)))
  refine oq hf (rq_conv u64w Try.underlying3 Try.underlying49 hf rfl) fun a hf => ?_
  obtain ⟨q, hq, hF⟩ := bs_ hF
  refine oq hf (rq_shl hf rfl rfl hq) fun a hf => ?_
  refine pz 1 hf fun a hf => ?_
  refine wl_end (then_n (sq ?_))
  obtain ⟨l, hl_, hF⟩ := bs_ hF
  obtain ⟨l2, hl2_, hF⟩ := bs_ hF
  refine mid (fun a w => ∃ (A3 : Option Addr) (c4 : Nat) (A2 : Option Addr) (c3 : Nat), Fr a 111 [(0, (.slice A rates.length c)), (1, (.int .i64 capacity)), (6, (.int .i64 q)), (7, (.slice A2 l.length c3)), (8, (.slice A3 l2.length c4))] ∧ Mem ⟨w0, []⟩ S [] [⟨.sh true, 3, A3, c4, (l2 : List Int)⟩, ⟨.sh true, 3, A2, c3, (l : List Int)⟩] [] [(false, MP.val [(.slice A rates.length c)] (rates : List Int))] w) ?_ ?_
  ·refine dw [] 6 fun w hb => ?_
   have H := H.keep hb
   refine zp 0 hf trivial fun a hf => ?_
   refine zp 2 hf trivial fun a hf => ?_
   refine on2 (i := 1) (j := 3) (bi := [true, true, true, false, false, false]) (bj := [true, false, true, true, false, false]) (by kernel_rfl) rfl rfl rfl rfl rfl rfl ?_ ?_
   ·refine (op_make (z0 := (0 : Int)) hf H Try.underlying24 TF.ai3 rfl (by decide) rfl rfl rfl hl_ (by decide) fun A2 c3 a w hf H => ?_)
    refine ⟨fun _ => trivial, ?_⟩
    refine zp 4 hf trivial fun a hf => ?_
    refine nn 3 rfl (op_make (z0 := (0 : Int)) hf H Try.underlying24 TF.ai3 rfl (by decide) rfl rfl rfl hl2_ (by decide) fun A3 c4 a w hf H => ?_)
    refine ⟨fun _ => trivial, ?_⟩
    refine zp 5 hf trivial fun a hf => ?_
    refine dk ?_
    have hf := hf.pn [0, 1, 6, 7, 8]
    have H := H.lt_ [] [true, true] [] [0]
    exact ⟨A3, c4, A2, c3, hf, H⟩
   ·refine (op_make (z0 := (0 : Int)) hf H Try.underlying24 TF.ai3 rfl (by decide) rfl rfl rfl hl2_ (by decide) fun A2 c3 a w hf H => ?_)
    refine ⟨fun _ => trivial, ?_⟩
    refine nn 1 rfl (op_make (z0 := (0 : Int)) hf H Try.underlying24 TF.ai3 rfl (by decide) rfl rfl rfl hl_ (by decide) fun A3 c4 a w hf H => ?_)
    refine ⟨fun _ => trivial, ?_⟩
    refine zp 4 hf trivial fun a hf => ?_
    refine zp 5 hf trivial fun a hf => ?_
    refine dk ?_
    have H := H.frontR 1 rfl
    have hf := hf.pn [0, 1, 6, 7, 8]
    have H := H.lt_ [] [true, true] [] [0]
    exact ⟨A2, c3, A3, c4, hf, H⟩
  rintro a w ⟨A3, c4, A2, c3, hf, H⟩
  refine then_n (sq (sqz (pz 1 hf fun a hf => ?_)))
  refine wl_end (then_n ?_)
  obtain ⟨out', hB1, hF⟩ := bs_ hF
  have hf := hf.pn [0, 1, 6, 7, 8, 9]
  have H := H.lt_ [] [true, true] [] [0]
  refine loopC (fun (s : List Int × List Int × Int) (a : Act) (w : World) => match s with | (units, rest, mask) => ∃ (A4 : Option Addr) (c5 : Nat) (E : Go.TypeId) (A5 : Option Addr) (c6 : Nat) (E2 : Go.TypeId), Fr a 111 [(0, (.slice A rates.length c)), (1, (.int .i64 capacity)), (6, (.int .i64 q)), (7, (.slice A4 units.length c5)), (8, (.slice A5 rest.length c6)), (9, (.int .i64 mask))] ∧ Mem ⟨w0, []⟩ S [] [⟨.sh true, E2, A5, c6, (rest : List Int)⟩, ⟨.sh true, E, A4, c5, (units : List Int)⟩] [] [(false, MP.val [(.slice A rates.length c)] (rates : List Int))] w) (fun k (s : List Int × List Int × Int) => spec_FewestUnits_L1 fu rates capacity q l l2 k s.1 s.2.1 s.2.2 = some out') (fun s => out' = s) (l, l2, 1) fu hB1 ⟨A2, c3, 3, A3, c4, 3, hf, H⟩ (fun s h => by cases h) ?_ ?_
  ·rintro fk ⟨units, rest, mask⟩ a w hR1 hI
   replace hR1 : spec_FewestUnits_L1 fu rates capacity q l l2 (fk + 1) units rest mask = some out' := hR1
   rw [spec_FewestUnits_L1] at hR1
   obtain ⟨A4, c5, E, A5, c6, E2, hf, H⟩ := hI
   refine sq (sqz (pz 3 hf fun a hf => ?_))
   refine wl_end (then_n (ib hR1 hf (fun hc3 hR1 => ?_) fun hc3 hR1 => ?_))
   ·refine ws (pz 2 hf fun a hf => ?_)
    refine we (sqz (pz 1 hf fun a hf => ?_))
    refine wl_end (then_n ?_)
    obtain ⟨out2, hB2, hR1⟩ := bs_ hR1
    have hf := hf.pn [0, 1, 6, 7, 8, 9, 10, 11, 12]
    have H := H.lt_ [] [true, true] [] [0]
    refine loopC (fun (s : Int × Int × Int) (a : Act) (w : World) => match s with | (i, best, used) => Fr a 111 [(0, (.slice A rates.length c)), (1, (.int .i64 capacity)), (6, (.int .i64 q)), (7, (.slice A4 units.length c5)), (8, (.slice A5 rest.length c6)), (9, (.int .i64 mask)), (10, (.int .i64 best)), (11, (.int .i64 used)), (12, (.int .i64 i))] ∧ Mem ⟨w0, []⟩ S [] [⟨.sh true, E2, A5, c6, (rest : List Int)⟩, ⟨.sh true, E, A4, c5, (units : List Int)⟩] [] [(false, MP.val [(.slice A rates.length c)] (rates : List Int))] w) (fun k (s : Int × Int × Int) => spec_FewestUnits_L2 fu rates capacity l l2 units rest mask k s.1 s.2.1 s.2.2 = some out2) (fun s => out2 = s) (0, 1000, 0) fu hB2 ⟨hf, H⟩ (fun s h => by cases h) ?_ ?_
    ·rintro fk ⟨i, best, used⟩ a w hR2 hI
     replace hR2 : spec_FewestUnits_L2 fu rates capacity l l2 units rest mask (fk + 1) i best used = some out2 := hR2
     rw [spec_FewestUnits_L2] at hR2
     obtain ⟨hf, H⟩ := hI
     refine sq (sqz (pz 4 hf fun a hf => ?_))
     refine wl_end (then_n (ib hR2 hf (fun hc4 hR2 => ?_) fun hc4 hR2 => ?_))
     ·refine wp_skip (then_n (sq (wp_block (sq (sqz (pz 2 hf fun a hf => ?_))))))
      refine oq hf (rq_conv u64w Try.underlying3 Try.underlying49 hf rfl) fun a hf => ?_
      obtain ⟨q2, hq2, hR2⟩ := bs_ hR2
      refine oq hf (rq_shr hf rfl rfl hq2) fun a hf => ?_
      refine pz 2 hf fun a hf => ?_
      refine wl_end (then_n (ib hR2 hf (fun hc5 hR2 => ?_) fun hc5 hR2 => ?_))
      ·refine wp_exit (then_x (blk_e (?_)))
       refine then_n (reg (pz 3 hf fun a hf => ?_))
       refine wl_end ?_
       have hf := hf.pn [0, 1, 6, 7, 8, 9, 10, 11, 12]
       have H := H.lt_ [] [true, true] [] [0]
       exact then_n ⟨(w64 (i + 1), best, used), hR2, hf, H⟩
      ·refine wp_skip (then_n (sq ?_))
       obtain ⟨e, he, hR2⟩ := bs_ hR2
       obtain ⟨q3, hq3, hR2⟩ := bs_ hR2
       obtain ⟨e2, he2, hR2⟩ := bs_ hR2
       obtain ⟨q4, hq4, hR2⟩ := bs_ hR2
       obtain ⟨e3, he3, hR2⟩ := bs_ hR2
       refine mid (fun a w => Fr a 111 [(0, (.slice A rates.length c)), (1, (.int .i64 capacity)), (6, (.int .i64 q)), (7, (.slice A4 units.length c5)), (8, (.slice A5 rest.length c6)), (9, (.int .i64 mask)), (10, (.int .i64 best)), (11, (.int .i64 used)), (12, (.int .i64 i)), (13, (.int .i64 e2)), (14, (.int .i64 (w64 (e3 + e))))] ∧ Mem ⟨w0, []⟩ S [] [⟨.sh true, E2, A5, c6, (rest : List Int)⟩, ⟨.sh true, E, A4, c5, (units : List Int)⟩] [] [(false, MP.val [(.slice A rates.length c)] (rates : List Int))] w) ?_ ?_
       ·refine dw [] 23 fun w hb => ?_
        have H := H.keep hb
        refine zp 0 hf trivial fun a hf => ?_
        refine zp 1 hf trivial fun a hf => ?_
        refine zp 2 hf trivial fun a hf => ?_
        refine zp 8 hf trivial fun a hf => ?_
        refine zp 9 hf trivial fun a hf => ?_
        refine zp 10 hf trivial fun a hf => ?_
        refine zp 16 hf trivial fun a hf => ?_
        refine zp 17 hf trivial fun a hf => ?_
        obtain ⟨p, o, cs, hx, hr, H⟩ := pre_iaddr H Try.underlying24 TF.sz3 0 rfl he
        refine tP 18 rfl rfl rfl rfl hf (by kernel_rfl) (fun _ => trivial) (fun w => rq_iaddrE hf rfl rfl rfl hx w) fun a hf => ?_
        obtain rfl := hr
        refine strT (H.lt_ [] [false, false] [] [0]) (fun w H => trivial) fun hS => ?_
        refine zS 19 [] rfl rfl rfl rfl hf hS (fun w H => rq_loadI hf H TF.ls3 0 0 rfl rfl rfl) fun a hf => ?_
        refine on2 (i := 3) (j := 11) (bi := [true, true, true, true, false, false, false, false, true, true, true, false, false, false, false, false, true, true, true, true, false, false, false]) (bj := [true, true, true, false, false, false, false, false, true, true, true, true, false, false, false, false, true, true, true, true, false, false, false]) (by kernel_rfl) rfl rfl rfl rfl rfl rfl ?_ ?_
        ·refine (op_q hf (rq_conv u64w Try.underlying3 Try.underlying49 hf rfl) rfl (by decide) fun a hf => ?_)
         have hS := H.lt_ [] [false, false] [] [0]
         refine aS hS ?_
         refine zP 4 rfl rfl rfl rfl hf hS (fun w => rq_shl hf rfl rfl hq3) fun a hf => ?_
         refine zp 5 hf hS fun a hf => ?_
         obtain ⟨p2, o2, hA, hx2⟩ := pre_iaddrR H Try.underlying24 TF.sz3 1 rfl he2
         refine zP 6 rfl rfl rfl rfl hf hS (fun w => rq_iaddrE hf rfl rfl rfl hx2 w) fun a hf => ?_
         refine strT (H.lt_ [] [false, true] [] [0]) (fun w H => H.lt_ [] [false] [] [0]) fun hS => ?_
         refine zS 7 [] rfl rfl rfl rfl hf hS (fun w H => rq_loadRow (off := 0) hf H TF.ls3 0 rfl rfl hA he2 (fun w T cs h => by obtain rfl := h; rfl)) fun a hf => ?_
         refine zp 21 hf hS fun a hf => ?_
         refine nn 11 rfl (op_q hf (rq_conv u64w Try.underlying3 Try.underlying49 hf rfl) rfl (by decide) fun a hf => ?_)
         have hS := H.lt_ [] [false, true] [] [0]
         refine aS hS ?_
         refine zP 12 rfl rfl rfl rfl hf hS (fun w => rq_shl hf rfl rfl hq4) fun a hf => ?_
         refine zp 13 hf hS fun a hf => ?_
         obtain ⟨p3, o3, hA2, hx3⟩ := pre_iaddrR H Try.underlying24 TF.sz3 0 rfl he3
         refine zP 14 rfl rfl rfl rfl hf hS (fun w => rq_iaddrE hf rfl rfl rfl hx3 w) fun a hf => ?_
         refine strT (H.lt_ [] [true, true] [] [0]) (fun w H => H.lt_ [] [false, true] [] [0]) fun hS => ?_
         refine zS 15 [] rfl rfl rfl rfl hf hS (fun w H => rq_loadRow (off := 0) hf H TF.ls3 0 rfl rfl hA2 he3 (fun w T cs h => by obtain rfl := h; rfl)) fun a hf => ?_
         refine zp 20 hf hS fun a hf => ?_
         refine zp 22 hf hS fun a hf => ?_
         refine dk ?_
         have hf := hf.pn [0, 1, 6, 7, 8, 9, 10, 11, 12, 13, 14]
         have H := H.lt_ [] [true, true] [] [1]
         exact ⟨hf, H⟩
        ·refine (op_q hf (rq_conv u64w Try.underlying3 Try.underlying49 hf rfl) rfl (by decide) fun a hf => ?_)
         have hS := H.lt_ [] [false, false] [] [0]
         refine aS hS ?_
         refine zP 12 rfl rfl rfl rfl hf hS (fun w => rq_shl hf rfl rfl hq4) fun a hf => ?_
         refine zp 13 hf hS fun a hf => ?_
         obtain ⟨p2, o2, hA, hx2⟩ := pre_iaddrR H Try.underlying24 TF.sz3 0 rfl he3
         refine zP 14 rfl rfl rfl rfl hf hS (fun w => rq_iaddrE hf rfl rfl rfl hx2 w) fun a hf => ?_
         refine strT (H.lt_ [] [true, false] [] [0]) (fun w H => H.lt_ [] [false] [] [0]) fun hS => ?_
         refine zS 15 [] rfl rfl rfl rfl hf hS (fun w H => rq_loadRow (off := 0) hf H TF.ls3 0 rfl rfl hA he3 (fun w T cs h => by obtain rfl := h; rfl)) fun a hf => ?_
         refine zp 20 hf hS fun a hf => ?_
         refine nn 3 rfl (op_q hf (rq_conv u64w Try.underlying3 Try.underlying49 hf rfl) rfl (by decide) fun a hf => ?_)
         have hS := H.lt_ [] [true, false] [] [0]
         refine aS hS ?_
         refine zP 4 rfl rfl rfl rfl hf hS (fun w => rq_shl hf rfl rfl hq3) fun a hf => ?_
         refine zp 5 hf hS fun a hf => ?_
         obtain ⟨p3, o3, hA2, hx3⟩ := pre_iaddrR H Try.underlying24 TF.sz3 1 rfl he2
         refine zP 6 rfl rfl rfl rfl hf hS (fun w => rq_iaddrE hf rfl rfl rfl hx3 w) fun a hf => ?_
         refine strT (H.lt_ [] [true, true] [] [0]) (fun w H => H.lt_ [] [true, false] [] [0]) fun hS => ?_
         refine zS 7 [] rfl rfl rfl rfl hf hS (fun w H => rq_loadRow (off := 0) hf H TF.ls3 1 rfl rfl hA2 he2 (fun w T cs h => by obtain rfl := h; rfl)) fun a hf => ?_
         refine zp 21 hf hS fun a hf => ?_
         refine zp 22 hf hS fun a hf => ?_
         refine dk ?_
         have hf := hf.pn [0, 1, 6, 7, 8, 9, 10, 11, 12, 13, 14]
         have H := H.lt_ [] [true, true] [] [1]
         exact ⟨hf, H⟩
       rintro a w ⟨hf, H⟩
       refine then_n (sq (sqz (pz 3 hf fun a hf => ?_)))
       refine wl_end (then_n (ib hR2 hf (fun hc6 hR2 => ?_) fun hc6 hR2 => ?_))
       ·refine sqz (pz 3 hf fun a hf => ?_)
        refine wl_end (then_n (reg (pz 2 hf fun a hf => ?_)))
        obtain ⟨e4, he4, hR2⟩ := bs_ hR2
        refine wl0 rfl (op_iaddr hf H Try.underlying24 TF.sz3 0 rfl rfl rfl he4 (by decide) fun p4 o4 cs2 a hf hr2 H => ?_)
        obtain rfl := hr2
        refine oq hf (rq_loadI hf H TF.ls3 0 0 rfl rfl rfl) fun a hf => ?_
        refine pz 1 hf fun a hf => ?_
        refine wl_end (then_n (sq ?_))
        obtain ⟨c7, hGc7, hR2⟩ := bs_ hR2
        have fh2 := hf.prune [0, 1, 6, 7, 8, 9, 10, 11, 12, 13, 14] rfl
        have Hm2 := H.lt_ [] [true, true] [] [1]
        refine midF 91 (.bool c7) fh2 Hm2 ?_ fun a w hf H => ?_
        ·refine reg (pz 4 hf fun a hf => ?_)
         refine iteB hGc7 (fun hc7 hGc7 => ?_) fun hc7 hGc7 => ?_
         ·have hf := hf.lit 82 rfl hc7
          refine pz 4 hf fun a hf => ?_
          refine wlsu hf rfl rfl rfl rfl (by decide) fun a hf => ?_
          refine wlsu hf rfl rfl rfl rfl (by decide) fun a hf => ?_
          refine wlsu hf rfl rfl rfl rfl (by decide) fun a hf => ?_
          refine pz 2 hf fun a hf => ?_
          obtain rfl := oi hGc7
          have hf := hf.pn [91, 0, 1, 6, 7, 8, 9, 10, 11, 12, 13, 14]
          have H := H.lt_ [] [true, true] [] [1]
          exact wl_end ⟨hf, H⟩
         ·have hf := hf.lit 82 rfl hc7
          refine pz 4 hf fun a hf => ?_
          refine iteB hGc7 (fun hc8 hGc7 => ?_) fun hc8 hGc7 => ?_
          ·have hf := hf.lit 86 rfl hc8
           refine pz 5 hf fun a hf => ?_
           obtain rfl := oi hGc7
           have hf := hf.pn [91, 0, 1, 6, 7, 8, 9, 10, 11, 12, 13, 14]
           have H := H.lt_ [] [true, true] [] [1]
           exact wl_end ⟨hf, H⟩
          ·have hf := hf.lit 86 rfl hc8
           refine pz 5 hf fun a hf => ?_
           obtain rfl := oi hGc7
           have hf := hf.pn [91, 0, 1, 6, 7, 8, 9, 10, 11, 12, 13, 14]
           have H := H.lt_ [] [true, true] [] [1]
           exact wl_end ⟨hf, H⟩
        refine then_n (ib hR2 hf (fun hc9 hR2 => ?_) fun hc9 hR2 => ?_)
        ·refine sqz (pz 2 hf fun a hf => ?_)
         refine wl_end (then_n (reg (pz 2 hf fun a hf => ?_)))
         refine wl_end (blk_n (then_n (reg (pz 3 hf fun a hf => ?_))))
         refine wl_end ?_
         have hf := hf.pn [0, 1, 6, 7, 8, 9, 10, 11, 12]
         have H := H.lt_ [] [true, true] [] [0]
         exact then_n ⟨(w64 (i + 1), w64 (e2 + 1), e4), hR2, hf, H⟩
        ·refine wp_skip (blk_n (then_n (reg (pz 3 hf fun a hf => ?_))))
         refine wl_end ?_
         have hf := hf.pn [0, 1, 6, 7, 8, 9, 10, 11, 12]
         have H := H.lt_ [] [true, true] [] [0]
         exact then_n ⟨(w64 (i + 1), best, used), hR2, hf, H⟩
       ·refine wp_skip (then_n (sq ?_))
        obtain ⟨c8, hGc8, hR2⟩ := bs_ hR2
        have fh3 := hf.prune [0, 1, 6, 7, 8, 9, 10, 11, 12, 13, 14] rfl
        have Hm3 := H.lt_ [] [true, true] [] [0]
        refine midF 91 (.bool c8) fh3 Hm3 ?_ fun a w hf H => ?_
        ·refine reg (pz 4 hf fun a hf => ?_)
         refine iteB hGc8 (fun hc10 hGc8 => ?_) fun hc10 hGc8 => ?_
         ·have hf := hf.lit 82 rfl hc10
          refine pz 4 hf fun a hf => ?_
          refine wlsu hf rfl rfl rfl rfl (by decide) fun a hf => ?_
          refine wlsu hf rfl rfl rfl rfl (by decide) fun a hf => ?_
          refine wlsu hf rfl rfl rfl rfl (by decide) fun a hf => ?_
          refine pz 2 hf fun a hf => ?_
          obtain rfl := oi hGc8
          have hf := hf.pn [91, 0, 1, 6, 7, 8, 9, 10, 11, 12, 13, 14]
          have H := H.lt_ [] [true, true] [] [0]
          exact wl_end ⟨hf, H⟩
         ·have hf := hf.lit 82 rfl hc10
          refine pz 4 hf fun a hf => ?_
          refine iteB hGc8 (fun hc11 hGc8 => ?_) fun hc11 hGc8 => ?_
          ·have hf := hf.lit 86 rfl hc11
           refine pz 5 hf fun a hf => ?_
           obtain rfl := oi hGc8
           have hf := hf.pn [91, 0, 1, 6, 7, 8, 9, 10, 11, 12, 13, 14]
           have H := H.lt_ [] [true, true] [] [0]
           exact wl_end ⟨hf, H⟩
          ·have hf := hf.lit 86 rfl hc11
           refine pz 5 hf fun a hf => ?_
           obtain rfl := oi hGc8
           have hf := hf.pn [91, 0, 1, 6, 7, 8, 9, 10, 11, 12, 13, 14]
           have H := H.lt_ [] [true, true] [] [0]
           exact wl_end ⟨hf, H⟩
        refine then_n (ib hR2 hf (fun hc12 hR2 => ?_) fun hc12 hR2 => ?_)
        ·refine sqz (pz 2 hf fun a hf => ?_)
         refine wl_end (then_n (reg (pz 2 hf fun a hf => ?_)))
         refine wl_end (blk_n (then_n (reg (pz 3 hf fun a hf => ?_))))
         refine wl_end ?_
         have hf := hf.pn [0, 1, 6, 7, 8, 9, 10, 11, 12]
         have H := H.lt_ [] [true, true] [] [0]
         exact then_n ⟨(w64 (i + 1), e2, w64 (e3 + e)), hR2, hf, H⟩
        ·refine wp_skip (blk_n (then_n (reg (pz 3 hf fun a hf => ?_))))
         refine wl_end ?_
         have hf := hf.pn [0, 1, 6, 7, 8, 9, 10, 11, 12]
         have H := H.lt_ [] [true, true] [] [0]
         exact then_n ⟨(w64 (i + 1), best, used), hR2, hf, H⟩
     ·refine wp_exit (then_x (then_x (blk_e (?_))))
      have hf := hf.pn [0, 1, 6, 7, 8, 9, 10, 11, 12]
      have H := H.lt_ [] [true, true] [] [0]
      exact ⟨(i, best, used), (Option.some.inj hR2).symm, hf, H⟩
    rintro a w ⟨⟨i2, best2, used2⟩, rfl, hf, H⟩
    try dsimp only at hR1
    refine then_n (sqz (pz 3 hf fun a hf => ?_))
    obtain ⟨e5, he5, hR1⟩ := bs_ hR1
    refine wl0 rfl (op_iaddrR hf H Try.underlying24 TF.sz3 1 rfl rfl rfl he5 (by decide) fun p5 o5 cs3 a hf hA3 hr3 hk => ?_)
    obtain rfl := hr3
    refine wl0 rfl (op_storeR (e' := best2) (o := o5) (off := 0) hf H TF.sz3 1 rfl rfl rfl rfl rfl (nle rfl) rfl hA3 he5 (st_full rfl) fun w H => ?_)
    replace hf : Fr a 111 [(0, (.slice A rates.length c)), (1, (.int .i64 capacity)), (6, (.int .i64 q)), (7, (.slice A4 units.length c5)), (8, (.slice A5 rest.length c6)), (9, (.int .i64 mask)), (10, (.int .i64 best2)), (11, (.int .i64 used2)), (94, (.slice A4 units.length c5)), (95, (.int .i64 mask)), (96, (.int .i64 best2)), (97, (.pointer (some ⟨p5, o5 + 0, none⟩)))] := hf.prune [0, 1, 6, 7, 8, 9, 10, 11, 94, 95, 96, 97] rfl
    replace hf : Fr a 111 [(0, (.slice A rates.length c)), (1, (.int .i64 capacity)), (6, (.int .i64 q)), (7, (.slice A4 (units.set (mask : Int).toNat best2).length c5)), (8, (.slice A5 rest.length c6)), (9, (.int .i64 mask)), (10, (.int .i64 best2)), (11, (.int .i64 used2)), (94, (.slice A4 (units.set (mask : Int).toNat best2).length c5)), (95, (.int .i64 mask)), (96, (.int .i64 best2)), (97, (.pointer (some ⟨p5, o5 + 0, none⟩)))] := by simpa only [List.length_set, Nat.add_zero] using hf
    refine wl_end (then_n (reg (pz 3 hf fun a hf => ?_)))
    obtain ⟨e6, he6, hR1⟩ := bs_ hR1
    refine wl0 rfl (op_iaddrR hf H Try.underlying24 TF.sz3 0 rfl rfl rfl he6 (by decide) fun p6 o6 cs4 a hf hA4 hr4 hk2 => ?_)
    obtain rfl := hr4
    refine wl0 rfl (op_storeR (e' := used2) (o := o6) (off := 0) hf H TF.sz3 0 rfl rfl rfl rfl rfl (nle rfl) rfl hA4 he6 (st_full rfl) fun w H => ?_)
    replace hf : Fr a 111 [(0, (.slice A rates.length c)), (1, (.int .i64 capacity)), (6, (.int .i64 q)), (7, (.slice A4 (units.set (mask : Int).toNat best2).length c5)), (8, (.slice A5 rest.length c6)), (9, (.int .i64 mask)), (11, (.int .i64 used2)), (98, (.slice A5 rest.length c6)), (99, (.int .i64 mask)), (100, (.int .i64 used2)), (101, (.pointer (some ⟨p6, o6 + 0, none⟩)))] := hf.prune [0, 1, 6, 7, 8, 9, 11, 98, 99, 100, 101] rfl
    replace hf : Fr a 111 [(0, (.slice A rates.length c)), (1, (.int .i64 capacity)), (6, (.int .i64 q)), (7, (.slice A4 (units.set (mask : Int).toNat best2).length c5)), (8, (.slice A5 (rest.set (mask : Int).toNat used2).length c6)), (9, (.int .i64 mask)), (11, (.int .i64 used2)), (98, (.slice A5 (rest.set (mask : Int).toNat used2).length c6)), (99, (.int .i64 mask)), (100, (.int .i64 used2)), (101, (.pointer (some ⟨p6, o6 + 0, none⟩)))] := by simpa only [List.length_set, Nat.add_zero] using hf
    refine wl_end (blk_n (then_n (reg (pz 3 hf fun a hf => ?_))))
    refine wl_end ?_
    have hf := hf.pn [0, 1, 6, 7, 8, 9]
    have H := H.lt_ [] [true, true] [] [0]
    exact then_n ⟨(units.set (mask : Int).toNat best2, rest.set (mask : Int).toNat used2, w64 (mask + 1)), hR1, A4, c5, E, A5, c6, E2, hf, H⟩
   ·refine wp_exit (then_x (then_x (blk_e (?_))))
    have hf := hf.pn [0, 1, 6, 7, 8, 9]
    have H := H.lt_ [] [true, true] [] [0]
    exact ⟨(units, rest, mask), (Option.some.inj hR1).symm, A4, c5, E, A5, c6, E2, hf, H⟩
  rintro a w ⟨⟨units2, rest2, mask2⟩, rfl, A6, c9, E3, A7, c10, E4, hf, H⟩
  try dsimp only at hF
  refine then_n (sq (sqz (pz 3 hf fun a hf => ?_)))
  refine wl_end (then_n (ib hF hf (fun hc13 hF => ?_) fun hc13 hF => ?_))
  ·refine sqz (pz 2 hf fun a hf => ?_)
   refine wl_end (then_n (wp_ret (then_r (?_))))
   obtain rfl := oi hF
   refine ret_2 hf rfl (rv_tmp hf rfl) (rv_tmp hf rfl) ?_
   exact ⟨_, rfl, H.bel, _, _, rfl, mk_int, mk_bool⟩
  ·refine wp_skip (then_n (sqz (pz 3 hf fun a hf => ?_)))
   obtain ⟨e7, he7, hF⟩ := bs_ hF
   refine wl0 rfl (op_iaddrR hf H Try.underlying24 TF.sz3 1 rfl rfl rfl he7 (by decide) fun p7 o7 cs5 a hf hA5 hr5 hk3 => ?_)
   obtain rfl := hr5
   refine oq hf (rq_load1 hf TF.ls3 rfl (hk3 0 _ rfl)) fun a hf => ?_
   refine pz 3 hf fun a hf => ?_
   have hf := hf.pn [4, 5]
   refine wer ?_
   obtain rfl := oi hF
   refine ret_2 hf rfl (rv_tmp hf rfl) (rv_tmp hf rfl) ?_
   exact ⟨_, rfl, H.bel, _, _, rfl, mk_int, mk_bool⟩
theorem laws_FnPacking_ok {S : Nat → Prop} {v0_ : Value} {code : List By} {r : Bool} (h0 : VR w0 S v0_ code) (hF : laws_FnPacking fu code = some r) :
    Calls Try.prog 3 [v0_].toArray w0 fun e w' => ∃ v, e = .returned v ∧ (Below w0.heap.size w0 w' ∧ VR w' (St ⟨w0, []⟩ S [] [] [] true) v r) := by
 obtain ⟨A, c, rfl, hl⟩ := VR_list h0
 have H := Mem.start ⟨w0, []⟩ S
 have H := H.pA hl
 refine en Try.func3 fun a hf => ?_
 rw [laws_FnPacking] at hF
 refine sqz (pz 1 hf fun a hf => ?_)
 refine we (sqz (pz 1 hf fun a hf => ?_))
 obtain ⟨y, hy, hF⟩ := bs_ hF
 refine oc hf TF.cl4 (laws_vBig_ok (S := TT) (mk_list (H.rt 0 rfl)) hy) fun v w a hp hf => ?_
 obtain ⟨hb, hp⟩ := hp
 obtain rfl := VR_bool hp
 have H := H.keep hb
 refine wl_end (then_n (ib hF hf (fun hc hF => ?_) fun hc hF => ?_))
 ·refine sqz (pz 1 hf fun a hf => ?_)
  refine wl_end (then_n (wp_ret (then_r (?_))))
  obtain rfl := oi hF
  refine rT hf ?_
  exact ⟨_, rfl, H.bel, mk_bool⟩
 ·refine wp_skip (then_n (sqz (pz 1 hf fun a hf => ?_)))
  obtain ⟨y2, hy2, hF⟩ := bs_ hF
  refine oc hf TF.cl5 (spec_DrawPackInOrder_ok (S := TT) (mk_list (H.rt 0 rfl)) hy2) fun v2 w a hp2 hf => ?_
  obtain ⟨hb2, F, v3, v4, rfl, hp3, hp4, hN⟩ := hp2
  obtain ⟨A2, c2, rfl, hl2⟩ := VO_list hp3
  obtain rfl := VR_int hp4
  have H := H.aO1 hb2 hN hl2
  have H := H.lend 0 rfl
  refine pz 5 hf fun a hf => ?_
  refine wr (pz 2 hf fun a hf => ?_)
  obtain ⟨y3, hy3, hF⟩ := bs_ hF
  refine oc hf TF.cl6 (impl_PackInOrder_ok (S := TT) (mk_list (H.rt 0 rfl)) mk_int hy3) fun v5 w a hp5 hf => ?_
  obtain ⟨hb3, F3, v6, v7, rfl, hp6, hp7, hN2⟩ := hp5
  obtain ⟨A3, c3, rfl, hl3⟩ := VO_list hp6
  obtain rfl := VR_bool hp7
  have H := H.aO1 hb3 hN2 hl3
  have H := H.lend 0 rfl
  refine pz 5 hf fun a hf => ?_
  have hf := hf.pn [3, 4, 5, 6]
  refine wr (pz 2 hf fun a hf => ?_)
  obtain ⟨y4, hy4, hF⟩ := bs_ hF
  refine oc hf TF.cl7 (impl_PackDescending_ok (S := TT) (mk_list (H.rt 1 rfl)) mk_int hy4) fun v8 w a hp8 hf => ?_
  obtain ⟨hb4, F5, v9, v10, rfl, hp9, hp10, hN3⟩ := hp8
  obtain ⟨A4, c4, rfl, hl4⟩ := VO_list hp9
  obtain rfl := VR_bool hp10
  have H := H.aO1 hb4 hN3 hl4
  have H := H.lend 0 rfl
  refine pz 5 hf fun a hf => ?_
  refine wr (pz 2 hf fun a hf => ?_)
  obtain ⟨y5, hy5, hF⟩ := bs_ hF
  refine oc hf TF.cl8 (spec_PackInOrder_ok (S := TT) (mk_list (H.rt 2 rfl)) mk_int hy5) fun v11 w a hp11 hf => ?_
  obtain ⟨hb5, F7, v12, v13, rfl, hp12, hp13, hN4⟩ := hp11
  obtain ⟨A5, c5, rfl, hl5⟩ := VO_list hp12
  obtain rfl := VR_bool hp13
  have H := H.aO1 hb5 hN4 hl5
  have H := H.lend 0 rfl
  refine pz 5 hf fun a hf => ?_
  refine wl_end (then_n (sq (sq ?_)))
  obtain ⟨c6, hGc6, hF⟩ := bs_ hF
  have fh := hf.prune [3, 4, 5, 6, 7, 8, 9, 10] rfl
  have Hm := H.lt_ [] [] [true, true, true, true] [0, 1, 2, 3]
  refine midF 61 (.bool c6) fh Hm ?_ fun a w hf H => ?_
  ·refine reg (pz 4 hf fun a hf => ?_)
   refine iteB hGc6 (fun hc2 hGc6 => ?_) fun hc2 hGc6 => ?_
   ·have hf := hf.lit 47 rfl hc2
    refine pz 14 hf fun a hf => ?_
    obtain rfl := oi hGc6
    have hf := hf.pn [61, 3, 4, 5, 6, 7, 8, 9, 10]
    have H := H.lt_ [] [] [true, true, true, true] [0, 1, 2, 3]
    exact wl_end ⟨hf, H⟩
   ·have hf := hf.lit 47 rfl hc2
    refine pz 5 hf fun a hf => ?_
    refine iteB hGc6 (fun hc3 hGc6 => ?_) fun hc3 hGc6 => ?_
    ·have hf := hf.lit 52 rfl hc3
     refine pz 9 hf fun a hf => ?_
     obtain rfl := oi hGc6
     have hf := hf.pn [61, 3, 4, 5, 6, 7, 8, 9, 10]
     have H := H.lt_ [] [] [true, true, true, true] [0, 1, 2, 3]
     exact wl_end ⟨hf, H⟩
    ·have hf := hf.lit 52 rfl hc3
     refine pz 2 hf fun a hf => ?_
     obtain ⟨y6, hy6, hGc6⟩ := bs_ hGc6
     refine wlg hf rfl rfl rfl (oC hf TF.cl9 (laws_vInts_ok (S := TT) (mk_list (H.rt 2 rfl)) (mk_list (H.rt 0 rfl)) hy6) fun v14 w a hp14 hf => ?_)
     obtain ⟨hb6, hp14⟩ := hp14
     obtain rfl := VR_bool hp14
     have H := H.keep hb6
     refine pz 3 hf fun a hf => ?_
     refine iteB hGc6 (fun hc4 hGc6 => ?_) fun hc4 hGc6 => ?_
     ·have hf := hf.lit 58 rfl hc4
      refine pz 3 hf fun a hf => ?_
      obtain rfl := oi hGc6
      have hf := hf.pn [61, 3, 4, 5, 6, 7, 8, 9, 10]
      have H := H.lt_ [] [] [true, true, true, true] [0, 1, 2, 3]
      exact wl_end ⟨hf, H⟩
     ·have hf := hf.lit 58 rfl hc4
      refine pz 3 hf fun a hf => ?_
      obtain rfl := oi hGc6
      have hf := hf.pn [61, 3, 4, 5, 6, 7, 8, 9, 10]
      have H := H.lt_ [] [] [true, true, true, true] [0, 1, 2, 3]
      exact wl_end ⟨hf, H⟩
  refine then_n (ib hF hf (fun hc5 hF => ?_) fun hc5 hF => ?_)
  ·refine sq ?_
   obtain ⟨c7, hGc7, hF⟩ := bs_ hF
   have fh2 := hf.prune [] rfl
   have Hm2 := H.lt_ [] [] [false, false, false, false] []
   refine midF 2 (.bool c7) fh2 Hm2 ?_ fun a w hf H => ?_
   ·refine reg (pz 4 hf fun a hf => ?_)
    refine iteB hGc7 (fun hc6 hGc7 => ?_) fun hc6 hGc7 => ?_
    ·have hf := hf.lit 65 rfl hc6
     refine pz 5 hf fun a hf => ?_
     refine iteB hGc7 (fun hc7 hGc7 => ?_) fun hc7 hGc7 => ?_
     ·have hf := hf.lit 70 rfl hc7
      refine pz 2 hf fun a hf => ?_
      obtain ⟨y7, hy7, hGc7⟩ := bs_ hGc7
      refine wlg hf rfl rfl rfl (oC hf TF.cl9 (laws_vInts_ok (S := TT) (mk_list (H.rt 2 rfl)) (mk_list (H.rt 0 rfl)) hy7) fun v15 w a hp15 hf => ?_)
      obtain ⟨hb7, hp15⟩ := hp15
      obtain rfl := VR_bool hp15
      have H := H.keep hb7
      refine pz 2 hf fun a hf => ?_
      obtain rfl := oi hGc7
      have hf := hf.pn [2]
      have H := H.lt_ [] [] [false, false, false, false] []
      exact wl_end ⟨hf, H⟩
     ·have hf := hf.lit 70 rfl hc7
      refine pz 5 hf fun a hf => ?_
      obtain rfl := oi hGc7
      have hf := hf.pn [2]
      have H := H.lt_ [] [] [false, false, false, false] []
      exact wl_end ⟨hf, H⟩
    ·have hf := hf.lit 65 rfl hc6
     refine pz 10 hf fun a hf => ?_
     obtain rfl := oi hGc7
     have hf := hf.pn [2]
     have H := H.lt_ [] [] [false, false, false, false] []
     exact wl_end ⟨hf, H⟩
   refine then_n (wp_ret (then_r (?_)))
   obtain rfl := oi hF
   refine rT hf ?_
   exact ⟨_, rfl, H.bel, mk_bool⟩
  ·refine wp_skip (then_n (sqz (pz 3 hf fun a hf => ?_)))
   obtain ⟨y8, hy8, hF⟩ := bs_ hF
   refine oc hf TF.cl10 (laws_rPacked_ok (S := TT) (mk_list (H.rt 3 rfl)) (mk_list (H.rt 2 rfl)) mk_int hy8) fun v16 w a hp16 hf => ?_
   obtain ⟨hb8, hp16⟩ := hp16
   obtain rfl := VR_int hp16
   have H := H.keep hb8
   refine pz 3 hf fun a hf => ?_
   obtain ⟨y9, hy9, hF⟩ := bs_ hF
   refine oc hf TF.cl10 (laws_rPacked_ok (S := TT) (mk_list (H.rt 3 rfl)) (mk_list (H.rt 1 rfl)) mk_int hy9) fun v17 w a hp17 hf => ?_
   obtain ⟨hb9, hp17⟩ := hp17
   obtain rfl := VR_int hp17
   have H := H.keep hb9
   refine pz 2 hf fun a hf => ?_
   have hf := hf.pn [3, 4, 11, 12]
   refine wl_end (then_n (sq (sq ?_)))
   obtain ⟨c8, hGc8, hF⟩ := bs_ hF
   have fh3 := hf.prune [3, 4, 11, 12] rfl
   have Hm3 := H.lt_ [] [] [false, false, false, true] [3]
   refine midF 88 (.bool c8) fh3 Hm3 ?_ fun a w hf H => ?_
   ·refine reg (pz 3 hf fun a hf => ?_)
    refine iteB hGc8 (fun hc8 hGc8 => ?_) fun hc8 hGc8 => ?_
    ·have hf := hf.lit 85 rfl hc8
     refine pz 3 hf fun a hf => ?_
     obtain rfl := oi hGc8
     have hf := hf.pn [88, 3, 4, 11, 12]
     have H := H.lt_ [] [] [false, false, false, true] [3]
     exact wl_end ⟨hf, H⟩
    ·have hf := hf.lit 85 rfl hc8
     refine pz 3 hf fun a hf => ?_
     obtain rfl := oi hGc8
     have hf := hf.pn [88, 3, 4, 11, 12]
     have H := H.lt_ [] [] [false, false, false, true] [3]
     exact wl_end ⟨hf, H⟩
   refine then_n (ib hF hf (fun hc9 hF => ?_) fun hc9 hF => ?_)
   ·refine sqz (pz 1 hf fun a hf => ?_)
    refine wl_end (then_n (wp_ret (then_r (?_))))
    obtain rfl := oi hF
    refine rT hf ?_
    exact ⟨_, rfl, H.bel, mk_bool⟩
   ·refine wp_skip (then_n (sqz (pz 2 hf fun a hf => ?_)))
    obtain ⟨y10, hy10, hF⟩ := bs_ hF
    refine oc hf TF.cl11 (impl_FewestUnits_ok (S := TT) (mk_list (H.rt 0 rfl)) mk_int hy10) fun v18 w a hp18 hf => ?_
    obtain ⟨hb10, v19, v20, rfl, hp19, hp20⟩ := hp18
    obtain rfl := VR_int hp19
    obtain rfl := VR_bool hp20
    have H := H.keep hb10
    refine pz 5 hf fun a hf => ?_
    refine we (sqz (pz 2 hf fun a hf => ?_))
    obtain ⟨y11, hy11, hF⟩ := bs_ hF
    refine oc hf TF.cl12 (spec_FewestUnits_ok (S := TT) (mk_list (H.rt 0 rfl)) mk_int hy11) fun v21 w a hp21 hf => ?_
    obtain ⟨hb11, v22, v23, rfl, hp22, hp23⟩ := hp21
    obtain rfl := VR_int hp22
    obtain rfl := VR_bool hp23
    have H := H.keep hb11
    refine pz 5 hf fun a hf => ?_
    have hf := hf.pn [3, 4, 11, 12, 13, 14, 15, 16]
    refine wl_end (then_n (sq ?_))
    obtain ⟨c9, hGc9, hF⟩ := bs_ hF
    have fh4 := hf.prune [3, 4, 11, 12, 13, 14, 15, 16] rfl
    have Hm4 := H.lt_ [] [] [true] [0]
    refine midF 112 (.bool c9) fh4 Hm4 ?_ fun a w hf H => ?_
    ·refine reg (pz 4 hf fun a hf => ?_)
     refine iteB hGc9 (fun hc10 hGc9 => ?_) fun hc10 hGc9 => ?_
     ·have hf := hf.lit 104 rfl hc10
      refine pz 8 hf fun a hf => ?_
      obtain rfl := oi hGc9
      have hf := hf.pn [112, 3, 4, 11, 12, 13, 14, 15, 16]
      have H := H.lt_ [] [] [true] [0]
      exact wl_end ⟨hf, H⟩
     ·have hf := hf.lit 104 rfl hc10
      refine pz 5 hf fun a hf => ?_
      refine iteB hGc9 (fun hc11 hGc9 => ?_) fun hc11 hGc9 => ?_
      ·have hf := hf.lit 109 rfl hc11
       refine pz 3 hf fun a hf => ?_
       obtain rfl := oi hGc9
       have hf := hf.pn [112, 3, 4, 11, 12, 13, 14, 15, 16]
       have H := H.lt_ [] [] [true] [0]
       exact wl_end ⟨hf, H⟩
      ·have hf := hf.lit 109 rfl hc11
       refine pz 3 hf fun a hf => ?_
       obtain rfl := oi hGc9
       have hf := hf.pn [112, 3, 4, 11, 12, 13, 14, 15, 16]
       have H := H.lt_ [] [] [true] [0]
       exact wl_end ⟨hf, H⟩
    refine then_n (ib hF hf (fun hc12 hF => ?_) fun hc12 hF => ?_)
    ·refine sq ?_
     obtain ⟨c10, hGc10, hF⟩ := bs_ hF
     have fh5 := hf.prune [] rfl
     have Hm5 := H.lt_ [] [] [false] []
     refine midF 2 (.bool c10) fh5 Hm5 ?_ fun a w hf H => ?_
     ·refine reg (pz 4 hf fun a hf => ?_)
      refine iteB hGc10 (fun hc13 hGc10 => ?_) fun hc13 hGc10 => ?_
      ·have hf := hf.lit 116 rfl hc13
       refine pz 5 hf fun a hf => ?_
       obtain rfl := oi hGc10
       have hf := hf.pn [2]
       have H := H.lt_ [] [] [false] []
       exact wl_end ⟨hf, H⟩
      ·have hf := hf.lit 116 rfl hc13
       refine pz 5 hf fun a hf => ?_
       obtain rfl := oi hGc10
       have hf := hf.pn [2]
       have H := H.lt_ [] [] [false] []
       exact wl_end ⟨hf, H⟩
     refine then_n (wp_ret (then_r (?_)))
     obtain rfl := oi hF
     refine rT hf ?_
     exact ⟨_, rfl, H.bel, mk_bool⟩
    ·refine wp_skip (then_n (sqz (pz 1 hf fun a hf => ?_)))
     refine we (sqz (pz 1 hf fun a hf => ?_))
     refine wl_end (then_n ?_)
     obtain ⟨out', hB1, hF⟩ := bs_ hF
     have hf := hf.pn [3, 4, 11, 12, 13, 17, 18]
     have H := H.lt_ [] [] [true] [0]
     refine loopC (fun (s : Int × Int) (a : Act) (w : World) => match s with | (sum, i) => Fr a 148 [(3, (.slice A2 y2.1.length c2)), (4, (.int .i64 y2.2)), (11, (.int .i64 y8)), (12, (.int .i64 y9)), (13, (.int .i64 y10.1)), (17, (.int .i64 sum)), (18, (.int .i64 i))] ∧ Mem ⟨w0, []⟩ S [] [] [⟨F, MP.own F [(.slice A2 y2.1.length c2)] (y2.1 : List Int)⟩] [(true, MP.val [(.slice A2 y2.1.length c2)] (y2.1 : List Int))] w) (fun k (s : Int × Int) => laws_FnPacking_L1 fu y2 k s.1 s.2 = some out') (fun s => out' = s) (0, 0) fu hB1 ⟨hf, H⟩ (fun s h => by cases h) ?_ ?_
     ·rintro fk ⟨sum, i⟩ a w hR1 hI
      replace hR1 : laws_FnPacking_L1 fu y2 (fk + 1) sum i = some out' := hR1
      rw [laws_FnPacking_L1] at hR1
      obtain ⟨hf, H⟩ := hI
      refine sq (sqz (pz 4 hf fun a hf => ?_))
      refine wl_end (then_n (ib hR1 hf (fun hc14 hR1 => ?_) fun hc14 hR1 => ?_))
      ·refine wp_skip (then_n (sq (wp_block (reg (pz 3 hf fun a hf => ?_)))))
       obtain ⟨e, he, hR1⟩ := bs_ hR1
       refine wl0 rfl (op_iaddr hf H Try.underlying24 TF.sz3 0 rfl rfl rfl he (by decide) fun p o cs a hf hr H => ?_)
       obtain rfl := hr
       refine oq hf (rq_loadI hf H TF.ls3 0 0 rfl rfl rfl) fun a hf => ?_
       refine pz 2 hf fun a hf => ?_
       refine wl_end (blk_n (then_n (reg (pz 3 hf fun a hf => ?_))))
       refine wl_end ?_
       have hf := hf.pn [3, 4, 11, 12, 13, 17, 18]
       have H := H.lt_ [] [] [true] [1]
       exact then_n ⟨(w64 (sum + e), w64 (i + 1)), hR1, hf, H⟩
      ·refine wp_exit (then_x (then_x (blk_e (?_))))
       have hf := hf.pn [3, 4, 11, 12, 13, 17, 18]
       have H := H.lt_ [] [] [true] [0]
       exact ⟨(sum, i), (Option.some.inj hR1).symm, hf, H⟩
     rintro a w ⟨⟨sum2, i2⟩, rfl, hf, H⟩
     try dsimp only at hF
     refine then_n (sq ?_)
     obtain ⟨c11, hGc11, hF⟩ := bs_ hF
     have fh6 := hf.prune [] rfl
     have Hm6 := H.lt_ [] [] [false] []
     refine midF 2 (.bool c11) fh6 Hm6 ?_ fun a w hf H => ?_
     ·refine reg (pz 4 hf fun a hf => ?_)
      refine iteB hGc11 (fun hc15 hGc11 => ?_) fun hc15 hGc11 => ?_
      ·have hf := hf.lit 136 rfl hc15
       refine pz 5 hf fun a hf => ?_
       refine iteB hGc11 (fun hc16 hGc11 => ?_) fun hc16 hGc11 => ?_
       ·have hf := hf.lit 141 rfl hc16
        refine pz 7 hf fun a hf => ?_
        obtain rfl := oi hGc11
        have hf := hf.pn [2]
        have H := H.lt_ [] [] [false] []
        exact wl_end ⟨hf, H⟩
       ·have hf := hf.lit 141 rfl hc16
        refine pz 7 hf fun a hf => ?_
        obtain rfl := oi hGc11
        have hf := hf.pn [2]
        have H := H.lt_ [] [] [false] []
        exact wl_end ⟨hf, H⟩
      ·have hf := hf.lit 136 rfl hc15
       refine pz 12 hf fun a hf => ?_
       obtain rfl := oi hGc11
       have hf := hf.pn [2]
       have H := H.lt_ [] [] [false] []
       exact wl_end ⟨hf, H⟩
     refine then_n (wp_ret (?_))
     obtain rfl := oi hF
     refine rT hf ?_
     exact ⟨_, rfl, H.bel, mk_bool⟩
end AT
