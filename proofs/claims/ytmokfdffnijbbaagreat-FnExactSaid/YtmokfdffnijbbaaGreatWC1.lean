/- The Go functions do what is told of them, by program (gen.py). -/
import Derived.Test.YtmokfdffnijbbaaGreatWC0
set_option linter.unusedVariables false
set_option linter.unusedSimpArgs false
set_option maxRecDepth 100000
set_option maxHeartbeats 1000000
namespace AT
open Go Go.RowKit Go.Proofs
variable {fu : Nat} {w0 : World}
theorem slices_pdqsortOrdered_int_ok {S : Nat → Prop} {F : List Nat} {cs : List Value} {v1_ : Value} {v2_ : Value} {v3_ : Value} {data : List Int} {a' : Int} {b' : Int} {limit : Int} {r : List Int} (hO : GoTy.own w0 F cs data) (hn : F.Nodup) (h1 : VR w0 S v1_ a') (h2 : VR w0 S v2_ b') (h3 : VR w0 S v3_ limit) (hF : slices_pdqsortOrdered_int fu data a' b' limit = some r) :
    Calls Tryz.prog 145 [(bif GoTy.agg (List Int) then .agg cs.toArray else cs.headD undef), v1_, v2_, v3_].toArray w0 fun e w' => ∃ v, e = .returned v ∧ (Chg w0 w' F ∧ v = .tuple #[] ∧ ∃ F', GoTy.own w' F' cs r ∧ Back w0 w' F F') := by
 obtain rfl := VR_int h1
 obtain rfl := VR_int h2
 obtain rfl := VR_int h3
 obtain ⟨A, c, rfl, hO⟩ := own_list hO
 have H := Mem.startG S hO hn
 obtain ⟨Fs, E, H, -⟩ := H.thaw rfl
 have H := H.rowSh 0 rfl
 refine en Tryz.func145 fun a hf => ?_
 rw [slices_pdqsortOrdered_int] at hF
 refine sqz (pz 1 hf fun a hf => ?_)
 refine wr (pz 1 hf fun a hf => ?_)
 refine wl_end (then_n ?_)
 obtain ⟨out', hB1, hF⟩ := bs_ hF
 have hf := hf.pn [0, 1, 2, 3, 8, 9]
 have H := H.lt_ [] [true] [] []
 refine loopC (fun (s : Unit) (a : Act) (w : World) => match s with | _ => Fr a 134 [(0, (.slice A data.length c)), (1, (.int .i64 a')), (2, (.int .i64 b')), (3, (.int .i64 limit)), (8, (.bool true)), (9, (.bool true))] ∧ Mem ⟨w0, F⟩ S [] [⟨.sh true, E, A, c, (data : List Int)⟩] [] [] w) (fun k (s : Unit) => slices_pdqsortOrdered_int_L1 fu data a' b' k = some out') (fun s => out' = Out.next s) () fu hB1 ⟨hf, H⟩ (fun s h => by cases h) ?_ ?_
 ·rintro fk _ a w hR1 hI
  replace hR1 : slices_pdqsortOrdered_int_L1 fu data a' b' (fk + 1) = some out' := hR1
  rw [slices_pdqsortOrdered_int_L1] at hR1
  obtain ⟨hf, H⟩ := hI
  refine wp_block (sqz (pz 4 hf fun a hf => ?_))
  refine we (sqz (pz 2 hf fun a hf => ?_))
  refine wl_end (then_n (ib hR1 hf (fun hc hR1 => ?_) fun hc hR1 => ?_))
  ·refine sqz (pz 3 hf fun a hf => ?_)
   have H := H.rowOwn 0 rfl rfl
   obtain ⟨F2, H⟩ := H.freezeOwn 0 rfl
   have H := H.lend 0 rfl
   obtain ⟨y, hy, hR1⟩ := bs_ hR1
   refine oc hf TF.cl199 (slices_insertionSortOrdered_int_ok (S := TT) (F := F2) (cs := [(.slice A data.length c)]) (H.ownAt 0 rfl) H.diNd.1 mk_int mk_int hy) fun v w a hp hf => ?_
   obtain ⟨hch, hv, F3, ho, hbk⟩ := hp
   subst hv
   have H := H.wrote rfl hch ho hbk
   have H := H.lend 0 rfl
   have hf := hf.pn []
   refine wl_end (then_n (wp_ret (then_r (blk_r (then_r (blk_r (then_r (?_))))))))
   obtain rfl := oi hR1
   replace hF := on_ret hF
   obtain rfl := oi hF
   refine ret_0r (fn := Tryz.f145) hf rfl ?_
   exact ⟨_, rfl, H.chg, rfl, _, H.ownAt 0 rfl, H.back⟩
  ·refine wp_skip (then_n (sq (sqz (pz 2 hf fun a hf => ?_))))
   refine wl_end (then_n ?_)
   cases hR1
 rintro a w ⟨_, rfl, hf, H⟩
 replace hF := on_next hF
 have H := H.rowOwn 0 rfl rfl
 obtain ⟨F', H⟩ := H.freezeOwn 0 rfl
 obtain rfl := oi hF
 refine ret_0 hf rfl ?_
 exact ⟨_, rfl, H.chg, rfl, _, H.ownAt 0 rfl, H.back⟩
theorem slices_Sort_int_int_ok {S : Nat → Prop} {F : List Nat} {cs : List Value} {x1 : List Int} {r : List Int} (hO : GoTy.own w0 F cs x1) (hn : F.Nodup) (hF : slices_Sort_int_int fu x1 = some r) :
    Calls Tryz.prog 76 [(bif GoTy.agg (List Int) then .agg cs.toArray else cs.headD undef)].toArray w0 fun e w' => ∃ v, e = .returned v ∧ (Chg w0 w' F ∧ v = .tuple #[] ∧ ∃ F', GoTy.own w' F' cs r ∧ Back w0 w' F F') := by
 obtain ⟨A, c, rfl, hO⟩ := own_list hO
 have H := Mem.startG S hO hn
 obtain ⟨Fs, E, H, -⟩ := H.thaw rfl
 have H := H.rowSh 0 rfl
 refine en Tryz.func76 fun a hf => ?_
 rw [slices_Sort_int_int] at hF
 refine sqz (pz 3 hf fun a hf => ?_)
 refine wl_end (then_n (reg (pz 3 hf fun a hf => ?_)))
 refine oq hf (rq_conv u64w Tryz.underlying3 Tryz.underlying132 hf rfl) fun a hf => ?_
 obtain ⟨y, hy, hF⟩ := bs_ hF
 refine oc hf TF.cl146 (math_bits_Len_ok (S := TT) (mk_u64 (x := (⟨wu64 (x1.length : Int)⟩ : U64))) hy) fun v w a hp hf => ?_
 obtain ⟨hb, hp⟩ := hp
 obtain rfl := VR_int hp
 have H := H.keep hb
 have H := H.rowOwn 0 rfl rfl
 obtain ⟨F2, H⟩ := H.freezeOwn 0 rfl
 have H := H.lend 0 rfl
 obtain ⟨y2, hy2, hF⟩ := bs_ hF
 refine oc hf TF.cl145 (slices_pdqsortOrdered_int_ok (S := TT) (F := F2) (cs := [(.slice A x1.length c)]) (H.ownAt 0 rfl) H.diNd.1 mk_int mk_int mk_int hy2) fun v2 w a hp2 hf => ?_
 obtain ⟨hch, hv, F3, ho, hbk⟩ := hp2
 subst hv
 have H := H.wrote rfl hch ho hbk
 have H := H.lend 0 rfl
 refine wl_end ?_
 obtain rfl := oi hF
 refine ret_0 hf rfl ?_
 exact ⟨_, rfl, H.chg, rfl, _, H.ownAt 0 rfl, H.back⟩
theorem slices_Compact_int_int_ok {S : Nat → Prop} {v0_ : Value} {s' : List Int} {r : List Int} (h0 : VR w0 S v0_ s') (hF : slices_Compact_int_int fu s' = some r) :
    Calls Tryz.prog 220 [v0_].toArray w0 fun e w' => ∃ v, e = .returned v ∧ (Below w0.heap.size w0 w' ∧ VR w' (St ⟨w0, []⟩ S [] [] [] false) v r) := by
 obtain ⟨A, c, rfl, hl⟩ := VR_list h0
 have H := Mem.start ⟨w0, []⟩ S
 have H := H.pA hl
 refine en Tryz.func220 fun a hf => ?_
 rw [slices_Compact_int_int] at hF
 refine sqz (pz 1 hf fun a hf => ?_)
 refine we (sqz (pz 3 hf fun a hf => ?_))
 refine wl_end (then_n (ib hF hf (fun hc hF => ?_) fun hc hF => ?_))
 ·refine sqz (pz 2 hf fun a hf => ?_)
  refine wl_end (then_n (wp_ret (then_r (?_))))
  obtain rfl := oi hF
  refine rT hf ?_
  exact ⟨_, rfl, H.bel, (mk_list (rep_end (α := List Int) (H.get 0 rfl)))⟩
 ·refine wp_skip (then_n (sq (sqz (pz 1 hf fun a hf => ?_))))
  refine wl_end (then_n ?_)
  obtain ⟨out', hB1, hF⟩ := bs_ hF
  have hf := hf.pn [0, 3]
  have H := H.lt_ [] [] [] [0]
  refine loopC (fun (s : Int) (a : Act) (w : World) => match s with | k' => Fr a 61 [(0, (.slice A s'.length c)), (3, (.int .i64 k'))] ∧ Mem ⟨w0, []⟩ S [] [] [] [(false, MP.val [(.slice A s'.length c)] (s' : List Int))] w) (fun k (s : Int) => slices_Compact_int_int_L1 fu s' k s = some out') (fun s => out' = Out.next s) 1 fu hB1 ⟨hf, H⟩ (fun s h => by cases h) ?_ ?_
  ·rintro fk k' a w hR1 hI
   replace hR1 : slices_Compact_int_int_L1 fu s' (fk + 1) k' = some out' := hR1
   rw [slices_Compact_int_int_L1] at hR1
   obtain ⟨hf, H⟩ := hI
   refine sq (sqz (pz 4 hf fun a hf => ?_))
   refine wl_end (then_n (ib hR1 hf (fun hc2 hR1 => ?_) fun hc2 hR1 => ?_))
   ·refine wp_skip (then_n (sq (wp_block (sq (dw [] 10 fun w hb => ?_)))))
    have H := H.keep hb
    refine zp 0 hf trivial fun a hf => ?_
    refine zp 1 hf trivial fun a hf => ?_
    obtain ⟨e, he, hR1⟩ := bs_ hR1
    obtain ⟨p, o, cs, hx, hr, H⟩ := pre_iaddr H Tryz.underlying47 TF.sz3 0 rfl he
    refine tP 2 rfl rfl rfl rfl hf (by kernel_rfl) (fun _ => trivial) (fun w => rq_iaddrE hf rfl rfl rfl hx w) fun a hf => ?_
    obtain rfl := hr
    refine strT (H.lt_ [] [] [] [0]) (fun w H => trivial) fun hS => ?_
    refine zS 3 [] rfl rfl rfl rfl hf hS (fun w H => rq_loadI hf H TF.ls3 0 0 rfl rfl rfl) fun a hf => ?_
    refine zp 4 hf hS fun a hf => ?_
    refine zp 5 hf hS fun a hf => ?_
    refine zp 6 hf hS fun a hf => ?_
    obtain ⟨e2, he2, hR1⟩ := bs_ hR1
    obtain ⟨p2, o2, cs2, hx2, hr2, H⟩ := pre_iaddr H Tryz.underlying47 TF.sz3 1 rfl he2
    refine zP 7 rfl rfl rfl rfl hf hS (fun w => rq_iaddrE hf rfl rfl rfl hx2 w) fun a hf => ?_
    obtain rfl := hr2
    refine strT (H.lt_ [] [] [] [0, 1]) (fun w H => H.lt_ [] [] [] [1]) fun hS => ?_
    refine zS 8 [] rfl rfl rfl rfl hf hS (fun w H => rq_loadI hf H TF.ls3 0 0 rfl rfl rfl) fun a hf => ?_
    refine zp 9 hf hS fun a hf => ?_
    refine dk ?_
    have hf := hf.pn [0, 3, 25]
    refine then_n (ib hR1 hf (fun hc3 hR1 => ?_) fun hc3 hR1 => ?_)
    ·cases hR1
    ·refine wp_skip (blk_n (then_n (reg (pz 3 hf fun a hf => ?_))))
     refine wl_end ?_
     have hf := hf.pn [0, 3]
     have H := H.lt_ [] [] [] [2]
     exact then_n ⟨w64 (k' + 1), hR1, hf, H⟩
   ·refine wp_exit (then_x (then_x (blk_e (?_))))
    have hf := hf.pn [0, 3]
    have H := H.lt_ [] [] [] [0]
    exact ⟨k', (Option.some.inj hR1).symm, hf, H⟩
  rintro a w ⟨k2, rfl, hf, H⟩
  replace hF := on_next hF
  refine then_n (sqz (pz 2 hf fun a hf => ?_))
  refine wer ?_
  obtain rfl := oi hF
  refine rT hf ?_
  exact ⟨_, rfl, H.bel, (mk_list (rep_end (α := List Int) (H.get 0 rfl)))⟩
theorem impl_common_ok {S : Nat → Prop} {v0_ : Value} {v1_ : Value} {a' : List Int} {b' : List Int} {r : List Int} (h0 : VR w0 S v0_ a') (h1 : VR w0 S v1_ b') (hF : impl_common fu a' b' = some r) :
    Calls Tryz.prog 161 [v0_, v1_].toArray w0 fun e w' => ∃ v, e = .returned v ∧ (Below w0.heap.size w0 w' ∧ VR w' (St ⟨w0, []⟩ S [] [] [] true) v r) := by
 obtain ⟨A, c, rfl, hl⟩ := VR_list h0
 obtain ⟨A2, c2, rfl, hl2⟩ := VR_list h1
 have H := Mem.start ⟨w0, []⟩ S
 have H := H.pA hl
 have H := H.pA hl2
 refine en Tryz.func161 fun a hf => ?_
 rw [impl_common] at hF
 refine sqz (pz 1 hf fun a hf => ?_)
 refine wr (wl0 rfl (bl hf H 3 ([] : List Int) [] el0 fun A3 a w hf H => ?_))
 refine pz 1 hf fun a hf => ?_
 refine we (sqz (pz 3 hf fun a hf => ?_))
 refine wl_end (then_n ?_)
 obtain ⟨out2, hB1, hF⟩ := bs_ hF
 have hf := hf.pn [1, 5, 9, 10, 11]
 have H := H.lt_ [] [true] [] [0, 1]
 refine loopC (fun (s : List Int × Int) (a : Act) (w : World) => match s with | (out', i) => ∃ (A4 : Option Addr) (c3 : Nat) (E : Go.TypeId), Fr a 27 [(1, (.slice A2 b'.length c2)), (5, (.slice A4 out'.length c3)), (9, (.slice A a'.length c)), (10, (.int .i64 (a'.length : Int))), (11, (.int .i64 i))] ∧ Mem ⟨w0, []⟩ S [] [⟨.sh true, E, A4, c3, (out' : List Int)⟩] [] [(false, MP.val [(.slice A2 b'.length c2)] (b' : List Int)), (false, MP.val [(.slice A a'.length c)] (a' : List Int))] w) (fun k (s : List Int × Int) => impl_common_L1 fu a' b' k s.1 s.2 = some out2) (fun s => out2 = s) (([] : List Int), 0) fu hB1 ⟨A3, 0, 3, hf, H⟩ (fun s h => by cases h) ?_ ?_
 ·rintro fk ⟨out', i⟩ a w hR1 hI
  replace hR1 : impl_common_L1 fu a' b' (fk + 1) out' i = some out2 := hR1
  rw [impl_common_L1] at hR1
  obtain ⟨A4, c3, E, hf, H⟩ := hI
  refine sqz (pz 1 hf fun a hf => ?_)
  refine wl_end (then_n (sq (ib hR1 hf (fun hc hR1 => ?_) fun hc hR1 => ?_)))
  ·refine wp_skip (then_n (sq (wp_block (sq (reg ?_)))))
   obtain ⟨e, he, hR1⟩ := bs_ hR1
   refine wl0 rfl (op_iaddr hf H Tryz.underlying47 TF.sz3 1 rfl rfl rfl he (by decide) fun p o cs a hf hr H => ?_)
   obtain rfl := hr
   refine oq hf (rq_loadI hf H TF.ls3 0 0 rfl rfl rfl) fun a hf => ?_
   refine pz 1 hf fun a hf => ?_
   refine wr (pz 2 hf fun a hf => ?_)
   obtain ⟨y, hy, hR1⟩ := bs_ hR1
   refine oc hf TF.cl197 (slices_Contains_int_int_ok (S := TT) (mk_list (H.rt 1 rfl)) mk_int hy) fun v w a hp hf => ?_
   obtain ⟨hb, hp⟩ := hp
   obtain rfl := VR_bool hp
   have H := H.keep hb
   refine wl_end (then_n (ib hR1 hf (fun hc2 hR1 => ?_) fun hc2 hR1 => ?_))
   ·refine reg (pz 2 hf fun a hf => ?_)
    refine wl0 rfl (bl hf H 3 ([e] : List Int) [(.int .i64 e)] (el1 (y := e) (rfl)) fun A5 a w hf H => ?_)
    obtain ⟨l, hl_, hR1⟩ := bs_ hR1
    refine wl0 rfl (op_appR hf H Tryz.underlying47 TF.ai3 rfl (by decide) 1 0 rfl rfl rfl rfl (.inr rfl) hl_ (by decide) fun E2 A6 c4 a w hf H => ?_)
    refine pz 1 hf fun a hf => ?_
    refine wl_end (blk_n (then_n (reg (pz 2 hf fun a hf => ?_))))
    refine wl_end ?_
    have hf := hf.pn [1, 5, 9, 10, 11]
    have H := H.lt_ [] [false, true] [] [1, 2]
    exact then_n ⟨(l, w64 (i + 1)), hR1, A6, c4, E2, hf, H⟩
   ·refine wp_skip (blk_n (then_n (reg (pz 2 hf fun a hf => ?_))))
    refine wl_end ?_
    have hf := hf.pn [1, 5, 9, 10, 11]
    have H := H.lt_ [] [true] [] [1, 2]
    exact then_n ⟨(out', w64 (i + 1)), hR1, A4, c3, E, hf, H⟩
  ·refine wp_exit (then_x (then_x (blk_e (?_))))
   have hf := hf.pn [1, 5, 9, 10, 11]
   have H := H.lt_ [] [true] [] [0, 1]
   exact ⟨(out', i), (Option.some.inj hR1).symm, A4, c3, E, hf, H⟩
 rintro a w ⟨⟨out3, i2⟩, rfl, A7, c5, E3, hf, H⟩
 try dsimp only at hF
 refine then_n (sqz (pz 1 hf fun a hf => ?_))
 have H := H.rowOwn 0 rfl rfl
 obtain ⟨F, H⟩ := H.freezeOwn 0 rfl
 have H := H.lend 0 rfl
 obtain ⟨y2, hy2, hF⟩ := bs_ hF
 refine oc hf TF.cl76 (slices_Sort_int_int_ok (S := TT) (F := F) (cs := [(.slice A7 out3.length c5)]) (H.ownAt 0 rfl) H.diNd.1 hy2) fun v2 w a hp2 hf => ?_
 obtain ⟨hch, hv, F2, ho, hbk⟩ := hp2
 subst hv
 have H := H.wrote rfl hch ho hbk
 have H := H.pA hl
 have H := H.pA hl2
 have H := H.lend 0 rfl
 refine wr (pz 1 hf fun a hf => ?_)
 obtain ⟨y3, hy3, hF⟩ := bs_ hF
 refine oc hf TF.cl220 (slices_Compact_int_int_ok (mk_list (H.get 0 rfl)) hy3) fun v3 w a hp3 hf => ?_
 obtain ⟨hb2, hp3⟩ := hp3
 obtain ⟨A8, c6, rfl, hl3⟩ := VR_list hp3
 replace hl3 := H.res (f := MP.val [(.slice A8 y3.length c6)] y3) hl3
 have H := H.keep hb2
 have H := H.pT hl3
 refine pz 1 hf fun a hf => ?_
 refine wer ?_
 obtain rfl := oi hF
 refine rT hf ?_
 exact ⟨_, rfl, H.bel, (mk_list (rep_end (α := List Int) (H.get 0 rfl)))⟩
theorem impl_IsValidRequests_c1_ok {S : Nat → Prop} {v0_ : Value} {b1 o1 : Nat} {cs1 : List Value} {x1 : Request} {cap : Network} {r : Bool} (h0 : VR w0 S v0_ x1) (hp1 : (MP.cells ⟨b1, o1, none⟩ cs1).pred w0 S) (hr1 : GoTy.rep w0 S cs1 cap) (hF : impl_IsValidRequests_c1 fu x1 cap = some r) :
    Calls Tryz.prog 137 [v0_, (.pointer (some ⟨b1, o1, none⟩))].toArray w0 fun e w' => ∃ v, e = .returned v ∧ (Below w0.heap.size w0 w' ∧ VR w' (St ⟨w0, []⟩ S [] [] [] true) v r) := by
 obtain ⟨A, c, rfl, hl⟩ := Request_open h0
 obtain ⟨A2, c2, A3, c3, rfl, hl2, hl3⟩ := Network_cells hr1
 have H := Mem.start ⟨w0, []⟩ S
 have H := H.pA hl
 have H := H.pA hl2
 have H := H.pA hl3
 have H := H.pushArg (MP.cells ⟨b1, o1, none⟩ [(.slice A2 cap.Nodes.length c2), (.slice A3 cap.Fibers.length c3)]) hp1
 refine en Tryz.func137 fun a hf => ?_
 rw [impl_IsValidRequests_c1] at hF
 refine bx hf H fun b3 a w hf H => ?_
 refine pz 1 hf fun a hf => ?_
 refine wr (oq hf (rq_loadIN hf H TF.la34 0 0 rfl rfl rfl rfl) fun a hf => ?_)
 refine pz 1 hf fun a hf => ?_
 refine lN 0 hf H TF.la59 fun a hf => ?_
 obtain ⟨y, hy, hF⟩ := bs_ hF
 refine oc hf TF.cl138 (impl_visited_ok (S := TT) (Network_mkv (x := cap) (H.rt 2 rfl) (H.rt 1 rfl)) (Route_mkv (x := x1.Route) (H.rt 3 rfl)) hy) fun v w a hp3 hf => ?_
 obtain ⟨hb, F, v2, v3, rfl, hp4, hp5, hN⟩ := hp3
 obtain ⟨A4, c4, rfl, hl4⟩ := VO_list hp4
 obtain rfl := VR_bool hp5
 have H := H.aO1 hb hN hl4
 have H := H.lend 0 rfl
 refine pz 5 hf fun a hf => ?_
 refine wl_end (then_n (sq ?_))
 obtain ⟨c5, hGc5, hF⟩ := bs_ hF
 have fh := hf.prune [] rfl
 have Hm := H.lt_ [false] [] [false] []
 refine midF 3 (.bool c5) fh Hm ?_ fun a w hf H => ?_
 ·refine reg (pz 3 hf fun a hf => ?_)
  refine iteB hGc5 (fun hc hGc5 => ?_) fun hc hGc5 => ?_
  ·have hf := hf.lit 15 rfl hc
   refine pz 6 hf fun a hf => ?_
   obtain rfl := oi hGc5
   have hf := hf.pn [3]
   have H := H.lt_ [false] [] [false] []
   exact wl_end ⟨hf, H⟩
  ·have hf := hf.lit 15 rfl hc
   refine pz 1 hf fun a hf => ?_
   refine wlg hf rfl rfl rfl (op_q hf (rq_loadB hf H TF.ls3 0 rfl rfl rfl) rfl (by decide) fun a hf => ?_)
   obtain ⟨y2, hy2, hGc5⟩ := bs_ hGc5
   refine wlg hf rfl rfl rfl (oC hf TF.cl84 (impl_within_ok (S := TT) mk_int mk_int mk_int hy2) fun v4 w a hp6 hf => ?_)
   obtain ⟨hb2, hp6⟩ := hp6
   obtain rfl := VR_bool hp6
   have H := H.keep hb2
   refine pz 3 hf fun a hf => ?_
   obtain rfl := oi hGc5
   have hf := hf.pn [3]
   have H := H.lt_ [false] [] [false] []
   exact wl_end ⟨hf, H⟩
 refine then_n (wp_ret (?_))
 obtain rfl := oi hF
 refine rT hf ?_
 exact ⟨_, rfl, H.bel, mk_bool⟩
theorem slices_IndexFunc_impl_Request_impl_Request_of_IsValidRequests_c1_ok {S : Nat → Prop} {v0_ : Value} {b1_0 o1_0 : Nat} {cs1_0 : List Value} {s' : List Request} {cap : Network} {r : Int} (h0 : VR w0 S v0_ s') (hp1_0 : (MP.cells ⟨b1_0, o1_0, none⟩ cs1_0).pred w0 S) (hr1_0 : GoTy.rep w0 S cs1_0 cap) (hF : slices_IndexFunc_impl_Request_impl_Request_of_IsValidRequests_c1 fu s' cap = some r) :
    Calls Tryz.prog 195 [v0_, (.func (.func 137) #[] #[(.pointer (some ⟨b1_0, o1_0, none⟩))])].toArray w0 fun e w' => ∃ v, e = .returned v ∧ (Below w0.heap.size w0 w' ∧ VR w' (St ⟨w0, []⟩ S [] [] [] true) v r) := by
 obtain ⟨A, c, rfl, hl⟩ := VR_list h0
 obtain ⟨A2, c2, A3, c3, rfl, hl2, hl3⟩ := Network_cells hr1_0
 have H := Mem.start ⟨w0, []⟩ S
 have H := H.pA hl
 have H := H.pA hl2
 have H := H.pA hl3
 have H := H.pushArg (MP.cells ⟨b1_0, o1_0, none⟩ [(.slice A2 cap.Nodes.length c2), (.slice A3 cap.Fibers.length c3)]) hp1_0
 refine en Tryz.func195 fun a hf => ?_
 rw [slices_IndexFunc_impl_Request_impl_Request_of_IsValidRequests_c1] at hF
 refine sqz (pz 1 hf fun a hf => ?_)
 refine we (sqz (pz 3 hf fun a hf => ?_))
 refine wl_end (then_n ?_)
 obtain ⟨out', hB1, hF⟩ := bs_ hF
 have hf := hf.pn [0, 1, 7, 8]
 have H := H.lt_ [] [] [] [0, 1, 2, 3]
 refine loopC (fun (s : Int) (a : Act) (w : World) => match s with | i => Fr a 19 [(0, (.slice A s'.length c)), (1, (.func (.func 137) #[] #[(.pointer (some ⟨b1_0, o1_0 + 0, none⟩))])), (7, (.int .i64 (s'.length : Int))), (8, (.int .i64 i))] ∧ Mem ⟨w0, []⟩ S [] [] [] [(false, MP.cells ⟨b1_0, o1_0, none⟩ [(.slice A2 cap.Nodes.length c2), (.slice A3 cap.Fibers.length c3)]), (false, MP.val [(.slice A3 cap.Fibers.length c3)] (cap.Fibers : List Fiber)), (false, MP.val [(.slice A2 cap.Nodes.length c2)] (cap.Nodes : List ByteArray)), (false, MP.val [(.slice A s'.length c)] (s' : List Request))] w) (fun k (s : Int) => slices_IndexFunc_impl_Request_impl_Request_of_IsValidRequests_c1_L1 fu s' cap k s = some out') (fun s => out' = Out.next s) 0 fu hB1 ⟨hf, H⟩ (fun s h => by cases h) ?_ ?_
 ·rintro fk i a w hR1 hI
  replace hR1 : slices_IndexFunc_impl_Request_impl_Request_of_IsValidRequests_c1_L1 fu s' cap (fk + 1) i = some out' := hR1
  rw [slices_IndexFunc_impl_Request_impl_Request_of_IsValidRequests_c1_L1] at hR1
  obtain ⟨hf, H⟩ := hI
  refine sqz (pz 1 hf fun a hf => ?_)
  refine wl_end (then_n (sq (ib hR1 hf (fun hc hR1 => ?_) fun hc hR1 => ?_)))
  ·refine ws (pz 2 hf fun a hf => ?_)
   refine wr (pz 3 hf fun a hf => ?_)
   obtain ⟨e, he, hR1⟩ := bs_ hR1
   refine wl0 rfl (op_iaddr hf H Tryz.underlying46 TF.sz61 3 rfl rfl rfl he (by decide) fun p o3 cs3 a hf hr3 H => ?_)
   obtain ⟨A4, c4, rfl, hl4⟩ := Request_cells hr3
   have H := H.pF hl4
   refine oq hf (rq_loadIN hf H TF.la61 1 0 rfl rfl rfl rfl) fun a hf => ?_
   obtain ⟨y, hy, hR1⟩ := bs_ hR1
   refine wl0 rfl (op_callV hf TF.cl137 rfl rfl (by decide) (impl_IsValidRequests_c1_ok (S := TT) (Request_mkv (x := e) (H.rt 0 rfl)) (mp_true (H.get 2 rfl)) ((Network_mk (x := cap) (H.rt 4 rfl) (H.rt 3 rfl))) hy) fun v w a hp3 hf => ?_)
   obtain ⟨hb, hp3⟩ := hp3
   obtain rfl := VR_bool hp3
   have H := H.keep hb
   refine wl_end (then_n (ib hR1 hf (fun hc2 hR1 => ?_) fun hc2 hR1 => ?_))
   ·refine sqz (pz 2 hf fun a hf => ?_)
    have hf := hf.pn [4]
    refine wl_end (then_n (wp_ret (blk_r (then_r (then_r (blk_r (then_r (then_r (?_)))))))))
    obtain rfl := oi hR1
    replace hF := on_ret hF
    obtain rfl := oi hF
    refine rT hf ?_
    exact ⟨_, rfl, H.bel, mk_int⟩
   ·refine wp_skip (blk_n (then_n (reg (pz 2 hf fun a hf => ?_))))
    refine wl_end ?_
    have hf := hf.pn [0, 1, 7, 8]
    have H := H.lt_ [] [] [] [2, 3, 4, 5]
    exact then_n ⟨w64 (i + 1), hR1, hf, H⟩
  ·refine wp_exit (then_x (then_x (blk_e (?_))))
   have hf := hf.pn [0, 1, 7, 8]
   have H := H.lt_ [] [] [] [0, 1, 2, 3]
   exact ⟨i, (Option.some.inj hR1).symm, hf, H⟩
 rintro a w ⟨i2, rfl, hf, H⟩
 replace hF := on_next hF
 refine then_n (sqz (pz 1 hf fun a hf => ?_))
 refine wer ?_
 obtain rfl := oi hF
 refine rT hf ?_
 exact ⟨_, rfl, H.bel, mk_int⟩
theorem slices_ContainsFunc_impl_Request_impl_Request_of_IsValidRequests_c1_ok {S : Nat → Prop} {v0_ : Value} {b1_0 o1_0 : Nat} {cs1_0 : List Value} {s' : List Request} {cap : Network} {r : Bool} (h0 : VR w0 S v0_ s') (hp1_0 : (MP.cells ⟨b1_0, o1_0, none⟩ cs1_0).pred w0 S) (hr1_0 : GoTy.rep w0 S cs1_0 cap) (hF : slices_ContainsFunc_impl_Request_impl_Request_of_IsValidRequests_c1 fu s' cap = some r) :
    Calls Tryz.prog 136 [v0_, (.func (.func 137) #[] #[(.pointer (some ⟨b1_0, o1_0, none⟩))])].toArray w0 fun e w' => ∃ v, e = .returned v ∧ (Below w0.heap.size w0 w' ∧ VR w' (St ⟨w0, []⟩ S [] [] [] true) v r) := by
 obtain ⟨A, c, rfl, hl⟩ := VR_list h0
 obtain ⟨A2, c2, A3, c3, rfl, hl2, hl3⟩ := Network_cells hr1_0
 have H := Mem.start ⟨w0, []⟩ S
 have H := H.pA hl
 have H := H.pA hl2
 have H := H.pA hl3
 have H := H.pushArg (MP.cells ⟨b1_0, o1_0, none⟩ [(.slice A2 cap.Nodes.length c2), (.slice A3 cap.Fibers.length c3)]) hp1_0
 refine en Tryz.func136 fun a hf => ?_
 rw [slices_ContainsFunc_impl_Request_impl_Request_of_IsValidRequests_c1] at hF
 refine sqz (pz 1 hf fun a hf => ?_)
 refine wr (pz 2 hf fun a hf => ?_)
 obtain ⟨y, hy, hF⟩ := bs_ hF
 refine oc hf TF.cl195 (slices_IndexFunc_impl_Request_impl_Request_of_IsValidRequests_c1_ok (S := TT) (mk_list (H.rt 3 rfl)) (mp_true (H.get 0 rfl)) ((Network_mk (x := cap) (H.rt 2 rfl) (H.rt 1 rfl))) hy) fun v w a hp3 hf => ?_
 obtain ⟨hb, hp3⟩ := hp3
 obtain rfl := VR_int hp3
 have H := H.keep hb
 refine pz 2 hf fun a hf => ?_
 refine wer ?_
 obtain rfl := oi hF
 refine rT hf ?_
 exact ⟨_, rfl, H.bel, mk_bool⟩
theorem impl_IsValidRequests_ok {S : Nat → Prop} {v0_ : Value} {v1_ : Value} {n' : Network} {list : List Request} {r : Bool} (h0 : VR w0 S v0_ n') (h1 : VR w0 S v1_ list) (hF : impl_IsValidRequests fu n' list = some r) :
    Calls Tryz.prog 65 [v0_, v1_].toArray w0 fun e w' => ∃ v, e = .returned v ∧ (Below w0.heap.size w0 w' ∧ VR w' (St ⟨w0, []⟩ S [] [] [] true) v r) := by
 obtain ⟨A, c, A2, c2, rfl, hl, hl2⟩ := Network_open h0
 obtain ⟨A3, c3, rfl, hl3⟩ := VR_list h1
 have H := Mem.start ⟨w0, []⟩ S
 have H := H.pA hl
 have H := H.pA hl2
 have H := H.pA hl3
 refine en Tryz.func65 fun a hf => ?_
 rw [impl_IsValidRequests] at hF
 refine bx hf H fun b' a w hf H => ?_
 refine pz 1 hf fun a hf => ?_
 refine wl_end (then_n (sq ?_))
 obtain ⟨c4, hGc4, hF⟩ := bs_ hF
 have fh := hf.prune [] rfl
 have Hm := H.lt_ [false] [] [] []
 refine midF 4 (.bool c4) fh Hm ?_ fun a w hf H => ?_
 ·refine reg (lN 0 hf H TF.la34 fun a hf => ?_)
  obtain ⟨y, hy, hGc4⟩ := bs_ hGc4
  refine oc hf TF.cl90 (impl_IsValidNetwork_ok (S := TT) (Network_mkv (x := n') (H.rt 2 rfl) (H.rt 1 rfl)) hy) fun v w a hp hf => ?_
  obtain ⟨hb, hp⟩ := hp
  obtain rfl := VR_bool hp
  have H := H.keep hb
  refine pz 1 hf fun a hf => ?_
  refine iteB hGc4 (fun hc hGc4 => ?_) fun hc hGc4 => ?_
  ·have hf := hf.lit 7 rfl hc
   refine pz 5 hf fun a hf => ?_
   refine iteB hGc4 (fun hc2 hGc4 => ?_) fun hc2 hGc4 => ?_
   ·have hf := hf.lit 12 rfl hc2
    refine pz 1 hf fun a hf => ?_
    refine wlg hf rfl rfl rfl (op_q hf (rq_makeFunc hf rfl) rfl (by decide) fun a hf => ?_)
    obtain ⟨y2, hy2, hGc4⟩ := bs_ hGc4
    refine wlg hf rfl rfl rfl (oC hf TF.cl136 (slices_ContainsFunc_impl_Request_impl_Request_of_IsValidRequests_c1_ok (S := TT) (mk_list (H.rt 0 rfl)) (H.boxTrue 0 rfl) ((Network_mk (x := n') (H.rt 2 rfl) (H.rt 1 rfl))) hy2) fun v2 w a hp2 hf => ?_)
    obtain ⟨hb2, hp2⟩ := hp2
    obtain rfl := VR_bool hp2
    have H := H.keep hb2
    refine pz 3 hf fun a hf => ?_
    obtain rfl := oi hGc4
    have hf := hf.pn [4]
    have H := H.lt_ [false] [] [] []
    exact wl_end ⟨hf, H⟩
   ·have hf := hf.lit 12 rfl hc2
    refine pz 6 hf fun a hf => ?_
    obtain rfl := oi hGc4
    have hf := hf.pn [4]
    have H := H.lt_ [false] [] [] []
    exact wl_end ⟨hf, H⟩
  ·have hf := hf.lit 7 rfl hc
   refine pz 11 hf fun a hf => ?_
   obtain rfl := oi hGc4
   have hf := hf.pn [4]
   have H := H.lt_ [false] [] [] []
   exact wl_end ⟨hf, H⟩
 refine then_n (wp_ret (?_))
 obtain rfl := oi hF
 refine rT hf ?_
 exact ⟨_, rfl, H.bel, mk_bool⟩
theorem impl_conflict_ok {S : Nat → Prop} {v0_ : Value} {v1_ : Value} {a' : Request} {b' : Request} {r : Bool} (h0 : VR w0 S v0_ a') (h1 : VR w0 S v1_ b') (hF : impl_conflict fu a' b' = some r) :
    Calls Tryz.prog 143 [v0_, v1_].toArray w0 fun e w' => ∃ v, e = .returned v ∧ (Below w0.heap.size w0 w' ∧ VR w' (St ⟨w0, []⟩ S [] [] [] true) v r) := by
 obtain ⟨A, c, rfl, hl⟩ := Request_open h0
 obtain ⟨A2, c2, rfl, hl2⟩ := Request_open h1
 have H := Mem.start ⟨w0, []⟩ S
 have H := H.pA hl
 have H := H.pA hl2
 refine en Tryz.func143 fun a hf => ?_
 rw [impl_conflict] at hF
 refine bx hf H fun b2 a w hf H => ?_
 refine wl0 rfl (op_box hf H rfl rfl (by decide) fun b3 a w hf H => ?_)
 refine pz 1 hf fun a hf => ?_
 refine wr (pz 2 hf fun a hf => ?_)
 refine lB 1 hf H TF.ls47 fun a hf => ?_
 refine pz 2 hf fun a hf => ?_
 refine lB 0 hf H TF.ls47 fun a hf => ?_
 obtain ⟨y, hy, hF⟩ := bs_ hF
 refine oc hf TF.cl161 (impl_common_ok (S := TT) (mk_list (H.rt 1 rfl)) (mk_list (H.rt 0 rfl)) hy) fun v w a hp hf => ?_
 obtain ⟨hb, hp⟩ := hp
 obtain ⟨A3, c3, rfl, hl3⟩ := VR_list hp
 replace hl3 := H.rF hl3
 have H := H.keep hb
 have H := H.pT hl3
 refine pz 3 hf fun a hf => ?_
 have hf := hf.pn [4]
 refine wer ?_
 obtain rfl := oi hF
 refine rT hf ?_
 exact ⟨_, rfl, H.bel, mk_bool⟩
theorem impl_isClique_ok {S : Nat → Prop} {v0_ : Value} {v1_ : Value} {list : List Request} {set : Int} {r : Bool} (h0 : VR w0 S v0_ list) (h1 : VR w0 S v1_ set) (hF : impl_isClique fu list set = some r) :
    Calls Tryz.prog 139 [v0_, v1_].toArray w0 fun e w' => ∃ v, e = .returned v ∧ (Below w0.heap.size w0 w' ∧ VR w' (St ⟨w0, []⟩ S [] [] [] true) v r) := by
 obtain ⟨A, c, rfl, hl⟩ := VR_list h0
 obtain rfl := VR_int h1
 have H := Mem.start ⟨w0, []⟩ S
 have H := H.pA hl
 refine en Tryz.func139 fun a hf => ?_
 rw [impl_isClique] at hF
 refine sqz (pz 1 hf fun a hf => ?_)
 refine we (sqz (pz 3 hf fun a hf => ?_))
 refine wl_end (then_n ?_)
 obtain ⟨out', hB1, hF⟩ := bs_ hF
 have hf := hf.pn [0, 1, 8, 9]
 have H := H.lt_ [] [] [] [0]
 refine loopC (fun (s : Int) (a : Act) (w : World) => match s with | i => Fr a 42 [(0, (.slice A list.length c)), (1, (.int .i64 set)), (8, (.int .i64 (list.length : Int))), (9, (.int .i64 i))] ∧ Mem ⟨w0, []⟩ S [] [] [] [(false, MP.val [(.slice A list.length c)] (list : List Request))] w) (fun k (s : Int) => impl_isClique_L1 fu list set k s = some out') (fun s => out' = Out.next s) 0 fu hB1 ⟨hf, H⟩ (fun s h => by cases h) ?_ ?_
 ·rintro fk i a w hR1 hI
  replace hR1 : impl_isClique_L1 fu list set (fk + 1) i = some out' := hR1
  rw [impl_isClique_L1] at hR1
  obtain ⟨hf, H⟩ := hI
  refine sqz (pz 1 hf fun a hf => ?_)
  refine wl_end (then_n (sq (ib hR1 hf (fun hc hR1 => ?_) fun hc hR1 => ?_)))
  ·refine ws (pz 2 hf fun a hf => ?_)
   refine wr (pz 2 hf fun a hf => ?_)
   refine wl_end (then_n ?_)
   obtain ⟨out2, hB2, hR1⟩ := bs_ hR1
   have hf := hf.pn [0, 1, 5, 8, 9, 12, 13]
   have H := H.lt_ [] [] [] [0]
   refine loopC (fun (s : Int) (a : Act) (w : World) => match s with | i2 => Fr a 42 [(0, (.slice A list.length c)), (1, (.int .i64 set)), (5, (.int .i64 i)), (8, (.int .i64 (list.length : Int))), (9, (.int .i64 i)), (12, (.int .i64 i)), (13, (.int .i64 i2))] ∧ Mem ⟨w0, []⟩ S [] [] [] [(false, MP.val [(.slice A list.length c)] (list : List Request))] w) (fun k (s : Int) => impl_isClique_L2 fu list set i k s = some out2) (fun s => out2 = Out.next s) 0 fu hB2 ⟨hf, H⟩ (fun s h => by cases h) ?_ ?_
   ·rintro fk i2 a w hR2 hI
    replace hR2 : impl_isClique_L2 fu list set i (fk + 1) i2 = some out2 := hR2
    rw [impl_isClique_L2] at hR2
    obtain ⟨hf, H⟩ := hI
    refine sqz (pz 1 hf fun a hf => ?_)
    refine wl_end (then_n (sq (ib hR2 hf (fun hc2 hR2 => ?_) fun hc2 hR2 => ?_)))
    ·refine ws (pz 2 hf fun a hf => ?_)
     refine wl_end (then_n (sq ?_))
     obtain ⟨c2, hGc2, hR2⟩ := bs_ hR2
     have fh := hf.prune [0, 1, 5, 8, 9, 12, 13] rfl
     have Hm := H.lt_ [] [] [] [0]
     refine midF 39 (.bool c2) fh Hm ?_ fun a w hf H => ?_
     ·refine dw [] 24 fun w hb => ?_
      have H := H.keep hb
      refine zp 0 hf trivial fun a hf => ?_
      refine zp 1 hf trivial fun a hf => ?_
      obtain ⟨q, hq, hGc2⟩ := bs_ hGc2
      refine tP 2 rfl rfl rfl rfl hf (by kernel_rfl) (fun _ => trivial) (fun w => rq_shr hf rfl rfl hq) fun a hf => ?_
      refine zp 3 hf trivial fun a hf => ?_
      refine zp 4 hf trivial fun a hf => ?_
      refine zp 5 hf trivial fun a hf => ?_
      refine iteB hGc2 (fun hc3 hGc2 => ?_) fun hc3 hGc2 => ?_
      ·have hf := hf.lit 21 rfl hc3
       refine zg 6 hf trivial fun a hf => ?_
       refine zg 7 hf trivial fun a hf => ?_
       obtain ⟨q2, hq2, hGc2⟩ := bs_ hGc2
       refine tPg 8 rfl rfl rfl rfl rfl rfl hf (by kernel_rfl) (fun _ => trivial) (fun w => rq_shr hf rfl rfl hq2) fun a hf => ?_
       refine zg 9 hf trivial fun a hf => ?_
       refine zg 10 hf trivial fun a hf => ?_
       refine zp 11 hf trivial fun a hf => ?_
       refine zp 12 hf trivial fun a hf => ?_
       refine iteB hGc2 (fun hc4 hGc2 => ?_) fun hc4 hGc2 => ?_
       ·have hf := hf.lit 28 rfl hc4
        refine zg 13 hf trivial fun a hf => ?_
        refine zg 14 hf trivial fun a hf => ?_
        obtain ⟨e, he, hGc2⟩ := bs_ hGc2
        obtain ⟨p, o, cs, hx, hr, H⟩ := pre_iaddr H Tryz.underlying46 TF.sz61 0 rfl he
        refine tPg 15 rfl rfl rfl rfl rfl rfl hf (by kernel_rfl) (fun _ => trivial) (fun w => rq_iaddrE hf rfl rfl rfl hx w) fun a hf => ?_
        obtain ⟨A2, c3, rfl, hl2⟩ := Request_cells hr
        have H := H.pF hl2
        refine strT (H.lt_ [] [] [] [1]) (fun w H => trivial) fun hS => ?_
        refine tSg 16 [] rfl rfl rfl rfl rfl rfl hf (by kernel_rfl) (by kernel_rfl) hS (fun w H => rq_loadIN hf H TF.la61 0 0 rfl rfl rfl rfl) fun a hf => ?_
        refine zg 17 hf hS fun a hf => ?_
        refine zg 18 hf hS fun a hf => ?_
        obtain ⟨e2, he2, hGc2⟩ := bs_ hGc2
        obtain ⟨p2, o2, cs2, hx2, hr2, H⟩ := pre_iaddr H Tryz.underlying46 TF.sz61 2 rfl he2
        refine tPg 19 rfl rfl rfl rfl rfl rfl hf (by kernel_rfl) (fun _ => hS) (fun w => rq_iaddrE hf rfl rfl rfl hx2 w) fun a hf => ?_
        obtain ⟨A3, c4, rfl, hl3⟩ := Request_cells hr2
        have H := H.pF hl3
        refine strT (H.lt_ [] [] [] [1, 3]) (fun w H => H.lt_ [] [] [] [1]) fun hS => ?_
        refine tSg 20 [] rfl rfl rfl rfl rfl rfl hf (by kernel_rfl) (by kernel_rfl) hS (fun w H => rq_loadIN hf H TF.la61 0 0 rfl rfl rfl rfl) fun a hf => ?_
        obtain ⟨y, hy, hGc2⟩ := bs_ hGc2
        refine n1g 21 (by kernel_rfl) rfl rfl rfl rfl hf (oC hf TF.cl143 (impl_conflict_ok (S := TT) (Request_mkv (x := e) (H.rt 2 rfl)) (Request_mkv (x := e2) (H.rt 0 rfl)) hy) fun v w a hp hf => ?_)
        obtain ⟨hb, hp⟩ := hp
        obtain rfl := VR_bool hp
        have H := H.keep hb
        have hS := H.lt_ [] [] [] [1, 3]
        refine aS hS ?_
        refine zg 22 hf hS fun a hf => ?_
        refine zp 23 hf hS fun a hf => ?_
        refine dk ?_
        obtain rfl := oi hGc2
        have hf := hf.pn [39, 0, 1, 5, 8, 9, 12, 13]
        have H := H.lt_ [] [] [] [4]
        exact ⟨hf, H⟩
       ·have hf := hf.lit 28 rfl hc4
        refine zU 13 hf trivial fun a hf => ?_
        refine zU 14 hf trivial fun a hf => ?_
        refine zU 15 hf trivial fun a hf => ?_
        refine zU 16 hf trivial fun a hf => ?_
        refine zU 17 hf trivial fun a hf => ?_
        refine zU 18 hf trivial fun a hf => ?_
        refine zU 19 hf trivial fun a hf => ?_
        refine zU 20 hf trivial fun a hf => ?_
        refine zU 21 hf trivial fun a hf => ?_
        refine zU 22 hf trivial fun a hf => ?_
        refine zp 23 hf trivial fun a hf => ?_
        refine dk ?_
        obtain rfl := oi hGc2
        have hf := hf.pn [39, 0, 1, 5, 8, 9, 12, 13]
        have H := H.lt_ [] [] [] [0]
        exact ⟨hf, H⟩
      ·have hf := hf.lit 21 rfl hc3
       refine zU 6 hf trivial fun a hf => ?_
       refine zU 7 hf trivial fun a hf => ?_
       refine zU 8 hf trivial fun a hf => ?_
       refine zU 9 hf trivial fun a hf => ?_
       refine zU 10 hf trivial fun a hf => ?_
       refine zp 11 hf trivial fun a hf => ?_
       refine zp 12 hf trivial fun a hf => ?_
       refine zU 13 hf trivial fun a hf => ?_
       refine zU 14 hf trivial fun a hf => ?_
       refine zU 15 hf trivial fun a hf => ?_
       refine zU 16 hf trivial fun a hf => ?_
       refine zU 17 hf trivial fun a hf => ?_
       refine zU 18 hf trivial fun a hf => ?_
       refine zU 19 hf trivial fun a hf => ?_
       refine zU 20 hf trivial fun a hf => ?_
       refine zU 21 hf trivial fun a hf => ?_
       refine zU 22 hf trivial fun a hf => ?_
       refine zp 23 hf trivial fun a hf => ?_
       refine dk ?_
       obtain rfl := oi hGc2
       have hf := hf.pn [39, 0, 1, 5, 8, 9, 12, 13]
       have H := H.lt_ [] [] [] [0]
       exact ⟨hf, H⟩
     refine then_n (ib hR2 hf (fun hc5 hR2 => ?_) fun hc5 hR2 => ?_)
     ·refine sqz (pz 1 hf fun a hf => ?_)
      refine wl_end (then_n (wp_ret (blk_r (then_r (then_r (blk_r (then_r (blk_r (then_r (then_r (blk_r (then_r (then_r (?_))))))))))))))
      obtain rfl := oi hR2
      replace hR1 := on_ret hR1
      obtain rfl := oi hR1
      replace hF := on_ret hF
      obtain rfl := oi hF
      refine rT hf ?_
      exact ⟨_, rfl, H.bel, mk_bool⟩
     ·refine wp_skip (blk_n (then_n (reg (pz 2 hf fun a hf => ?_))))
      refine wl_end ?_
      have hf := hf.pn [0, 1, 5, 8, 9, 12, 13]
      have H := H.lt_ [] [] [] [0]
      exact then_n ⟨w64 (i2 + 1), hR2, hf, H⟩
    ·refine wp_exit (then_x (then_x (blk_e (?_))))
     have hf := hf.pn [0, 1, 5, 8, 9, 12, 13]
     have H := H.lt_ [] [] [] [0]
     exact ⟨i2, (Option.some.inj hR2).symm, hf, H⟩
   rintro a w ⟨i3, rfl, hf, H⟩
   replace hR1 := on_next hR1
   refine blk_n (then_n (reg (pz 2 hf fun a hf => ?_)))
   refine wl_end ?_
   have hf := hf.pn [0, 1, 8, 9]
   have H := H.lt_ [] [] [] [0]
   exact then_n ⟨w64 (i + 1), hR1, hf, H⟩
  ·refine wp_exit (then_x (then_x (blk_e (?_))))
   have hf := hf.pn [0, 1, 8, 9]
   have H := H.lt_ [] [] [] [0]
   exact ⟨i, (Option.some.inj hR1).symm, hf, H⟩
 rintro a w ⟨i4, rfl, hf, H⟩
 replace hF := on_next hF
 refine then_n (sqz (pz 1 hf fun a hf => ?_))
 refine wer ?_
 obtain rfl := oi hF
 refine rT hf ?_
 exact ⟨_, rfl, H.bel, mk_bool⟩
theorem impl_cliqueBound_ok {S : Nat → Prop} {v0_ : Value} {list : List Request} {r : Int × Int} (h0 : VR w0 S v0_ list) (hF : impl_cliqueBound fu list = some r) :
    Calls Tryz.prog 66 [v0_].toArray w0 fun e w' => ∃ v, e = .returned v ∧ (Below w0.heap.size w0 w' ∧ ∃ u0 u1, v = .tuple #[u0, u1] ∧ VR w' (St ⟨w0, []⟩ S [] [] [] true) u0 r.1 ∧ VR w' (St ⟨w0, []⟩ S [] [] [] true) u1 r.2) := by
 obtain ⟨A, c, rfl, hl⟩ := VR_list h0
 have H := Mem.start ⟨w0, []⟩ S
 have H := H.pA hl
 refine en Tryz.func66 fun a hf => ?_
 rw [impl_cliqueBound] at hF
 refine sqz (pz 2 hf fun a hf => ?_)
 refine wr (pz 2 hf fun a hf => ?_)
 refine we (sqz (pz 2 hf fun a hf => ?_))
 obtain ⟨q, hq, hF⟩ := bs_ hF
 refine oq hf (rq_shl hf rfl rfl hq) fun a hf => ?_
 refine pz 1 hf fun a hf => ?_
 refine wl_end (then_n ?_)
 obtain ⟨out', hB1, hF⟩ := bs_ hF
 have hf := hf.pn [0, 4, 5, 12, 13]
 have H := H.lt_ [] [] [] [0]
 refine loopC (fun (s : Int × Int × Int) (a : Act) (w : World) => match s with | (most, i, best) => Fr a 46 [(0, (.slice A list.length c)), (4, (.int .i64 most)), (5, (.int .i64 best)), (12, (.int .i64 q)), (13, (.int .i64 i))] ∧ Mem ⟨w0, []⟩ S [] [] [] [(false, MP.val [(.slice A list.length c)] (list : List Request))] w) (fun k (s : Int × Int × Int) => impl_cliqueBound_L1 fu list q k s.1 s.2.1 s.2.2 = some out') (fun s => out' = s) (0, 0, 0) fu hB1 ⟨hf, H⟩ (fun s h => by cases h) ?_ ?_
 ·rintro fk ⟨most, i, best⟩ a w hR1 hI
  replace hR1 : impl_cliqueBound_L1 fu list q (fk + 1) most i best = some out' := hR1
  rw [impl_cliqueBound_L1] at hR1
  obtain ⟨hf, H⟩ := hI
  refine sqz (pz 1 hf fun a hf => ?_)
  refine wl_end (then_n (sq (ib hR1 hf (fun hc hR1 => ?_) fun hc hR1 => ?_)))
  ·refine ws (pz 2 hf fun a hf => ?_)
   refine wr (pz 1 hf fun a hf => ?_)
   refine we (sqz (pz 3 hf fun a hf => ?_))
   refine wl_end (then_n ?_)
   obtain ⟨out2, hB2, hR1⟩ := bs_ hR1
   have hf := hf.pn [0, 4, 5, 6, 7, 12, 13, 16, 17, 18]
   have H := H.lt_ [] [] [] [0]
   refine loopC (fun (s : Int × Int) (a : Act) (w : World) => match s with | (sum, i2) => Fr a 46 [(0, (.slice A list.length c)), (4, (.int .i64 most)), (5, (.int .i64 best)), (6, (.int .i64 i)), (7, (.int .i64 sum)), (12, (.int .i64 q)), (13, (.int .i64 i)), (16, (.slice A list.length c)), (17, (.int .i64 (list.length : Int))), (18, (.int .i64 i2))] ∧ Mem ⟨w0, []⟩ S [] [] [] [(false, MP.val [(.slice A list.length c)] (list : List Request))] w) (fun k (s : Int × Int) => impl_cliqueBound_L2 fu list i k s.1 s.2 = some out2) (fun s => out2 = s) (0, 0) fu hB2 ⟨hf, H⟩ (fun s h => by cases h) ?_ ?_
   ·rintro fk ⟨sum, i2⟩ a w hR2 hI
    replace hR2 : impl_cliqueBound_L2 fu list i (fk + 1) sum i2 = some out2 := hR2
    rw [impl_cliqueBound_L2] at hR2
    obtain ⟨hf, H⟩ := hI
    refine sqz (pz 1 hf fun a hf => ?_)
    refine wl_end (then_n (sq (ib hR2 hf (fun hc2 hR2 => ?_) fun hc2 hR2 => ?_)))
    ·refine ws (pz 1 hf fun a hf => ?_)
     obtain ⟨e, he, hR2⟩ := bs_ hR2
     refine wl0 rfl (op_iaddr hf H Tryz.underlying46 TF.sz61 0 rfl rfl rfl he (by decide) fun p o cs a hf hr H => ?_)
     obtain ⟨A2, c2, rfl, hl2⟩ := Request_cells hr
     have H := H.pF hl2
     refine oq hf (rq_loadIN hf H TF.la61 1 0 rfl rfl rfl rfl) fun a hf => ?_
     refine aL hf H TF.zv61 fun b' a w hf H => ?_
     refine pz 1 hf fun a hf => ?_
     refine sB 0 hf H TF.sz61 fun w H => ?_
     refine wr (pz 2 hf fun a hf => ?_)
     obtain ⟨q2, hq2, hR2⟩ := bs_ hR2
     refine oq hf (rq_shr hf rfl rfl hq2) fun a hf => ?_
     refine pz 2 hf fun a hf => ?_
     refine wl_end (then_n (ib hR2 hf (fun hc3 hR2 => ?_) fun hc3 hR2 => ?_))
     ·refine reg (pz 2 hf fun a hf => ?_)
      refine lB 0 hf H TF.ls3 fun a hf => ?_
      refine pz 2 hf fun a hf => ?_
      have hf := hf.pn [0, 4, 5, 6, 7, 12, 13, 16, 17, 18]
      refine wl_end (blk_n (then_n (reg (pz 2 hf fun a hf => ?_))))
      refine wl_end ?_
      have hf := hf.pn [0, 4, 5, 6, 7, 12, 13, 16, 17, 18]
      have H := H.lt_ [false] [] [] [2]
      exact then_n ⟨(w64 (sum + e.Count), w64 (i2 + 1)), hR2, hf, H⟩
     ·refine wp_skip (blk_n (then_n (reg (pz 2 hf fun a hf => ?_))))
      refine wl_end ?_
      have hf := hf.pn [0, 4, 5, 6, 7, 12, 13, 16, 17, 18]
      have H := H.lt_ [false] [] [] [2]
      exact then_n ⟨(sum, w64 (i2 + 1)), hR2, hf, H⟩
    ·refine wp_exit (then_x (then_x (blk_e (?_))))
     have hf := hf.pn [0, 4, 5, 6, 7, 12, 13, 16, 17, 18]
     have H := H.lt_ [] [] [] [0]
     exact ⟨(sum, i2), (Option.some.inj hR2).symm, hf, H⟩
   rintro a w ⟨⟨sum2, i3⟩, rfl, hf, H⟩
   try dsimp only at hR1
   refine then_n (sq ?_)
   obtain ⟨c3, hGc3, hR1⟩ := bs_ hR1
   have fh := hf.prune [0, 4, 5, 6, 7, 12, 13] rfl
   have Hm := H.lt_ [] [] [] [0]
   refine midF 40 (.bool c3) fh Hm ?_ fun a w hf H => ?_
   ·refine reg (pz 4 hf fun a hf => ?_)
    refine iteB hGc3 (fun hc4 hGc3 => ?_) fun hc4 hGc3 => ?_
    ·have hf := hf.lit 36 rfl hc4
     refine pz 2 hf fun a hf => ?_
     obtain ⟨y, hy, hGc3⟩ := bs_ hGc3
     refine wlg hf rfl rfl rfl (oC hf TF.cl139 (impl_isClique_ok (S := TT) (mk_list (H.rt 0 rfl)) mk_int hy) fun v w a hp hf => ?_)
     obtain ⟨hb, hp⟩ := hp
     obtain rfl := VR_bool hp
     have H := H.keep hb
     refine pz 1 hf fun a hf => ?_
     obtain rfl := oi hGc3
     have hf := hf.pn [40, 0, 4, 5, 6, 7, 12, 13]
     have H := H.lt_ [] [] [] [0]
     exact wl_end ⟨hf, H⟩
    ·have hf := hf.lit 36 rfl hc4
     refine pz 4 hf fun a hf => ?_
     obtain rfl := oi hGc3
     have hf := hf.pn [40, 0, 4, 5, 6, 7, 12, 13]
     have H := H.lt_ [] [] [] [0]
     exact wl_end ⟨hf, H⟩
   refine then_n (ib hR1 hf (fun hc5 hR1 => ?_) fun hc5 hR1 => ?_)
   ·refine reg (pz 4 hf fun a hf => ?_)
    refine wl_end (blk_n (then_n (reg (pz 2 hf fun a hf => ?_))))
    refine wl_end ?_
    have hf := hf.pn [0, 4, 5, 12, 13]
    have H := H.lt_ [] [] [] [0]
    exact then_n ⟨(sum2, w64 (i + 1), i), hR1, hf, H⟩
   ·refine wp_skip (blk_n (then_n (reg (pz 2 hf fun a hf => ?_))))
    refine wl_end ?_
    have hf := hf.pn [0, 4, 5, 12, 13]
    have H := H.lt_ [] [] [] [0]
    exact then_n ⟨(most, w64 (i + 1), best), hR1, hf, H⟩
  ·refine wp_exit (then_x (then_x (blk_e (?_))))
   have hf := hf.pn [0, 4, 5, 12, 13]
   have H := H.lt_ [] [] [] [0]
   exact ⟨(most, i, best), (Option.some.inj hR1).symm, hf, H⟩
 rintro a w ⟨⟨most2, i4, best2⟩, rfl, hf, H⟩
 try dsimp only at hF
 refine then_n (sqz (pz 4 hf fun a hf => ?_))
 refine wer ?_
 obtain rfl := oi hF
 refine ret_2 hf rfl (rv_tmp hf rfl) (rv_tmp hf rfl) ?_
 exact ⟨_, rfl, H.bel, _, _, rfl, mk_int, mk_int⟩
theorem impl_assignedTo_c1c1_ok {S : Nat → Prop} {v0_ : Value} {b1 o1 : Nat} {cs1 : List Value} {k' : Int} {cap : Int} {r : Bool} (h0 : VR w0 S v0_ k') (hp1 : (MP.cells ⟨b1, o1, none⟩ cs1).pred w0 S) (hr1 : GoTy.rep w0 S cs1 cap) (hF : impl_assignedTo_c1c1 fu k' cap = some r) :
    Calls Tryz.prog 141 [v0_, (.pointer (some ⟨b1, o1, none⟩))].toArray w0 fun e w' => ∃ v, e = .returned v ∧ (Below w0.heap.size w0 w' ∧ VR w' (St ⟨w0, []⟩ S [] [] [] true) v r) := by
 obtain rfl := VR_int h0
 obtain rfl := hr1
 have H := Mem.start ⟨w0, []⟩ S
 have H := H.pushArg (MP.cells ⟨b1, o1, none⟩ [(.int .i64 cap)]) hp1
 refine en Tryz.func141 fun a hf => ?_
 rw [impl_assignedTo_c1c1] at hF
 refine sqz (pz 1 hf fun a hf => ?_)
 refine wr (pz 1 hf fun a hf => ?_)
 refine oq hf (rq_loadI hf H TF.ls3 0 0 rfl rfl rfl) fun a hf => ?_
 refine pz 2 hf fun a hf => ?_
 refine wer ?_
 obtain rfl := oi hF
 refine rT hf ?_
 exact ⟨_, rfl, H.bel, mk_bool⟩
theorem impl_isFree_of_assignedTo_c1c1_ok {S : Nat → Prop} {v0_ : Value} {v1_ : Value} {v2_ : Value} {v3_ : Value} {b4_0 o4_0 : Nat} {cs4_0 : List Value} {list : List Request} {blocks : List Block} {i : Int} {b6 : Block} {cap : Int} {r : Bool} (h0 : VR w0 S v0_ list) (h1 : VR w0 S v1_ blocks) (h2 : VR w0 S v2_ i) (h3 : VR w0 S v3_ b6) (hp4_0 : (MP.cells ⟨b4_0, o4_0, none⟩ cs4_0).pred w0 S) (hr4_0 : GoTy.rep w0 S cs4_0 cap) (hF : impl_isFree_of_assignedTo_c1c1 fu list blocks i b6 cap = some r) :
    Calls Tryz.prog 72 [v0_, v1_, v2_, v3_, (.func (.func 141) #[] #[(.pointer (some ⟨b4_0, o4_0, none⟩))])].toArray w0 fun e w' => ∃ v, e = .returned v ∧ (Below w0.heap.size w0 w' ∧ VR w' (St ⟨w0, []⟩ S [] [] [] true) v r) := by
 obtain ⟨A, c, rfl, hl⟩ := VR_list h0
 obtain ⟨A2, c2, rfl, hl2⟩ := VR_list h1
 obtain rfl := VR_int h2
 obtain rfl := Block_open h3
 obtain rfl := hr4_0
 have H := Mem.start ⟨w0, []⟩ S
 have H := H.pA hl
 have H := H.pA hl2
 have H := H.pushArg (MP.cells ⟨b4_0, o4_0, none⟩ [(.int .i64 cap)]) hp4_0
 refine en Tryz.func72 fun a hf => ?_
 rw [impl_isFree_of_assignedTo_c1c1] at hF
 refine bx hf H fun b7 a w hf H => ?_
 refine pz 1 hf fun a hf => ?_
 refine we (sqz (pz 3 hf fun a hf => ?_))
 refine wl_end (then_n ?_)
 obtain ⟨out', hB1, hF⟩ := bs_ hF
 have hf := hf.pn [0, 1, 2, 4, 8, 13, 14]
 have H := H.lt_ [true] [] [] [0, 1, 2]
 refine loopC (fun (s : Int) (a : Act) (w : World) => match s with | i2 => Fr a 48 [(0, (.slice A list.length c)), (1, (.slice A2 blocks.length c2)), (2, (.int .i64 i)), (4, (.func (.func 141) #[] #[(.pointer (some ⟨b4_0, o4_0 + 0, none⟩))])), (8, (.pointer (some ⟨b7, 0, none⟩))), (13, (.int .i64 (list.length : Int))), (14, (.int .i64 i2))] ∧ Mem ⟨w0, []⟩ S [⟨b7, 71, [(.int .i64 b6.First), (.int .i64 b6.Count)]⟩] [] [] [(false, MP.cells ⟨b4_0, o4_0, none⟩ [(.int .i64 cap)]), (false, MP.val [(.slice A2 blocks.length c2)] (blocks : List Block)), (false, MP.val [(.slice A list.length c)] (list : List Request))] w) (fun k (s : Int) => impl_isFree_of_assignedTo_c1c1_L1 fu list blocks i b6 cap k s = some out') (fun s => out' = Out.next s) 0 fu hB1 ⟨hf, H⟩ (fun s h => by cases h) ?_ ?_
 ·rintro fk i2 a w hR1 hI
  replace hR1 : impl_isFree_of_assignedTo_c1c1_L1 fu list blocks i b6 cap (fk + 1) i2 = some out' := hR1
  rw [impl_isFree_of_assignedTo_c1c1_L1] at hR1
  obtain ⟨hf, H⟩ := hI
  refine sqz (pz 1 hf fun a hf => ?_)
  refine wl_end (then_n (sq (ib hR1 hf (fun hc hR1 => ?_) fun hc hR1 => ?_)))
  ·refine ws (pz 2 hf fun a hf => ?_)
   refine wl_end (then_n (sq ?_))
   obtain ⟨c3, hGc3, hR1⟩ := bs_ hR1
   have fh := hf.prune [0, 1, 2, 4, 8, 13, 14] rfl
   have Hm := H.lt_ [true] [] [] [0, 1, 2]
   refine midF 46 (.bool c3) fh Hm ?_ fun a w hf H => ?_
   ·refine dw [] 30 fun w hb => ?_
    have H := H.keep hb
    refine zp 0 hf trivial fun a hf => ?_
    refine zp 1 hf trivial fun a hf => ?_
    refine zp 2 hf trivial fun a hf => ?_
    refine zp 3 hf trivial fun a hf => ?_
    refine iteB hGc3 (fun hc2 hGc3 => ?_) fun hc2 hGc3 => ?_
    ·have hf := hf.lit 20 rfl hc2
     refine zg 4 hf trivial fun a hf => ?_
     refine zg 5 hf trivial fun a hf => ?_
     obtain ⟨y, hy, hGc3⟩ := bs_ hGc3
     refine n1g 6 (by kernel_rfl) rfl rfl rfl rfl hf (op_callV hf TF.cl141 rfl rfl (by decide) (impl_assignedTo_c1c1_ok (S := TT) mk_int (mp_true (H.get 0 rfl)) (rfl) hy) fun v w a hp6 hf => ?_)
     obtain ⟨hb, hp6⟩ := hp6
     obtain rfl := VR_bool hp6
     have H := H.keep hb
     refine ⟨fun _ => trivial, ?_⟩
     refine zp 7 hf trivial fun a hf => ?_
     refine zp 8 hf trivial fun a hf => ?_
     refine iteB hGc3 (fun hc3 hGc3 => ?_) fun hc3 hGc3 => ?_
     ·have hf := hf.lit 25 rfl hc3
      refine zg 9 hf trivial fun a hf => ?_
      refine zg 10 hf trivial fun a hf => ?_
      obtain ⟨e, he, hGc3⟩ := bs_ hGc3
      obtain ⟨p, o6, cs6, hx, hr6, H⟩ := pre_iaddr H Tryz.underlying46 TF.sz61 2 rfl he
      refine tPg 11 rfl rfl rfl rfl rfl rfl hf (by kernel_rfl) (fun _ => trivial) (fun w => rq_iaddrE hf rfl rfl rfl hx w) fun a hf => ?_
      obtain ⟨A3, c4, rfl, hl3⟩ := Request_cells hr6
      have H := H.pF hl3
      refine strT (H.lt_ [false] [] [] [1]) (fun w H => trivial) fun hS => ?_
      refine tSg 12 [] rfl rfl rfl rfl rfl rfl hf (by kernel_rfl) (by kernel_rfl) hS (fun w H => rq_loadIN hf H TF.la61 0 0 rfl rfl rfl rfl) fun a hf => ?_
      refine zg 13 hf hS fun a hf => ?_
      refine zg 14 hf hS fun a hf => ?_
      obtain ⟨e2, he2, hGc3⟩ := bs_ hGc3
      obtain ⟨p2, o7, cs7, hx2, hr7, H⟩ := pre_iaddr H Tryz.underlying46 TF.sz61 4 rfl he2
      refine tPg 15 rfl rfl rfl rfl rfl rfl hf (by kernel_rfl) (fun _ => hS) (fun w => rq_iaddrE hf rfl rfl rfl hx2 w) fun a hf => ?_
      obtain ⟨A4, c5, rfl, hl4⟩ := Request_cells hr7
      have H := H.pF hl4
      refine strT (H.lt_ [false] [] [] [1, 3]) (fun w H => H.lt_ [] [] [] [1]) fun hS => ?_
      refine tSg 16 [] rfl rfl rfl rfl rfl rfl hf (by kernel_rfl) (by kernel_rfl) hS (fun w H => rq_loadIN hf H TF.la61 0 0 rfl rfl rfl rfl) fun a hf => ?_
      obtain ⟨y2, hy2, hGc3⟩ := bs_ hGc3
      refine n1g 17 (by kernel_rfl) rfl rfl rfl rfl hf (oC hf TF.cl143 (impl_conflict_ok (S := TT) (Request_mkv (x := e) (H.rt 2 rfl)) (Request_mkv (x := e2) (H.rt 0 rfl)) hy2) fun v2 w a hp7 hf => ?_)
      obtain ⟨hb2, hp7⟩ := hp7
      obtain rfl := VR_bool hp7
      have H := H.keep hb2
      have hS := H.lt_ [false] [] [] [1, 3]
      refine aS hS ?_
      refine zp 18 hf hS fun a hf => ?_
      refine zp 19 hf hS fun a hf => ?_
      refine iteB hGc3 (fun hc4 hGc3 => ?_) fun hc4 hGc3 => ?_
      ·have hf := hf.lit 36 rfl hc4
       refine strT (H.lt_ [true] [] [] [1, 3]) (fun w H => H.lt_ [false] [] [] [0, 1]) fun hS => ?_
       refine tSg 20 [] rfl rfl rfl rfl rfl rfl hf (by kernel_rfl) (by kernel_rfl) hS (fun w H => rq_loadBN hf H TF.la71 0 rfl rfl rfl rfl) fun a hf => ?_
       refine zg 22 hf hS fun a hf => ?_
       refine zg 23 hf hS fun a hf => ?_
       obtain ⟨e3, he3, hGc3⟩ := bs_ hGc3
       obtain ⟨p3, o8, cs8, hx3, hr8, H⟩ := pre_iaddr H Tryz.underlying50 TF.sz71 5 rfl he3
       refine tPg 24 rfl rfl rfl rfl rfl rfl hf (by kernel_rfl) (fun _ => hS) (fun w => rq_iaddrE hf rfl rfl rfl hx3 w) fun a hf => ?_
       obtain rfl := Block_cells hr8
       refine strT (H.lt_ [true] [] [] [0, 2, 4]) (fun w H => H.lt_ [true] [] [] [1, 2]) fun hS => ?_
       refine tSg 25 [] rfl rfl rfl rfl rfl rfl hf (by kernel_rfl) (by kernel_rfl) hS (fun w H => rq_loadIN hf H TF.la71 0 0 rfl rfl rfl rfl) fun a hf => ?_
       obtain ⟨y3, hy3, hGc3⟩ := bs_ hGc3
       refine n1g 21 (by kernel_rfl) rfl rfl rfl rfl hf (oC hf TF.cl144 (impl_maskOf_ok (S := TT) Block_mkv hy3) fun v3 w a hp8 hf => ?_)
       obtain ⟨hb3, hp8⟩ := hp8
       obtain rfl := VR_int hp8
       have H := H.keep hb3
       have hS := H.lt_ [true] [] [] [0, 2, 4]
       refine aS hS ?_
       obtain ⟨y4, hy4, hGc3⟩ := bs_ hGc3
       refine n1g 26 (by kernel_rfl) rfl rfl rfl rfl hf (oC hf TF.cl144 (impl_maskOf_ok (S := TT) Block_mkv hy4) fun v4 w a hp9 hf => ?_)
       obtain ⟨hb4, hp9⟩ := hp9
       obtain rfl := VR_int hp9
       have H := H.keep hb4
       have hS := H.lt_ [true] [] [] [0, 2, 4]
       refine aS hS ?_
       refine zg 27 hf hS fun a hf => ?_
       refine zg 28 hf hS fun a hf => ?_
       refine zp 29 hf hS fun a hf => ?_
       refine dk ?_
       obtain rfl := oi hGc3
       have hf := hf.pn [46, 0, 1, 2, 4, 8, 13, 14]
       have H := H.lt_ [true] [] [] [5, 6, 7]
       exact ⟨hf, H⟩
      ·have hf := hf.lit 36 rfl hc4
       refine zU 20 hf hS fun a hf => ?_
       refine zU 21 hf hS fun a hf => ?_
       refine zU 22 hf hS fun a hf => ?_
       refine zU 23 hf hS fun a hf => ?_
       refine zU 24 hf hS fun a hf => ?_
       refine zU 25 hf hS fun a hf => ?_
       refine zU 26 hf hS fun a hf => ?_
       refine zU 27 hf hS fun a hf => ?_
       refine zU 28 hf hS fun a hf => ?_
       refine zp 29 hf hS fun a hf => ?_
       refine dk ?_
       obtain rfl := oi hGc3
       have hf := hf.pn [46, 0, 1, 2, 4, 8, 13, 14]
       have H := H.lt_ [true] [] [] [4, 5, 6]
       exact ⟨hf, H⟩
     ·have hf := hf.lit 25 rfl hc3
      refine zU 9 hf trivial fun a hf => ?_
      refine zU 10 hf trivial fun a hf => ?_
      refine zU 11 hf trivial fun a hf => ?_
      refine zU 12 hf trivial fun a hf => ?_
      refine zU 13 hf trivial fun a hf => ?_
      refine zU 14 hf trivial fun a hf => ?_
      refine zU 15 hf trivial fun a hf => ?_
      refine zU 16 hf trivial fun a hf => ?_
      refine zU 17 hf trivial fun a hf => ?_
      refine zp 18 hf trivial fun a hf => ?_
      refine zp 19 hf trivial fun a hf => ?_
      refine zU 20 hf trivial fun a hf => ?_
      refine zU 21 hf trivial fun a hf => ?_
      refine zU 22 hf trivial fun a hf => ?_
      refine zU 23 hf trivial fun a hf => ?_
      refine zU 24 hf trivial fun a hf => ?_
      refine zU 25 hf trivial fun a hf => ?_
      refine zU 26 hf trivial fun a hf => ?_
      refine zU 27 hf trivial fun a hf => ?_
      refine zU 28 hf trivial fun a hf => ?_
      refine zp 29 hf trivial fun a hf => ?_
      refine dk ?_
      obtain rfl := oi hGc3
      have hf := hf.pn [46, 0, 1, 2, 4, 8, 13, 14]
      have H := H.lt_ [true] [] [] [0, 1, 2]
      exact ⟨hf, H⟩
    ·have hf := hf.lit 20 rfl hc2
     refine zU 4 hf trivial fun a hf => ?_
     refine zU 5 hf trivial fun a hf => ?_
     refine zU 6 hf trivial fun a hf => ?_
     refine zp 7 hf trivial fun a hf => ?_
     refine zp 8 hf trivial fun a hf => ?_
     refine zU 9 hf trivial fun a hf => ?_
     refine zU 10 hf trivial fun a hf => ?_
     refine zU 11 hf trivial fun a hf => ?_
     refine zU 12 hf trivial fun a hf => ?_
     refine zU 13 hf trivial fun a hf => ?_
     refine zU 14 hf trivial fun a hf => ?_
     refine zU 15 hf trivial fun a hf => ?_
     refine zU 16 hf trivial fun a hf => ?_
     refine zU 17 hf trivial fun a hf => ?_
     refine zp 18 hf trivial fun a hf => ?_
     refine zp 19 hf trivial fun a hf => ?_
     refine zU 20 hf trivial fun a hf => ?_
     refine zU 21 hf trivial fun a hf => ?_
     refine zU 22 hf trivial fun a hf => ?_
     refine zU 23 hf trivial fun a hf => ?_
     refine zU 24 hf trivial fun a hf => ?_
     refine zU 25 hf trivial fun a hf => ?_
     refine zU 26 hf trivial fun a hf => ?_
     refine zU 27 hf trivial fun a hf => ?_
     refine zU 28 hf trivial fun a hf => ?_
     refine zp 29 hf trivial fun a hf => ?_
     refine dk ?_
     obtain rfl := oi hGc3
     have hf := hf.pn [46, 0, 1, 2, 4, 8, 13, 14]
     have H := H.lt_ [true] [] [] [0, 1, 2]
     exact ⟨hf, H⟩
   refine then_n (ib hR1 hf (fun hc5 hR1 => ?_) fun hc5 hR1 => ?_)
   ·refine sqz (pz 1 hf fun a hf => ?_)
    refine wl_end (then_n (wp_ret (blk_r (then_r (then_r (blk_r (then_r (then_r (?_)))))))))
    obtain rfl := oi hR1
    replace hF := on_ret hF
    obtain rfl := oi hF
    refine rT hf ?_
    exact ⟨_, rfl, H.bel, mk_bool⟩
   ·refine wp_skip (blk_n (then_n (reg (pz 2 hf fun a hf => ?_))))
    refine wl_end ?_
    have hf := hf.pn [0, 1, 2, 4, 8, 13, 14]
    have H := H.lt_ [true] [] [] [0, 1, 2]
    exact then_n ⟨w64 (i2 + 1), hR1, hf, H⟩
  ·refine wp_exit (then_x (then_x (blk_e (?_))))
   have hf := hf.pn [0, 1, 2, 4, 8, 13, 14]
   have H := H.lt_ [true] [] [] [0, 1, 2]
   exact ⟨i2, (Option.some.inj hR1).symm, hf, H⟩
 rintro a w ⟨i3, rfl, hf, H⟩
 replace hF := on_next hF
 refine then_n (sqz (pz 1 hf fun a hf => ?_))
 refine wer ?_
 obtain rfl := oi hF
 refine rT hf ?_
 exact ⟨_, rfl, H.bel, mk_bool⟩
theorem impl_assignedTo_c1_B_ok {fu : Nat} {rec_ : (List Block) → (List Request) → (Int) → Option (Bool × List Block)} (ih : ∀ {w0 : World} {S : Nat → Prop} {b0 : Nat} {cs0 : List Value} {F0 : List Nat} {b1 o1 : Nat} {cs1 : List Value} {b2 o2 : Nat} {cs2 : List Value} {b3 o3 : Nat} {cap : List Block} {cap2 : List Request} {cap3 : Int} {r : Bool × List Block} (hp0 : w0.heap[b0]? = some (.cells cs0.toArray 50 (0, 0))) (hr0 : GoTy.own w0 F0 cs0 cap) (hn0 : List.Nodup (List.cons b0 F0)) (hS0 : ∀ c ∈ List.cons b0 F0, ¬ S c) (hp1 : (MP.cells ⟨b1, o1, none⟩ cs1).pred w0 S) (hr1 : GoTy.rep w0 S cs1 cap2) (hp2 : (MP.cells ⟨b2, o2, none⟩ cs2).pred w0 S) (hr2 : GoTy.rep w0 S cs2 cap3) (hp3 : (MP.cells ⟨b3, o3, none⟩ [.func (.func 140) #[] #[(.pointer (some ⟨b0, 0, none⟩)), (.pointer (some ⟨b1, o1, none⟩)), (.pointer (some ⟨b2, o2, none⟩)), (.pointer (some ⟨b3, o3, none⟩))]]).pred w0 S) (hF : rec_ cap cap2 cap3 = some r), Calls Tryz.prog 140 [(.pointer (some ⟨b0, 0, none⟩)), (.pointer (some ⟨b1, o1, none⟩)), (.pointer (some ⟨b2, o2, none⟩)), (.pointer (some ⟨b3, o3, none⟩))].toArray w0 fun e w' => ∃ v, e = .returned v ∧ (Chg w0 w' (b0 :: F0) ∧ ∃ cs' F', w'.heap[b0]? = some (.cells cs'.toArray 50 (0, 0)) ∧ GoTy.own w' F' cs' r.2 ∧ Back w0 w' F0 F' ∧ b0 ∉ F' ∧ VR w' (fun _ => True) v r.1)) {w0 : World} {S : Nat → Prop} {b0 : Nat} {cs0 : List Value} {F0 : List Nat} {b1 o1 : Nat} {cs1 : List Value} {b2 o2 : Nat} {cs2 : List Value} {b3 o3 : Nat} {cap : List Block} {cap2 : List Request} {cap3 : Int} {r : Bool × List Block} (hp0 : w0.heap[b0]? = some (.cells cs0.toArray 50 (0, 0))) (hr0 : GoTy.own w0 F0 cs0 cap) (hn0 : List.Nodup (List.cons b0 F0)) (hS0 : ∀ c ∈ List.cons b0 F0, ¬ S c) (hp1 : (MP.cells ⟨b1, o1, none⟩ cs1).pred w0 S) (hr1 : GoTy.rep w0 S cs1 cap2) (hp2 : (MP.cells ⟨b2, o2, none⟩ cs2).pred w0 S) (hr2 : GoTy.rep w0 S cs2 cap3) (hp3 : (MP.cells ⟨b3, o3, none⟩ [.func (.func 140) #[] #[(.pointer (some ⟨b0, 0, none⟩)), (.pointer (some ⟨b1, o1, none⟩)), (.pointer (some ⟨b2, o2, none⟩)), (.pointer (some ⟨b3, o3, none⟩))]]).pred w0 S) (hF : impl_assignedTo_c1_B fu rec_ cap cap2 cap3 = some r) :
    Calls Tryz.prog 140 [(.pointer (some ⟨b0, 0, none⟩)), (.pointer (some ⟨b1, o1, none⟩)), (.pointer (some ⟨b2, o2, none⟩)), (.pointer (some ⟨b3, o3, none⟩))].toArray w0 fun e w' => ∃ v, e = .returned v ∧ (Chg w0 w' (b0 :: F0) ∧ ∃ cs' F', w'.heap[b0]? = some (.cells cs'.toArray 50 (0, 0)) ∧ GoTy.own w' F' cs' r.2 ∧ Back w0 w' F0 F' ∧ b0 ∉ F' ∧ VR w' (fun _ => True) v r.1) := by
 obtain ⟨A, c, rfl, hl⟩ := list_cells hr1
 obtain rfl := hr2
 obtain ⟨A2, c2, rfl, hr0⟩ := own_list hr0
 have H := Mem.startBO S hp0 (show GoTy.own w0 F0 [.slice A2 cap.length c2] cap from hr0) hn0
 have H := H.lend 0 rfl
 have H := H.argB hS0 (p := MP.val [(.slice A cap2.length c)] cap2) hl
 have H := H.argB hS0 (p := MP.cells ⟨b1, o1, none⟩ [(.slice A cap2.length c)]) hp1
 have H := H.argB hS0 (p := MP.cells ⟨b2, o2, none⟩ [(.int .i64 cap3)]) hp2
 have H := H.argB hS0 (p := MP.cells ⟨b3, o3, none⟩ [(.func (.func 140) #[] #[(.pointer (some ⟨b0, 0, none⟩)), (.pointer (some ⟨b1, o1 + 0, none⟩)), (.pointer (some ⟨b2, o2 + 0, none⟩)), (.pointer (some ⟨b3, o3 + 0, none⟩))])]) hp3
 refine en Tryz.func140 fun a hf => ?_
 rw [impl_assignedTo_c1_B] at hF
 refine sqz (pz 1 hf fun a hf => ?_)
 refine wr (lB 0 hf H TF.ls50 fun a hf => ?_)
 refine pz 1 hf fun a hf => ?_
 refine aL hf H TF.zv3 fun b5 a w hf H => ?_
 refine sB 0 hf H TF.sz3 fun w H => ?_
 refine wl_end (then_n (sq (sq (reg (lB 0 hf H TF.ls3 fun a hf => ?_)))))
 refine oq hf (rq_loadI hf H TF.ls46 2 0 rfl rfl rfl) fun a hf => ?_
 refine pz 2 hf fun a hf => ?_
 refine wl_end (then_n (ib hF hf (fun hc hF => ?_) fun hc hF => ?_))
 ·refine sqz (pz 1 hf fun a hf => ?_)
  refine wl_end (then_n (wp_ret (then_r (?_))))
  obtain rfl := oi hF
  refine rT hf ?_
  exact ⟨_, rfl, H.chg, _, _, H.boxAt 1 rfl, H.ownAt 0 rfl, (H.endBO 1 rfl).1, (H.endBO 1 rfl).2, mk_bool⟩
 ·refine wp_skip (then_n (sq (sqz (pz 1 hf fun a hf => ?_))))
  refine wl_end (then_n ?_)
  obtain ⟨Fs, E2, H, -⟩ := H.thaw rfl
  have H := H.rowSh 0 rfl
  have H := H.argB hS0 (p := MP.val [(.slice A cap2.length c)] cap2) hl
  have H := H.argB hS0 (p := MP.cells ⟨b1, o1, none⟩ [(.slice A cap2.length c)]) hp1
  have H := H.argB hS0 (p := MP.cells ⟨b2, o2, none⟩ [(.int .i64 cap3)]) hp2
  have H := H.argB hS0 (p := MP.cells ⟨b3, o3, none⟩ [(.func (.func 140) #[] #[(.pointer (some ⟨b0, 0, none⟩)), (.pointer (some ⟨b1, o1 + 0, none⟩)), (.pointer (some ⟨b2, o2 + 0, none⟩)), (.pointer (some ⟨b3, o3 + 0, none⟩))])]) hp3
  obtain ⟨out', hB1, hF⟩ := bs_ hF
  have hf := hf.pn [0, 1, 2, 3, 5, 6]
  have H := H.lt_ [true, true] [true] [] [0, 1, 2, 3]
  refine loopC (fun (s : Int × List Block) (a : Act) (w : World) => match s with | (first, m) => ∃ (A3 : Option Addr) (c3 : Nat) (E : Go.TypeId), Fr a 48 [(0, (.pointer (some ⟨b0, 0, none⟩))), (1, (.pointer (some ⟨b1, o1 + 0, none⟩))), (2, (.pointer (some ⟨b2, o2 + 0, none⟩))), (3, (.pointer (some ⟨b3, o3 + 0, none⟩))), (5, (.pointer (some ⟨b5, 0, none⟩))), (6, (.int .i64 first))] ∧ Mem ⟨w0, b0 :: F0⟩ S [⟨b5, 3, [(.int .i64 (cap.length : Int))]⟩, ⟨b0, 50, [(.slice A3 m.length c3)]⟩] [⟨.sh true, E, A3, c3, (m : List Block)⟩] [] [(false, MP.cells ⟨b3, o3, none⟩ [(.func (.func 140) #[] #[(.pointer (some ⟨b0, 0, none⟩)), (.pointer (some ⟨b1, o1 + 0, none⟩)), (.pointer (some ⟨b2, o2 + 0, none⟩)), (.pointer (some ⟨b3, o3 + 0, none⟩))])]), (false, MP.cells ⟨b2, o2, none⟩ [(.int .i64 cap3)]), (false, MP.cells ⟨b1, o1, none⟩ [(.slice A cap2.length c)]), (false, MP.val [(.slice A cap2.length c)] (cap2 : List Request))] w) (fun k (s : Int × List Block) => impl_assignedTo_c1_L1 fu cap cap2 cap3 rec_ k s.1 s.2 = some out') (fun s => out' = Out.next s) (0, cap) fu hB1 ⟨A2, c2, E2, hf, H⟩ (fun s h => by cases h) ?_ ?_
  ·rintro fk ⟨first, m⟩ a w hR1 hI
   replace hR1 : impl_assignedTo_c1_L1 fu cap cap2 cap3 rec_ (fk + 1) first m = some out' := hR1
   rw [impl_assignedTo_c1_L1] at hR1
   obtain ⟨A3, c3, E, hf, H⟩ := hI
   refine sq (sq (dw [] 9 fun w hb => ?_))
   have H := H.keep hb
   refine zp 0 hf trivial fun a hf => ?_
   refine strT (H.lt_ [false, false] [false] [] [2]) (fun w H => trivial) fun hS => ?_
   refine zS 1 [] rfl rfl rfl rfl hf hS (fun w H => rq_loadI hf H TF.ls46 0 0 rfl rfl rfl) fun a hf => ?_
   refine strT (H.lt_ [true, false] [false] [] [2]) (fun w H => H.lt_ [false] [] [] [0]) fun hS => ?_
   refine zS 2 [] rfl rfl rfl rfl hf hS (fun w H => rq_loadB hf H TF.ls3 0 rfl rfl rfl) fun a hf => ?_
   obtain ⟨e, he, hR1⟩ := bs_ hR1
   obtain ⟨p, o5, cs5, hx, hr5, H⟩ := pre_iaddr H Tryz.underlying46 TF.sz61 3 rfl he
   refine zP 3 rfl rfl rfl rfl hf hS (fun w => rq_iaddrE hf rfl rfl rfl hx w) fun a hf => ?_
   obtain ⟨A4, c4, rfl, hl2⟩ := Request_cells hr5
   have H := H.pF hl2
   refine zp 4 hf hS fun a hf => ?_
   refine strT (H.lt_ [true, false] [false] [] [1, 4]) (fun w H => H.lt_ [true] [] [] [1]) fun hS => ?_
   refine zS 5 [] rfl rfl rfl rfl hf hS (fun w H => rq_loadI hf H TF.ls3 0 2 rfl rfl rfl) fun a hf => ?_
   refine zp 6 hf hS fun a hf => ?_
   refine strT (H.lt_ [true, false] [false] [] [1, 3, 4]) (fun w H => H.lt_ [true] [] [] [0, 2]) fun hS => ?_
   refine zS 7 [] rfl rfl rfl rfl hf hS (fun w H => rq_loadI hf H TF.ls3 1 0 rfl rfl rfl) fun a hf => ?_
   refine zp 8 hf hS fun a hf => ?_
   refine dk ?_
   refine then_n (ib hR1 hf (fun hc2 hR1 => ?_) fun hc2 hR1 => ?_)
   ·refine ws (pz 1 hf fun a hf => ?_)
    refine oq hf (rq_loadI hf H TF.ls46 4 0 rfl rfl rfl) fun a hf => ?_
    refine lB 0 hf H TF.ls3 fun a hf => ?_
    obtain ⟨e2, he2, hR1⟩ := bs_ hR1
    refine wl0 rfl (op_iaddr hf H Tryz.underlying46 TF.sz61 5 rfl rfl rfl he2 (by decide) fun p2 o6 cs6 a hf hr6 H => ?_)
    obtain ⟨A5, c5, rfl, hl3⟩ := Request_cells hr6
    have H := H.pF hl3
    refine pz 1 hf fun a hf => ?_
    refine oq hf (rq_loadI hf H TF.ls3 1 2 rfl rfl rfl) fun a hf => ?_
    refine oq hf (rq_build hf (cs := [(.int .i64 first), (.int .i64 e2.Count)]) rfl (fun w => by kernel_rfl)) fun a hf => ?_
    refine aL hf H TF.zv71 fun b6 a w hf H => ?_
    refine sB 0 hf H TF.sz71 fun w H => ?_
    have hf := hf.pn [0, 1, 2, 3, 5, 6, 7]
    refine wl_end (then_n (sq (sq (reg (oq hf (rq_loadI hf H TF.ls46 6 0 rfl rfl rfl) fun a hf => ?_)))))
    refine lB 2 hf H TF.ls50 fun a hf => ?_
    refine lB 1 hf H TF.ls3 fun a hf => ?_
    refine lN 0 hf H TF.la71 fun a hf => ?_
    refine oq hf (rq_makeFunc hf rfl) fun a hf => ?_
    obtain ⟨y, hy, hR1⟩ := bs_ hR1
    refine oc hf TF.cl72 (impl_isFree_of_assignedTo_c1c1_ok (S := TT) (mk_list (H.rt 7 rfl)) (mk_list (H.rowTrue 0 rfl)) mk_int Block_mkv (H.boxTrue 1 rfl) (rfl) hy) fun v w a hp5 hf => ?_
    obtain ⟨hb, hp5⟩ := hp5
    obtain rfl := VR_bool hp5
    have H := H.keep hb
    refine pz 1 hf fun a hf => ?_
    refine wl_end (then_n (ib hR1 hf (fun hc3 hR1 => ?_) fun hc3 hR1 => ?_))
    ·refine wp_exit (then_x (blk_e (?_)))
     refine then_n (reg (pz 3 hf fun a hf => ?_))
     refine wl_end ?_
     have hf := hf.pn [0, 1, 2, 3, 5, 6]
     have H := H.lt_ [false, true, true] [true] [] [4, 5, 6, 7]
     exact then_n ⟨(w64 (first + 1), m), hR1, A3, c3, E, hf, H⟩
    ·refine wp_skip (then_n (sq (reg (lB 2 hf H TF.ls50 fun a hf => ?_))))
     refine lN 0 hf H TF.la71 fun a hf => ?_
     refine wl0 rfl (bl hf H 71 ([({ First := first, Count := e2.Count } : Block)] : List Block) [(.int .i64 first), (.int .i64 e2.Count)] (el1 (y := ({ First := first, Count := e2.Count } : Block)) ((Block_mk (x := ({ First := first, Count := e2.Count } : Block))))) fun A6 a w hf H => ?_)
     obtain ⟨l, hl_, hR1⟩ := bs_ hR1
     refine wl0 rfl (op_appR hf H Tryz.underlying50 TF.ai71 rfl (by decide) 1 0 rfl rfl rfl rfl (.inr rfl) hl_ (by decide) fun E3 A7 c6 a w hf H => ?_)
     refine sB 2 hf H TF.sz50 fun w H => ?_
     refine wl_end (then_n (sq (sq (reg (oq hf (rq_loadI hf H TF.ls170 4 0 rfl rfl rfl) fun a hf => ?_)))))
     have H := H.rowOwn 1 rfl rfl
     obtain ⟨F2, H⟩ := H.freezeOwn 1 rfl
     have H := H.lend 0 rfl
     obtain ⟨y2, hy2, hR1⟩ := bs_ hR1
     refine wl0 rfl (op_callV hf TF.cl140 rfl rfl (by decide) (ih (S := NF b0 F2) (H.boxAt 2 rfl) (H.ownAt 0 rfl) (H.boNd 2 rfl) (fun _ h1 h2 => h2 h1) (H.argN 2 rfl hS0 hp1) (H.argNv 2 rfl hS0 (α := List Request) hl) (H.argN 2 rfl hS0 hp2) (rfl) (H.argN 2 rfl hS0 hp3) hy2) fun v2 w a hp6 hf => ?_)
     obtain ⟨hch, cs7, F3, hbx, ho, hbk, hbF, hv⟩ := hp6
     obtain ⟨A8, c7, rfl, ho⟩ := own_list ho
     have H := H.wroteBO 2 rfl rfl hch hbx ho hbk hbF
     have H := H.argB hS0 (p := MP.val [(.slice A cap2.length c)] cap2) hl
     have H := H.argB hS0 (p := MP.cells ⟨b1, o1, none⟩ [(.slice A cap2.length c)]) hp1
     have H := H.argB hS0 (p := MP.cells ⟨b2, o2, none⟩ [(.int .i64 cap3)]) hp2
     have H := H.argB hS0 (p := MP.cells ⟨b3, o3, none⟩ [(.func (.func 140) #[] #[(.pointer (some ⟨b0, 0, none⟩)), (.pointer (some ⟨b1, o1 + 0, none⟩)), (.pointer (some ⟨b2, o2 + 0, none⟩)), (.pointer (some ⟨b3, o3 + 0, none⟩))])]) hp3
     have H := H.lend 0 rfl
     obtain rfl := VR_bool hv
     have hf := hf.pn [0, 1, 2, 3, 5, 6, 44]
     refine wl_end (then_n (ib hR1 hf (fun hc4 hR1 => ?_) fun hc4 hR1 => ?_))
     ·refine sqz (pz 1 hf fun a hf => ?_)
      refine wl_end (then_n (wp_ret (then_r (blk_r (then_r (then_r (blk_r (then_r (then_r (?_))))))))))
      obtain rfl := oi hR1
      replace hF := on_ret hF
      obtain rfl := oi hF
      refine rT hf ?_
      exact ⟨_, rfl, H.chg, _, _, H.boxAt 2 rfl, H.ownAt 0 rfl, (H.endBO 2 rfl).1, (H.endBO 2 rfl).2, mk_bool⟩
     ·refine wp_skip (then_n (reg (lB 2 hf H TF.ls50 fun a hf => ?_)))
      refine lB 1 hf H TF.ls3 fun a hf => ?_
      obtain ⟨Fs2, E4, H, -⟩ := H.thaw rfl
      have H := H.rowSh 0 rfl
      have H := H.argB hS0 (p := MP.val [(.slice A cap2.length c)] cap2) hl
      have H := H.argB hS0 (p := MP.cells ⟨b1, o1, none⟩ [(.slice A cap2.length c)]) hp1
      have H := H.argB hS0 (p := MP.cells ⟨b2, o2, none⟩ [(.int .i64 cap3)]) hp2
      have H := H.argB hS0 (p := MP.cells ⟨b3, o3, none⟩ [(.func (.func 140) #[] #[(.pointer (some ⟨b0, 0, none⟩)), (.pointer (some ⟨b1, o1 + 0, none⟩)), (.pointer (some ⟨b2, o2 + 0, none⟩)), (.pointer (some ⟨b3, o3 + 0, none⟩))])]) hp3
      obtain ⟨l2, hl2_, hR1⟩ := bs_ hR1
      refine wl0 rfl (op_sliceR hf H Tryz.underlying50 TF.sz71 0 rfl rfl rfl (.inl rfl) (.inr rfl) rfl hl2_ (by decide) fun a hf H => ?_)
      refine sB 2 hf H TF.sz50 fun w H => ?_
      refine wl_end (blk_n (then_n (reg (pz 3 hf fun a hf => ?_))))
      refine wl_end ?_
      have hf := hf.pn [0, 1, 2, 3, 5, 6]
      have H := H.lt_ [false, true, true] [true, false] [] [0, 1, 2, 3]
      exact then_n ⟨(w64 (first + 1), l2), hR1, A8, c7, E4, hf, H⟩
   ·refine wp_exit (then_x (then_x (blk_e (?_))))
    have hf := hf.pn [0, 1, 2, 3, 5, 6]
    have H := H.lt_ [true, true] [true] [] [2, 3, 4, 5]
    exact ⟨(first, m), (Option.some.inj hR1).symm, A3, c3, E, hf, H⟩
  rintro a w ⟨⟨first2, m2⟩, rfl, A9, c8, E5, hf, H⟩
  replace hF := on_next hF
  try dsimp only at hF
  refine then_n (sqz (pz 1 hf fun a hf => ?_))
  refine wer ?_
  have H := H.rowOwn 0 rfl rfl
  obtain ⟨F4, H⟩ := H.freezeOwn 0 rfl
  have H := H.lend 0 rfl
  obtain rfl := oi hF
  refine rT hf ?_
  exact ⟨_, rfl, H.chg, _, _, H.boxAt 1 rfl, H.ownAt 0 rfl, (H.endBO 1 rfl).1, (H.endBO 1 rfl).2, mk_bool⟩
theorem impl_assignedTo_c1_ok {fu : Nat} : ∀ {w0 : World} {S : Nat → Prop} {b0 : Nat} {cs0 : List Value} {F0 : List Nat} {b1 o1 : Nat} {cs1 : List Value} {b2 o2 : Nat} {cs2 : List Value} {b3 o3 : Nat} {cap : List Block} {cap2 : List Request} {cap3 : Int} {r : Bool × List Block} (hp0 : w0.heap[b0]? = some (.cells cs0.toArray 50 (0, 0))) (hr0 : GoTy.own w0 F0 cs0 cap) (hn0 : List.Nodup (List.cons b0 F0)) (hS0 : ∀ c ∈ List.cons b0 F0, ¬ S c) (hp1 : (MP.cells ⟨b1, o1, none⟩ cs1).pred w0 S) (hr1 : GoTy.rep w0 S cs1 cap2) (hp2 : (MP.cells ⟨b2, o2, none⟩ cs2).pred w0 S) (hr2 : GoTy.rep w0 S cs2 cap3) (hp3 : (MP.cells ⟨b3, o3, none⟩ [.func (.func 140) #[] #[(.pointer (some ⟨b0, 0, none⟩)), (.pointer (some ⟨b1, o1, none⟩)), (.pointer (some ⟨b2, o2, none⟩)), (.pointer (some ⟨b3, o3, none⟩))]]).pred w0 S) (hF : impl_assignedTo_c1 fu cap cap2 cap3 = some r), Calls Tryz.prog 140 [(.pointer (some ⟨b0, 0, none⟩)), (.pointer (some ⟨b1, o1, none⟩)), (.pointer (some ⟨b2, o2, none⟩)), (.pointer (some ⟨b3, o3, none⟩))].toArray w0 fun e w' => ∃ v, e = .returned v ∧ (Chg w0 w' (b0 :: F0) ∧ ∃ cs' F', w'.heap[b0]? = some (.cells cs'.toArray 50 (0, 0)) ∧ GoTy.own w' F' cs' r.2 ∧ Back w0 w' F0 F' ∧ b0 ∉ F' ∧ VR w' (fun _ => True) v r.1) := by
  induction fu with
  | zero => intro w0 S b0 cs0 F0 b1 o1 cs1 b2 o2 cs2 b3 o3 cap cap2 cap3 r hp0 hr0 hn0 hS0 hp1 hr1 hp2 hr2 hp3 hF; rw [impl_assignedTo_c1] at hF; cases hF
  | succ fu ih => intro w0 S b0 cs0 F0 b1 o1 cs1 b2 o2 cs2 b3 o3 cap cap2 cap3 r hp0 hr0 hn0 hS0 hp1 hr1 hp2 hr2 hp3 hF; rw [impl_assignedTo_c1] at hF; exact impl_assignedTo_c1_B_ok (rec_ := fun cap cap2 cap3 => impl_assignedTo_c1 fu cap cap2 cap3) (fun hp0 hr0 hn0 hS0 hp1 hr1 hp2 hr2 hp3 hF => ih hp0 hr0 hn0 hS0 hp1 hr1 hp2 hr2 hp3 hF) hp0 hr0 hn0 hS0 hp1 hr1 hp2 hr2 hp3 hF
theorem impl_assignedTo_ok {S : Nat → Prop} {v0_ : Value} {v1_ : Value} {list : List Request} {height : Int} {r : List Block × Bool} (h0 : VR w0 S v0_ list) (h1 : VR w0 S v1_ height) (hF : impl_assignedTo fu list height = some r) :
    Calls Tryz.prog 67 [v0_, v1_].toArray w0 fun e w' => ∃ v, e = .returned v ∧ (Below w0.heap.size w0 w' ∧ ∃ F0, ∃ u0 u1, v = .tuple #[u0, u1] ∧ VO w' F0 u0 r.1 ∧ VR w' (St ⟨w0, []⟩ S [] [] [] true) u1 r.2 ∧ New w0 w' F0) := by
 obtain ⟨A, c, rfl, hl⟩ := VR_list h0
 obtain rfl := VR_int h1
 have H := Mem.start ⟨w0, []⟩ S
 have H := H.pA hl
 refine en Tryz.func67 fun a hf => ?_
 rw [impl_assignedTo] at hF
 refine bx hf H fun b' a w hf H => ?_
 refine wl0 rfl (op_box hf H rfl rfl (by decide) fun b2 a w hf H => ?_)
 refine pz 2 hf fun a hf => ?_
 refine wr (wl0 rfl (bl hf H 71 ([] : List Block) [] el0 fun A2 a w hf H => ?_))
 refine aL hf H TF.zv50 fun b3 a w hf H => ?_
 refine sB 0 hf H TF.sz50 fun w H => ?_
 refine wr (aL hf H TF.zv170 fun b4 a w hf H => ?_)
 refine wr (oq hf (rq_makeFunc hf rfl) fun a hf => ?_)
 refine sB 0 hf H TF.sz170 fun w H => ?_
 refine wr (lB 0 hf H TF.ls170 fun a hf => ?_)
 have H := H.rowOwn 0 rfl rfl
 obtain ⟨F, H⟩ := H.freezeOwn 0 rfl
 have H := H.lend 0 rfl
 obtain ⟨y, hy, hF⟩ := bs_ hF
 refine wl0 rfl (op_callV hf TF.cl140 rfl rfl (by decide) (impl_assignedTo_c1_ok (S := NF b3 F) (H.boxAt 1 rfl) (H.ownAt 0 rfl) (H.boNd 1 rfl) (fun _ h1 h2 => h2 h1) (H.boxN 1 rfl 3 rfl rfl) (H.argNv 1 rfl (fun _ h => by cases h) (α := List Request) hl) (H.boxN 1 rfl 2 rfl rfl) (rfl) (H.boxN 1 rfl 0 rfl rfl) hy) fun v w a hp hf => ?_)
 obtain ⟨hch, cs, F2, hbx, ho, hbk, hbF, hv⟩ := hp
 obtain ⟨A3, c2, rfl, ho⟩ := own_list ho
 have H := H.wroteBO 1 rfl rfl hch hbx ho hbk hbF
 have H := H.pA hl
 have H := H.lend 0 rfl
 obtain rfl := VR_bool hv
 refine pz 1 hf fun a hf => ?_
 refine wr (lB 1 hf H TF.ls50 fun a hf => ?_)
 refine pz 3 hf fun a hf => ?_
 have hf := hf.pn [4, 5]
 refine wer ?_
 obtain rfl := oi hF
 refine ret_2 hf rfl (rv_tmp hf rfl) (rv_tmp hf rfl) ?_
 have hN := H.ends1
 exact ⟨_, rfl, H.bel, F2, _, _, rfl, (mko_list (H.ownAt 0 rfl)), mk_bool, by first | exact hN | simpa using hN⟩
theorem impl_AssignExact_ok {S : Nat → Prop} {v0_ : Value} {v1_ : Value} {n' : Network} {list : List Request} {r : List Block × Int × Bool} (h0 : VR w0 S v0_ n') (h1 : VR w0 S v1_ list) (hF : impl_AssignExact fu n' list = some r) :
    Calls Tryz.prog 20 [v0_, v1_].toArray w0 fun e w' => ∃ v, e = .returned v ∧ (Below w0.heap.size w0 w' ∧ ∃ F0, ∃ u0 u1 u2, v = .tuple #[u0, u1, u2] ∧ VO w' F0 u0 r.1 ∧ VR w' (St ⟨w0, []⟩ S [] [] [] true) u1 r.2.1 ∧ VR w' (St ⟨w0, []⟩ S [] [] [] true) u2 r.2.2 ∧ New w0 w' F0) := by
 obtain ⟨A, c, A2, c2, rfl, hl, hl2⟩ := Network_open h0
 obtain ⟨A3, c3, rfl, hl3⟩ := VR_list h1
 have H := Mem.start ⟨w0, []⟩ S
 have H := H.pA hl
 have H := H.pA hl2
 have H := H.pA hl3
 refine en Tryz.func20 fun a hf => ?_
 rw [impl_AssignExact] at hF
 refine bx hf H fun b' a w hf H => ?_
 refine pz 3 hf fun a hf => ?_
 refine wl_end (then_n (sq (sq (reg (lN 0 hf H TF.la34 fun a hf => ?_)))))
 refine pz 1 hf fun a hf => ?_
 obtain ⟨y, hy, hF⟩ := bs_ hF
 refine oc hf TF.cl65 (impl_IsValidRequests_ok (S := TT) (Network_mkv (x := n') (H.rt 2 rfl) (H.rt 1 rfl)) (mk_list (H.rt 0 rfl)) hy) fun v w a hp hf => ?_
 obtain ⟨hb, hp⟩ := hp
 obtain rfl := VR_bool hp
 have H := H.keep hb
 refine pz 1 hf fun a hf => ?_
 refine wl_end (then_n (ib hF hf (fun hc hF => ?_) fun hc hF => ?_))
 ·refine sqz (pz 3 hf fun a hf => ?_)
  refine wl_end (then_n (wp_ret (then_r (?_))))
  have H := H.ownNil (Block)
  have H := H.lend 0 rfl
  obtain rfl := oi hF
  refine ret_3 hf rfl (rv_tmp hf rfl) (rv_tmp hf rfl) (rv_tmp hf rfl) ?_
  have hN := H.ends1
  exact ⟨_, rfl, H.bel, [], _, _, _, rfl, (mko_list (H.ownAt 0 rfl)), mk_int, mk_bool, by first | exact hN | simpa using hN⟩
 ·refine wp_skip (then_n (sqz (pz 1 hf fun a hf => ?_)))
  obtain ⟨y2, hy2, hF⟩ := bs_ hF
  refine oc hf TF.cl66 (impl_cliqueBound_ok (S := TT) (mk_list (H.rt 0 rfl)) hy2) fun v2 w a hp2 hf => ?_
  obtain ⟨hb2, v3, v4, rfl, hp3, hp4⟩ := hp2
  obtain rfl := VR_int hp3
  obtain rfl := VR_int hp4
  have H := H.keep hb2
  refine pz 5 hf fun a hf => ?_
  have hf := hf.pn [1, 7]
  refine we (sqz (pz 2 hf fun a hf => ?_))
  refine wl_end (then_n ?_)
  obtain ⟨out', hB1, hF⟩ := bs_ hF
  have hf := hf.pn [1, 9]
  have H := H.lt_ [false] [] [] [0]
  refine loopC (fun (s : Int) (a : Act) (w : World) => match s with | height => Fr a 35 [(1, (.slice A3 list.length c3)), (9, (.int .i64 height))] ∧ Mem ⟨w0, []⟩ S [] [] [] [(false, MP.val [(.slice A3 list.length c3)] (list : List Request))] w) (fun k (s : Int) => impl_AssignExact_L1 fu list k s = some out') (fun s => out' = Out.next s) y2.1 fu hB1 ⟨hf, H⟩ (fun s h => by cases h) ?_ ?_
  ·rintro fk height a w hR1 hI
   replace hR1 : impl_AssignExact_L1 fu list (fk + 1) height = some out' := hR1
   rw [impl_AssignExact_L1] at hR1
   obtain ⟨hf, H⟩ := hI
   refine sq (sqz (pz 2 hf fun a hf => ?_))
   refine wl_end (then_n (ib hR1 hf (fun hc2 hR1 => ?_) fun hc2 hR1 => ?_))
   ·refine ws (pz 2 hf fun a hf => ?_)
    obtain ⟨y3, hy3, hR1⟩ := bs_ hR1
    refine oc hf TF.cl67 (impl_assignedTo_ok (S := TT) (mk_list (H.rt 0 rfl)) mk_int hy3) fun v5 w a hp5 hf => ?_
    obtain ⟨hb3, F, v6, v7, rfl, hp6, hp7, hN⟩ := hp5
    obtain ⟨A4, c4, rfl, hl4⟩ := VO_list hp6
    obtain rfl := VR_bool hp7
    have H := H.aO1 hb3 hN hl4
    have H := H.lend 0 rfl
    refine pz 5 hf fun a hf => ?_
    refine wr (pz 1 hf fun a hf => ?_)
    refine wl_end (then_n (ib hR1 hf (fun hc3 hR1 => ?_) fun hc3 hR1 => ?_))
    ·refine sqz (pz 5 hf fun a hf => ?_)
     have hf := hf.pn [4, 5, 6]
     refine wl_end (then_n (wp_ret (blk_r (then_r (then_r (blk_r (then_r (then_r (?_)))))))))
     obtain rfl := oi hR1
     replace hF := on_ret hF
     obtain rfl := oi hF
     refine ret_3 hf rfl (rv_tmp hf rfl) (rv_tmp hf rfl) (rv_tmp hf rfl) ?_
     have hN := H.ends1
     exact ⟨_, rfl, H.bel, F, _, _, _, rfl, (mko_list (H.ownAt 0 rfl)), mk_int, mk_bool, by first | exact hN | simpa using hN⟩
    ·refine wp_skip (blk_n (then_n (reg (pz 3 hf fun a hf => ?_))))
     have hf := hf.pn [1, 9]
     refine wl_end ?_
     have hf := hf.pn [1, 9]
     have H := H.lt_ [] [] [false] [1]
     exact then_n ⟨w64 (height + 1), hR1, hf, H⟩
   ·refine wp_exit (then_x (then_x (blk_e (?_))))
    have hf := hf.pn [1, 9]
    have H := H.lt_ [] [] [] [0]
    exact ⟨height, (Option.some.inj hR1).symm, hf, H⟩
  rintro a w ⟨height2, rfl, hf, H⟩
  replace hF := on_next hF
  refine then_n (sqz (pz 3 hf fun a hf => ?_))
  refine wer ?_
  have H := H.ownNil (Block)
  have H := H.lend 0 rfl
  obtain rfl := oi hF
  refine ret_3 hf rfl (rv_tmp hf rfl) (rv_tmp hf rfl) (rv_tmp hf rfl) ?_
  have hN := H.ends1
  exact ⟨_, rfl, H.bel, [], _, _, _, rfl, (mko_list (H.ownAt 0 rfl)), mk_int, mk_bool, by first | exact hN | simpa using hN⟩
end AT
