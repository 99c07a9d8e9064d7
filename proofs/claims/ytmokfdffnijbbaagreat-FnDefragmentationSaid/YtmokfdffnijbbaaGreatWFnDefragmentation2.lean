/- The Go functions do what is told of them, by program (gen.py). -/
import Derived.Test.YtmokfdffnijbbaaGreatWFnDefragmentation1
set_option linter.unusedVariables false
set_option linter.unusedSimpArgs false
set_option maxRecDepth 100000
set_option maxHeartbeats 1000000
namespace AT
open Go Go.RowKit Go.Proofs
variable {fu : Nat} {w0 : World}
theorem spec_l1Cur_anyNetwork_ok {S : Nat → Prop} {b0 : Nat} {cs0 : List Value} {c : L1CurP} {r : Network × L1CurP} (hp0 : w0.heap[b0]? = some (.cells cs0.toArray 101 (0, 0))) (hr0 : GoTy.rep w0 S cs0 c) (hS0 : ¬ S b0) (hF : spec_l1Cur_anyNetwork fu c = some r) :
    Calls Tryz.prog 154 [(.pointer (some ⟨b0, 0, none⟩))].toArray w0 fun e w' => ∃ v, e = .returned v ∧ (Chg w0 w' [b0] ∧ ∃ cs', w'.heap[b0]? = some (.cells cs'.toArray 101 (0, 0)) ∧ GoTy.rep w' (St ⟨w0, [b0]⟩ S [⟨b0, 101, cs'⟩] [] [] false) cs' r.2 ∧ (cs'[0]? = cs0[0]? ∧ r.2.code = c.code) ∧ ∃ F0, VO w' F0 v r.1 ∧ New w0 w' F0) := by
 obtain ⟨A, c2, rfl, hl⟩ := L1CurP_cells hr0
 have H := Mem.startB S hp0
 have H := H.pB hS0 hl
 refine en Tryz.func154 fun a hf => ?_
 rw [spec_l1Cur_anyNetwork] at hF
 refine sq (reg (aL hf H TF.zv34 fun b2 a w hf H => ?_))
 refine wr (pz 1 hf fun a hf => ?_)
 obtain ⟨y, hy, hF⟩ := bs_ hF
 refine oc hf TF.cl192 (spec_l1Cur_network_ok (S := NB b0) (H.boxAt 1 rfl) ((L1CurP_mk (x := c) (H.nb 1 rfl (H.get 0 rfl)))) (fun h => h rfl) hy) fun v w a hp2 hf => ?_
 obtain ⟨hch, cs2, hbx, hr2, ⟨hx, hx2⟩, hs⟩ := hp2
 obtain ⟨F, hp3, hN⟩ := hs
 obtain ⟨A2, c3, F2, A3, c4, F3, rfl, rfl, hl2, hl3⟩ := Network_vo hp3
 obtain ⟨A4, c5, rfl, hl4⟩ := L1CurP_cells hr2
 obtain ⟨rfl, rfl⟩ := fx_slice hx rfl rfl
 have H := H.bO2 1 rfl hch hbx hN hl2 hl3
 have H := H.pX 0 rfl hx2
 have H := H.lend 0 rfl
 have H := H.lend 1 rfl
 obtain ⟨Fs, E, H, -⟩ := H.thaw rfl
 have H := H.rowSh 0 rfl
 have H := H.pB hS0 hl
 have H := H.argB (by simpa using hS0) (p := MP.val [(.slice A y.2.code.length c2)] (y.2.code : List By)) (by rw [hx2]; exact hl)
 have H := H.lend 0 rfl
 obtain ⟨Fs2, E2, H, -⟩ := H.thaw rfl
 have H := H.rowSh 0 rfl
 have H := H.pB hS0 hl
 have H := H.argB (by simpa using hS0) (p := MP.val [(.slice A y.2.code.length c2)] (y.2.code : List By)) (by rw [hx2]; exact hl)
 refine aL hf H TF.zv34 fun b3 a w hf H => ?_
 refine sB 0 hf H TF.sz34 fun w H => ?_
 refine we (sqz (pz 1 hf fun a hf => ?_))
 refine lB 0 hf H TF.ls32 fun a hf => ?_
 refine pz 2 hf fun a hf => ?_
 refine wl_end (then_n (ib hF hf (fun hc hF => ?_) fun hc hF => ?_))
 ·refine sq (reg (lN 0 hf H TF.la34 fun a hf => ?_))
  refine sB 1 hf H TF.sz34 fun w H => ?_
  refine wl_end (then_n (wp_ret (then_r (?_))))
  have H := H.rowOwn 1 rfl rfl
  obtain ⟨F4, H⟩ := H.freezeOwn 1 rfl
  have H := H.lend 0 rfl
  have H := H.rowOwn 0 rfl rfl
  obtain ⟨F5, H⟩ := H.freezeOwn 0 rfl
  have H := H.lend 0 rfl
  have H := H.frontD 1 rfl
  obtain rfl := oi hF
  refine ret_1 hf rfl (rv_cellN hf H 1 TF.la34 rfl rfl rfl) ?_
  have hN := H.endsB2 2 rfl
  exact ⟨_, rfl, H.chg, _, H.boxAt 2 rfl, (L1CurP_mk (x := y.2) (eB 2 (H.get 2 rfl))), ⟨fxc hx2, hx2⟩, (F4 ++ F5), ⟨_, Network_ownmk (x := y.1) (H.ownAt 0 rfl) (H.ownAt 1 rfl), rfl⟩, by first | exact hN | simpa using hN⟩
 ·refine wp_skip (then_n (sqz (pz 2 hf fun a hf => ?_)))
  refine lB 0 hf H TF.ls32 fun a hf => ?_
  refine pz 1 hf fun a hf => ?_
  obtain ⟨y2, hy2, hF⟩ := bs_ hF
  refine oc hf TF.cl133 (spec_l1Cur_pick_ok (S := NB b0) (H.boxAt 2 rfl) ((L1CurP_mk (x := y.2) (H.nb 2 rfl (H.get 0 rfl)))) (fun h => h rfl) mk_int hy2) fun v2 w a hp4 hf => ?_
  obtain ⟨hch2, cs3, hbx2, hr3, ⟨hx3, hx4⟩, hs2⟩ := hp4
  obtain rfl := VR_int hs2
  obtain ⟨A5, c6, rfl, hl5⟩ := L1CurP_cells hr3
  obtain ⟨rfl, rfl⟩ := fx_slice hx3 rfl rfl
  have hx5 := hx4.trans hx2
  have H := H.wroteBox 2 rfl hch2 hbx2
  have H := H.pX 0 rfl hx4
  refine pz 1 hf fun a hf => ?_
  refine wr (pz 1 hf fun a hf => ?_)
  refine lB 0 hf H TF.ls32 fun a hf => ?_
  refine pz 1 hf fun a hf => ?_
  obtain ⟨e, he, hF⟩ := bs_ hF
  refine wl0 rfl (op_iaddrR hf H Tryz.underlying32 TF.sz180 0 rfl rfl rfl he (by decide) fun p o2 cs4 a hf hA hr4 hk => ?_)
  obtain rfl := Fiber_cells hr4
  refine oq hf (rq_loadN hf TF.la180 rfl rfl (fun j c hj => hk _ c (by simpa using hj))) fun a hf => ?_
  refine aL hf H TF.zv180 fun b4 a w hf H => ?_
  refine sB 0 hf H TF.sz180 fun w H => ?_
  have hf := hf.pn [0, 2, 3, 4, 5]
  refine we (sqz (pz 1 hf fun a hf => ?_))
  obtain ⟨y3, hy3, hF⟩ := bs_ hF
  refine oc hf TF.cl133 (spec_l1Cur_pick_ok (S := NB b0) (H.boxAt 3 rfl) ((L1CurP_mk (x := y2.2) (H.nb 3 rfl (H.get 0 rfl)))) (fun h => h rfl) mk_int hy3) fun v3 w a hp5 hf => ?_
  obtain ⟨hch3, cs5, hbx3, hr5, ⟨hx6, hx7⟩, hs3⟩ := hp5
  obtain rfl := VR_int hs3
  obtain ⟨A6, c7, rfl, hl6⟩ := L1CurP_cells hr5
  obtain ⟨rfl, rfl⟩ := fx_slice hx6 rfl rfl
  have hx8 := hx7.trans hx5
  have H := H.wroteBox 3 rfl hch3 hbx3
  have H := H.pX 0 rfl hx7
  refine wl_end (then_n (wp_block (sqz (pz 2 hf fun a hf => ?_))))
  refine wl_end (then_n (ib hF hf (fun hc2 hF => ?_) fun hc2 hF => ?_))
  ·refine dw [6] 7 fun w hb => ?_
   have H := H.keep hb
   refine zp 0 hf trivial fun a hf => ?_
   refine strT (H.lt_ [false, true, false, false] [false, false] [] []) (fun w H => trivial) fun hS => ?_
   refine zS 1 [1, 5, 6] rfl rfl rfl rfl hf hS (fun w H => rq_loadB hf H TF.ls22 0 rfl rfl rfl) fun a hf => ?_
   refine zp 2 hf hS fun a hf => ?_
   refine nn 3 rfl (bl hf H 9 ([(⟨#[98]⟩ : ByteArray), ByteArray.empty, (⟨#[65]⟩ : ByteArray), (⟨#[97, 98, 99, 100, 101, 102, 103, 104]⟩ : ByteArray), (⟨#[97, 98, 99, 100, 101, 102, 103, 104, 105]⟩ : ByteArray), (⟨#[120, 49]⟩ : ByteArray)] : List ByteArray) [(.string (⟨#[98]⟩ : ByteArray)), (.string ByteArray.empty), (.string (⟨#[65]⟩ : ByteArray)), (.string (⟨#[97, 98, 99, 100, 101, 102, 103, 104]⟩ : ByteArray)), (.string (⟨#[97, 98, 99, 100, 101, 102, 103, 104, 105]⟩ : ByteArray)), (.string (⟨#[120, 49]⟩ : ByteArray))] (elL [([(.string (⟨#[98]⟩ : ByteArray))], ((⟨#[98]⟩ : ByteArray) : ByteArray)), ([(.string ByteArray.empty)], (ByteArray.empty : ByteArray)), ([(.string (⟨#[65]⟩ : ByteArray))], ((⟨#[65]⟩ : ByteArray) : ByteArray)), ([(.string (⟨#[97, 98, 99, 100, 101, 102, 103, 104]⟩ : ByteArray))], ((⟨#[97, 98, 99, 100, 101, 102, 103, 104]⟩ : ByteArray) : ByteArray)), ([(.string (⟨#[97, 98, 99, 100, 101, 102, 103, 104, 105]⟩ : ByteArray))], ((⟨#[97, 98, 99, 100, 101, 102, 103, 104, 105]⟩ : ByteArray) : ByteArray)), ([(.string (⟨#[120, 49]⟩ : ByteArray))], ((⟨#[120, 49]⟩ : ByteArray) : ByteArray))] (al1 (x := ((⟨#[98]⟩ : ByteArray) : ByteArray)) (rfl) (al1 (x := (ByteArray.empty : ByteArray)) (rfl) (al1 (x := ((⟨#[65]⟩ : ByteArray) : ByteArray)) (rfl) (al1 (x := ((⟨#[97, 98, 99, 100, 101, 102, 103, 104]⟩ : ByteArray) : ByteArray)) (rfl) (al1 (x := ((⟨#[97, 98, 99, 100, 101, 102, 103, 104, 105]⟩ : ByteArray) : ByteArray)) (rfl) (al1 (x := ((⟨#[120, 49]⟩ : ByteArray) : ByteArray)) (rfl) al0))))))) fun A7 a w hf H => ?_)
   have hS := H.lt_ [false, true, false, false] [false, false, false] [] []
   refine aS hS ?_
   have H := H.freeze 0 rfl
   obtain ⟨y4, hy4, hF⟩ := bs_ hF
   refine nn 4 rfl (oC hf TF.cl214 (spec_l1Cur_of_ok (S := NB b0) (H.boxAt 3 rfl) ((L1CurP_mk (x := y3.2) (H.nb 3 rfl (H.get 1 rfl)))) (fun h => h rfl) (mk_list (H.nb 3 rfl (H.get 0 rfl))) hy4) fun v4 w a hp6 hf => ?_)
   obtain ⟨hch4, cs6, hbx4, hr6, ⟨hx9, hx10⟩, hs4⟩ := hp6
   obtain rfl := VR_str hs4
   obtain ⟨A8, c8, rfl, hl7⟩ := L1CurP_cells hr6
   obtain ⟨rfl, rfl⟩ := fx_slice hx9 rfl rfl
   have hx11 := hx10.trans hx8
   have H := H.wroteBox 3 rfl hch4 hbx4
   have H := H.pX 1 rfl hx10
   have hS := H.lt_ [false, true, false, false] [false, false] [] []
   refine aS hS ?_
   obtain ⟨e2, he2, hF⟩ := bs_ hF
   refine nn 5 rfl (op_iaddrR hf H Tryz.underlying22 TF.sz9 1 rfl rfl rfl he2 (by decide) fun p2 o3 cs7 a hf hA2 hr7 hk2 => ?_)
   obtain rfl := hr7
   have hS := H.lt_ [false, true, false, false] [false, false] [] []
   refine aS hS ?_
   refine nn 6 rfl (op_storeR (e' := y4.1) (o := o3) (off := 0) hf H TF.sz9 1 rfl rfl rfl rfl rfl (nle rfl) rfl hA2 he2 (st_full rfl) fun w H => ?_)
   replace hf : Fr a 104 [(0, (.pointer (some ⟨b0, 0, none⟩))), (2, (.pointer (some ⟨b2, 0, none⟩))), (3, (.pointer (some ⟨b3, 0, none⟩))), (4, (.int .i64 y2.1)), (5, (.pointer (some ⟨b4, 0, none⟩))), (27, (.pointer (some ⟨b3, 0, none⟩))), (28, (.slice A2 y.1.Nodes.length c3)), (29, (.pointer (some ⟨b0, 0, none⟩))), (30, (.slice A7 6 6)), (31, (.string y4.1)), (32, (.pointer (some ⟨p2, o3 + 0, none⟩)))] := hf.prune [0, 2, 3, 4, 5, 27, 28, 29, 30, 31, 32] rfl
   replace hf : Fr a 104 [(0, (.pointer (some ⟨b0, 0, none⟩))), (2, (.pointer (some ⟨b2, 0, none⟩))), (3, (.pointer (some ⟨b3, 0, none⟩))), (4, (.int .i64 y2.1)), (5, (.pointer (some ⟨b4, 0, none⟩))), (27, (.pointer (some ⟨b3, 0, none⟩))), (28, (.slice A2 (y.1.Nodes.set (0 : Int).toNat y4.1).length c3)), (29, (.pointer (some ⟨b0, 0, none⟩))), (30, (.slice A7 6 6)), (31, (.string y4.1)), (32, (.pointer (some ⟨p2, o3 + 0, none⟩)))] := by simpa only [List.length_set, Nat.add_zero] using hf
   replace H : Mem ⟨w0, [b0]⟩ S [⟨b4, 180, [(.int .i64 e.A), (.int .i64 e.B), (.int .i64 e.Length), (.int .i64 e.Risk)]⟩, ⟨b3, 34, [(.slice A2 (y.1.Nodes.set (0 : Int).toNat y4.1).length c3), (.slice A3 y.1.Fibers.length c4)]⟩, ⟨b2, 34, [(.slice none 0 0), (.slice none 0 0)]⟩, ⟨b0, 101, [(.slice A y4.2.code.length c2), (.int .i64 y4.2.at_), (.int .u64 y4.2.seed.n)]⟩] [⟨.sh true, E2, A3, c4, (y.1.Fibers : List Fiber)⟩, ⟨.sh true, E, A2, c3, (y.1.Nodes.set (0 : Int).toNat y4.1 : List ByteArray)⟩] [] [(false, MP.val [(.slice A y4.2.code.length c2)] (y4.2.code : List By)), (true, MP.val [(.slice A7 6 6)] ([(⟨#[98]⟩ : ByteArray), ByteArray.empty, (⟨#[65]⟩ : ByteArray), (⟨#[97, 98, 99, 100, 101, 102, 103, 104]⟩ : ByteArray), (⟨#[97, 98, 99, 100, 101, 102, 103, 104, 105]⟩ : ByteArray), (⟨#[120, 49]⟩ : ByteArray)] : List ByteArray)), (false, MP.val [(.slice A y3.2.code.length c2)] (y3.2.code : List By)), (false, MP.val [(.slice A y2.2.code.length c2)] (y2.2.code : List By)), (false, MP.val [(.slice A y.2.code.length c2)] (y.2.code : List By)), (false, MP.val [(.slice A c.code.length c2)] (c.code : List By))] w := by first | (simp only [List.length_set]; exact H) | (simp only [List.length_set] at H ⊢; exact H)
   refine ⟨fun h => absurd h (by decide), ?_⟩
   refine dk ?_
   refine blk_n (then_n (sqz (pz 1 hf fun a hf => ?_)))
   refine lB 1 hf H TF.ls32 fun a hf => ?_
   refine pz 1 hf fun a hf => ?_
   refine lN 0 hf H TF.la180 fun a hf => ?_
   obtain ⟨e3, he3, hF⟩ := bs_ hF
   refine wl0 rfl (op_iaddrR hf H Tryz.underlying32 TF.sz180 0 rfl rfl rfl he3 (by decide) fun p3 o4 cs8 a hf hA3 hr8 hk3 => ?_)
   obtain rfl := Fiber_cells hr8
   refine wl0 rfl (op_storeR (e' := e) (o := o4) (off := 0) hf H TF.sz180 0 rfl rfl rfl rfl rfl (nle rfl) rfl hA3 he3 (st_full (Fiber_mk (x := e))) fun w H => ?_)
   replace hf : Fr a 104 [(2, (.pointer (some ⟨b2, 0, none⟩))), (3, (.pointer (some ⟨b3, 0, none⟩))), (4, (.int .i64 y2.1)), (5, (.pointer (some ⟨b4, 0, none⟩))), (98, (.pointer (some ⟨b3, 1, none⟩))), (99, (.slice A3 y.1.Fibers.length c4)), (100, (.int .i64 y2.1)), (101, (.agg #[(.int .i64 e.A), (.int .i64 e.B), (.int .i64 e.Length), (.int .i64 e.Risk)])), (102, (.pointer (some ⟨p3, o4 + 0, none⟩)))] := hf.prune [2, 3, 4, 5, 98, 99, 100, 101, 102] rfl
   replace hf : Fr a 104 [(2, (.pointer (some ⟨b2, 0, none⟩))), (3, (.pointer (some ⟨b3, 0, none⟩))), (4, (.int .i64 y2.1)), (5, (.pointer (some ⟨b4, 0, none⟩))), (98, (.pointer (some ⟨b3, 1, none⟩))), (99, (.slice A3 (y.1.Fibers.set (y2.1 : Int).toNat e).length c4)), (100, (.int .i64 y2.1)), (101, (.agg #[(.int .i64 e.A), (.int .i64 e.B), (.int .i64 e.Length), (.int .i64 e.Risk)])), (102, (.pointer (some ⟨p3, o4 + 0, none⟩)))] := by simpa only [List.length_set, Nat.add_zero] using hf
   replace H : Mem ⟨w0, [b0]⟩ S [⟨b4, 180, [(.int .i64 e.A), (.int .i64 e.B), (.int .i64 e.Length), (.int .i64 e.Risk)]⟩, ⟨b3, 34, [(.slice A2 (y.1.Nodes.set (0 : Int).toNat y4.1).length c3), (.slice A3 (y.1.Fibers.set (y2.1 : Int).toNat e).length c4)]⟩, ⟨b2, 34, [(.slice none 0 0), (.slice none 0 0)]⟩, ⟨b0, 101, [(.slice A y4.2.code.length c2), (.int .i64 y4.2.at_), (.int .u64 y4.2.seed.n)]⟩] [⟨.sh true, E2, A3, c4, (y.1.Fibers.set (y2.1 : Int).toNat e : List Fiber)⟩, ⟨.sh true, E, A2, c3, (y.1.Nodes.set (0 : Int).toNat y4.1 : List ByteArray)⟩] [] [(false, MP.val [(.slice A y4.2.code.length c2)] (y4.2.code : List By)), (true, MP.val [(.slice A7 6 6)] ([(⟨#[98]⟩ : ByteArray), ByteArray.empty, (⟨#[65]⟩ : ByteArray), (⟨#[97, 98, 99, 100, 101, 102, 103, 104]⟩ : ByteArray), (⟨#[97, 98, 99, 100, 101, 102, 103, 104, 105]⟩ : ByteArray), (⟨#[120, 49]⟩ : ByteArray)] : List ByteArray)), (false, MP.val [(.slice A y3.2.code.length c2)] (y3.2.code : List By)), (false, MP.val [(.slice A y2.2.code.length c2)] (y2.2.code : List By)), (false, MP.val [(.slice A y.2.code.length c2)] (y.2.code : List By)), (false, MP.val [(.slice A c.code.length c2)] (c.code : List By))] w := by first | (simp only [List.length_set]; exact H) | (simp only [List.length_set] at H ⊢; exact H)
   refine wr (lN 1 hf H TF.la34 fun a hf => ?_)
   refine sB 2 hf H TF.sz34 fun w H => ?_
   refine wer ?_
   have H := H.rowOwn 1 rfl rfl
   obtain ⟨F6, H⟩ := H.freezeOwn 1 rfl
   have H := H.lend 0 rfl
   have H := H.rowOwn 0 rfl rfl
   obtain ⟨F7, H⟩ := H.freezeOwn 0 rfl
   have H := H.lend 0 rfl
   have H := H.frontD 1 rfl
   obtain rfl := oi hF
   refine ret_1 hf rfl (rv_cellN hf H 2 TF.la34 rfl rfl rfl) ?_
   have hN := H.endsB2 3 rfl
   exact ⟨_, rfl, H.chg, _, H.boxAt 3 rfl, (L1CurP_mk (x := y4.2) (eB 3 (H.get 2 rfl))), ⟨fxc hx11, hx11⟩, (F6 ++ F7), ⟨_, Network_ownmk (x := ({ Nodes := y.1.Nodes.set (0 : Int).toNat y4.1, Fibers := y.1.Fibers.set (y2.1 : Int).toNat e } : Network)) (H.ownAt 0 rfl) (H.ownAt 1 rfl), rfl⟩, by first | exact hN | simpa using hN⟩
  ·refine sqz (pz 2 hf fun a hf => ?_)
   refine wl_end (then_n (ib hF hf (fun hc3 hF => ?_) fun hc3 hF => ?_))
   ·refine reg (pz 1 hf fun a hf => ?_)
    obtain ⟨y5, hy5, hF⟩ := bs_ hF
    refine oc hf TF.cl133 (spec_l1Cur_pick_ok (S := NB b0) (H.boxAt 3 rfl) ((L1CurP_mk (x := y3.2) (H.nb 3 rfl (H.get 0 rfl)))) (fun h => h rfl) mk_int hy5) fun v5 w a hp7 hf => ?_
    obtain ⟨hch5, cs9, hbx5, hr9, ⟨hx12, hx13⟩, hs5⟩ := hp7
    obtain rfl := VR_int hs5
    obtain ⟨A9, c9, rfl, hl8⟩ := L1CurP_cells hr9
    obtain ⟨rfl, rfl⟩ := fx_slice hx12 rfl rfl
    have hx14 := hx13.trans hx8
    have H := H.wroteBox 3 rfl hch5 hbx5
    have H := H.pX 0 rfl hx13
    refine pz 2 hf fun a hf => ?_
    refine sB 0 hf H TF.sz3 fun w H => ?_
    refine wl_end (blk_n (then_n (sqz (pz 1 hf fun a hf => ?_))))
    refine lB 1 hf H TF.ls32 fun a hf => ?_
    refine pz 1 hf fun a hf => ?_
    refine lN 0 hf H TF.la180 fun a hf => ?_
    obtain ⟨e4, he4, hF⟩ := bs_ hF
    refine wl0 rfl (op_iaddrR hf H Tryz.underlying32 TF.sz180 0 rfl rfl rfl he4 (by decide) fun p4 o5 cs10 a hf hA4 hr10 hk4 => ?_)
    obtain rfl := Fiber_cells hr10
    refine wl0 rfl (op_storeR (e' := ({ A := w64 (y5.1 - 1), B := e.B, Length := e.Length, Risk := e.Risk } : Fiber)) (o := o5) (off := 0) hf H TF.sz180 0 rfl rfl rfl rfl rfl (nle rfl) rfl hA4 he4 (st_full (Fiber_mk (x := ({ A := w64 (y5.1 - 1), B := e.B, Length := e.Length, Risk := e.Risk } : Fiber)))) fun w H => ?_)
    replace hf : Fr a 104 [(2, (.pointer (some ⟨b2, 0, none⟩))), (3, (.pointer (some ⟨b3, 0, none⟩))), (4, (.int .i64 y2.1)), (5, (.pointer (some ⟨b4, 0, none⟩))), (98, (.pointer (some ⟨b3, 1, none⟩))), (99, (.slice A3 y.1.Fibers.length c4)), (100, (.int .i64 y2.1)), (101, (.agg #[(.int .i64 (w64 (y5.1 - 1))), (.int .i64 e.B), (.int .i64 e.Length), (.int .i64 e.Risk)])), (102, (.pointer (some ⟨p4, o5 + 0, none⟩)))] := hf.prune [2, 3, 4, 5, 98, 99, 100, 101, 102] rfl
    replace hf : Fr a 104 [(2, (.pointer (some ⟨b2, 0, none⟩))), (3, (.pointer (some ⟨b3, 0, none⟩))), (4, (.int .i64 y2.1)), (5, (.pointer (some ⟨b4, 0, none⟩))), (98, (.pointer (some ⟨b3, 1, none⟩))), (99, (.slice A3 (y.1.Fibers.set (y2.1 : Int).toNat ({ A := w64 (y5.1 - 1), B := e.B, Length := e.Length, Risk := e.Risk } : Fiber)).length c4)), (100, (.int .i64 y2.1)), (101, (.agg #[(.int .i64 (w64 (y5.1 - 1))), (.int .i64 e.B), (.int .i64 e.Length), (.int .i64 e.Risk)])), (102, (.pointer (some ⟨p4, o5 + 0, none⟩)))] := by simpa only [List.length_set, Nat.add_zero] using hf
    replace H : Mem ⟨w0, [b0]⟩ S [⟨b4, 180, [(.int .i64 (w64 (y5.1 - 1))), (.int .i64 e.B), (.int .i64 e.Length), (.int .i64 e.Risk)]⟩, ⟨b3, 34, [(.slice A2 y.1.Nodes.length c3), (.slice A3 (y.1.Fibers.set (y2.1 : Int).toNat ({ A := w64 (y5.1 - 1), B := e.B, Length := e.Length, Risk := e.Risk } : Fiber)).length c4)]⟩, ⟨b2, 34, [(.slice none 0 0), (.slice none 0 0)]⟩, ⟨b0, 101, [(.slice A y5.2.code.length c2), (.int .i64 y5.2.at_), (.int .u64 y5.2.seed.n)]⟩] [⟨.sh true, E2, A3, c4, (y.1.Fibers.set (y2.1 : Int).toNat ({ A := w64 (y5.1 - 1), B := e.B, Length := e.Length, Risk := e.Risk } : Fiber) : List Fiber)⟩, ⟨.sh true, E, A2, c3, (y.1.Nodes : List ByteArray)⟩] [] [(false, MP.val [(.slice A y5.2.code.length c2)] (y5.2.code : List By)), (false, MP.val [(.slice A y3.2.code.length c2)] (y3.2.code : List By)), (false, MP.val [(.slice A y2.2.code.length c2)] (y2.2.code : List By)), (false, MP.val [(.slice A y.2.code.length c2)] (y.2.code : List By)), (false, MP.val [(.slice A c.code.length c2)] (c.code : List By))] w := by first | (simp only [List.length_set]; exact H) | (simp only [List.length_set] at H ⊢; exact H)
    refine wr (lN 1 hf H TF.la34 fun a hf => ?_)
    refine sB 2 hf H TF.sz34 fun w H => ?_
    refine wer ?_
    have H := H.rowOwn 1 rfl rfl
    obtain ⟨F8, H⟩ := H.freezeOwn 1 rfl
    have H := H.lend 0 rfl
    have H := H.rowOwn 0 rfl rfl
    obtain ⟨F9, H⟩ := H.freezeOwn 0 rfl
    have H := H.lend 0 rfl
    have H := H.frontD 1 rfl
    obtain rfl := oi hF
    refine ret_1 hf rfl (rv_cellN hf H 2 TF.la34 rfl rfl rfl) ?_
    have hN := H.endsB2 3 rfl
    exact ⟨_, rfl, H.chg, _, H.boxAt 3 rfl, (L1CurP_mk (x := y5.2) (eB 3 (H.get 2 rfl))), ⟨fxc hx14, hx14⟩, (F8 ++ F9), ⟨_, Network_ownmk (x := ({ Nodes := y.1.Nodes, Fibers := y.1.Fibers.set (y2.1 : Int).toNat ({ A := w64 (y5.1 - 1), B := e.B, Length := e.Length, Risk := e.Risk } : Fiber) } : Network)) (H.ownAt 0 rfl) (H.ownAt 1 rfl), rfl⟩, by first | exact hN | simpa using hN⟩
   ·refine sqz (pz 2 hf fun a hf => ?_)
    refine wl_end (then_n (ib hF hf (fun hc4 hF => ?_) fun hc4 hF => ?_))
    ·refine reg (pz 1 hf fun a hf => ?_)
     obtain ⟨y6, hy6, hF⟩ := bs_ hF
     refine oc hf TF.cl133 (spec_l1Cur_pick_ok (S := NB b0) (H.boxAt 3 rfl) ((L1CurP_mk (x := y3.2) (H.nb 3 rfl (H.get 0 rfl)))) (fun h => h rfl) mk_int hy6) fun v6 w a hp8 hf => ?_
     obtain ⟨hch6, cs11, hbx6, hr11, ⟨hx15, hx16⟩, hs6⟩ := hp8
     obtain rfl := VR_int hs6
     obtain ⟨A10, c10, rfl, hl9⟩ := L1CurP_cells hr11
     obtain ⟨rfl, rfl⟩ := fx_slice hx15 rfl rfl
     have hx17 := hx16.trans hx8
     have H := H.wroteBox 3 rfl hch6 hbx6
     have H := H.pX 0 rfl hx16
     refine pz 2 hf fun a hf => ?_
     refine sB 0 hf H TF.sz3 fun w H => ?_
     have hf := hf.pn [2, 3, 4, 5]
     refine wl_end (blk_n (then_n (sqz (pz 1 hf fun a hf => ?_))))
     refine lB 1 hf H TF.ls32 fun a hf => ?_
     refine pz 1 hf fun a hf => ?_
     refine lN 0 hf H TF.la180 fun a hf => ?_
     obtain ⟨e5, he5, hF⟩ := bs_ hF
     refine wl0 rfl (op_iaddrR hf H Tryz.underlying32 TF.sz180 0 rfl rfl rfl he5 (by decide) fun p5 o6 cs12 a hf hA5 hr12 hk5 => ?_)
     obtain rfl := Fiber_cells hr12
     refine wl0 rfl (op_storeR (e' := ({ A := e.A, B := w64 (y6.1 - 1), Length := e.Length, Risk := e.Risk } : Fiber)) (o := o6) (off := 0) hf H TF.sz180 0 rfl rfl rfl rfl rfl (nle rfl) rfl hA5 he5 (st_full (Fiber_mk (x := ({ A := e.A, B := w64 (y6.1 - 1), Length := e.Length, Risk := e.Risk } : Fiber)))) fun w H => ?_)
     replace hf : Fr a 104 [(2, (.pointer (some ⟨b2, 0, none⟩))), (3, (.pointer (some ⟨b3, 0, none⟩))), (4, (.int .i64 y2.1)), (5, (.pointer (some ⟨b4, 0, none⟩))), (98, (.pointer (some ⟨b3, 1, none⟩))), (99, (.slice A3 y.1.Fibers.length c4)), (100, (.int .i64 y2.1)), (101, (.agg #[(.int .i64 e.A), (.int .i64 (w64 (y6.1 - 1))), (.int .i64 e.Length), (.int .i64 e.Risk)])), (102, (.pointer (some ⟨p5, o6 + 0, none⟩)))] := hf.prune [2, 3, 4, 5, 98, 99, 100, 101, 102] rfl
     replace hf : Fr a 104 [(2, (.pointer (some ⟨b2, 0, none⟩))), (3, (.pointer (some ⟨b3, 0, none⟩))), (4, (.int .i64 y2.1)), (5, (.pointer (some ⟨b4, 0, none⟩))), (98, (.pointer (some ⟨b3, 1, none⟩))), (99, (.slice A3 (y.1.Fibers.set (y2.1 : Int).toNat ({ A := e.A, B := w64 (y6.1 - 1), Length := e.Length, Risk := e.Risk } : Fiber)).length c4)), (100, (.int .i64 y2.1)), (101, (.agg #[(.int .i64 e.A), (.int .i64 (w64 (y6.1 - 1))), (.int .i64 e.Length), (.int .i64 e.Risk)])), (102, (.pointer (some ⟨p5, o6 + 0, none⟩)))] := by simpa only [List.length_set, Nat.add_zero] using hf
     replace H : Mem ⟨w0, [b0]⟩ S [⟨b4, 180, [(.int .i64 e.A), (.int .i64 (w64 (y6.1 - 1))), (.int .i64 e.Length), (.int .i64 e.Risk)]⟩, ⟨b3, 34, [(.slice A2 y.1.Nodes.length c3), (.slice A3 (y.1.Fibers.set (y2.1 : Int).toNat ({ A := e.A, B := w64 (y6.1 - 1), Length := e.Length, Risk := e.Risk } : Fiber)).length c4)]⟩, ⟨b2, 34, [(.slice none 0 0), (.slice none 0 0)]⟩, ⟨b0, 101, [(.slice A y6.2.code.length c2), (.int .i64 y6.2.at_), (.int .u64 y6.2.seed.n)]⟩] [⟨.sh true, E2, A3, c4, (y.1.Fibers.set (y2.1 : Int).toNat ({ A := e.A, B := w64 (y6.1 - 1), Length := e.Length, Risk := e.Risk } : Fiber) : List Fiber)⟩, ⟨.sh true, E, A2, c3, (y.1.Nodes : List ByteArray)⟩] [] [(false, MP.val [(.slice A y6.2.code.length c2)] (y6.2.code : List By)), (false, MP.val [(.slice A y3.2.code.length c2)] (y3.2.code : List By)), (false, MP.val [(.slice A y2.2.code.length c2)] (y2.2.code : List By)), (false, MP.val [(.slice A y.2.code.length c2)] (y.2.code : List By)), (false, MP.val [(.slice A c.code.length c2)] (c.code : List By))] w := by first | (simp only [List.length_set]; exact H) | (simp only [List.length_set] at H ⊢; exact H)
     refine wr (lN 1 hf H TF.la34 fun a hf => ?_)
     refine sB 2 hf H TF.sz34 fun w H => ?_
     refine wer ?_
     have H := H.rowOwn 1 rfl rfl
     obtain ⟨F10, H⟩ := H.freezeOwn 1 rfl
     have H := H.lend 0 rfl
     have H := H.rowOwn 0 rfl rfl
     obtain ⟨F11, H⟩ := H.freezeOwn 0 rfl
     have H := H.lend 0 rfl
     have H := H.frontD 1 rfl
     obtain rfl := oi hF
     refine ret_1 hf rfl (rv_cellN hf H 2 TF.la34 rfl rfl rfl) ?_
     have hN := H.endsB2 3 rfl
     exact ⟨_, rfl, H.chg, _, H.boxAt 3 rfl, (L1CurP_mk (x := y6.2) (eB 3 (H.get 2 rfl))), ⟨fxc hx17, hx17⟩, (F10 ++ F11), ⟨_, Network_ownmk (x := ({ Nodes := y.1.Nodes, Fibers := y.1.Fibers.set (y2.1 : Int).toNat ({ A := e.A, B := w64 (y6.1 - 1), Length := e.Length, Risk := e.Risk } : Fiber) } : Network)) (H.ownAt 0 rfl) (H.ownAt 1 rfl), rfl⟩, by first | exact hN | simpa using hN⟩
    ·refine sqz (pz 2 hf fun a hf => ?_)
     refine wl_end (then_n (ib hF hf (fun hc5 hF => ?_) fun hc5 hF => ?_))
     ·refine reg (pz 1 hf fun a hf => ?_)
      refine wl0 rfl (bl hf H 3 ([0, 1, 5000, 5001] : List Int) [(.int .i64 0), (.int .i64 1), (.int .i64 5000), (.int .i64 5001)] (elI [0, 1, 5000, 5001]) fun A11 a w hf H => ?_)
      have H := H.freeze 0 rfl
      obtain ⟨y7, hy7, hF⟩ := bs_ hF
      refine oc hf TF.cl83 (spec_l1Cur_among_ok (S := NB b0) (H.boxAt 3 rfl) ((L1CurP_mk (x := y3.2) (H.nb 3 rfl (H.get 1 rfl)))) (fun h => h rfl) (mk_list (H.nb 3 rfl (H.get 0 rfl))) hy7) fun v7 w a hp9 hf => ?_
      obtain ⟨hch7, cs13, hbx7, hr13, ⟨hx18, hx19⟩, hs7⟩ := hp9
      obtain rfl := VR_int hs7
      obtain ⟨A12, c11, rfl, hl10⟩ := L1CurP_cells hr13
      obtain ⟨rfl, rfl⟩ := fx_slice hx18 rfl rfl
      have hx20 := hx19.trans hx8
      have H := H.wroteBox 3 rfl hch7 hbx7
      have H := H.pX 1 rfl hx19
      refine pz 1 hf fun a hf => ?_
      refine sB 0 hf H TF.sz3 fun w H => ?_
      have hf := hf.pn [2, 3, 4, 5]
      refine wl_end (blk_n (then_n (sqz (pz 1 hf fun a hf => ?_))))
      refine lB 1 hf H TF.ls32 fun a hf => ?_
      refine pz 1 hf fun a hf => ?_
      refine lN 0 hf H TF.la180 fun a hf => ?_
      obtain ⟨e6, he6, hF⟩ := bs_ hF
      refine wl0 rfl (op_iaddrR hf H Tryz.underlying32 TF.sz180 0 rfl rfl rfl he6 (by decide) fun p6 o7 cs14 a hf hA6 hr14 hk6 => ?_)
      obtain rfl := Fiber_cells hr14
      refine wl0 rfl (op_storeR (e' := ({ A := e.A, B := e.B, Length := y7.1, Risk := e.Risk } : Fiber)) (o := o7) (off := 0) hf H TF.sz180 0 rfl rfl rfl rfl rfl (nle rfl) rfl hA6 he6 (st_full (Fiber_mk (x := ({ A := e.A, B := e.B, Length := y7.1, Risk := e.Risk } : Fiber)))) fun w H => ?_)
      replace hf : Fr a 104 [(2, (.pointer (some ⟨b2, 0, none⟩))), (3, (.pointer (some ⟨b3, 0, none⟩))), (4, (.int .i64 y2.1)), (5, (.pointer (some ⟨b4, 0, none⟩))), (98, (.pointer (some ⟨b3, 1, none⟩))), (99, (.slice A3 y.1.Fibers.length c4)), (100, (.int .i64 y2.1)), (101, (.agg #[(.int .i64 e.A), (.int .i64 e.B), (.int .i64 y7.1), (.int .i64 e.Risk)])), (102, (.pointer (some ⟨p6, o7 + 0, none⟩)))] := hf.prune [2, 3, 4, 5, 98, 99, 100, 101, 102] rfl
      replace hf : Fr a 104 [(2, (.pointer (some ⟨b2, 0, none⟩))), (3, (.pointer (some ⟨b3, 0, none⟩))), (4, (.int .i64 y2.1)), (5, (.pointer (some ⟨b4, 0, none⟩))), (98, (.pointer (some ⟨b3, 1, none⟩))), (99, (.slice A3 (y.1.Fibers.set (y2.1 : Int).toNat ({ A := e.A, B := e.B, Length := y7.1, Risk := e.Risk } : Fiber)).length c4)), (100, (.int .i64 y2.1)), (101, (.agg #[(.int .i64 e.A), (.int .i64 e.B), (.int .i64 y7.1), (.int .i64 e.Risk)])), (102, (.pointer (some ⟨p6, o7 + 0, none⟩)))] := by simpa only [List.length_set, Nat.add_zero] using hf
      replace H : Mem ⟨w0, [b0]⟩ S [⟨b4, 180, [(.int .i64 e.A), (.int .i64 e.B), (.int .i64 y7.1), (.int .i64 e.Risk)]⟩, ⟨b3, 34, [(.slice A2 y.1.Nodes.length c3), (.slice A3 (y.1.Fibers.set (y2.1 : Int).toNat ({ A := e.A, B := e.B, Length := y7.1, Risk := e.Risk } : Fiber)).length c4)]⟩, ⟨b2, 34, [(.slice none 0 0), (.slice none 0 0)]⟩, ⟨b0, 101, [(.slice A y7.2.code.length c2), (.int .i64 y7.2.at_), (.int .u64 y7.2.seed.n)]⟩] [⟨.sh true, E2, A3, c4, (y.1.Fibers.set (y2.1 : Int).toNat ({ A := e.A, B := e.B, Length := y7.1, Risk := e.Risk } : Fiber) : List Fiber)⟩, ⟨.sh true, E, A2, c3, (y.1.Nodes : List ByteArray)⟩] [] [(false, MP.val [(.slice A y7.2.code.length c2)] (y7.2.code : List By)), (true, MP.val [(.slice A11 4 4)] ([0, 1, 5000, 5001] : List Int)), (false, MP.val [(.slice A y3.2.code.length c2)] (y3.2.code : List By)), (false, MP.val [(.slice A y2.2.code.length c2)] (y2.2.code : List By)), (false, MP.val [(.slice A y.2.code.length c2)] (y.2.code : List By)), (false, MP.val [(.slice A c.code.length c2)] (c.code : List By))] w := by first | (simp only [List.length_set]; exact H) | (simp only [List.length_set] at H ⊢; exact H)
      refine wr (lN 1 hf H TF.la34 fun a hf => ?_)
      refine sB 2 hf H TF.sz34 fun w H => ?_
      refine wer ?_
      have H := H.rowOwn 1 rfl rfl
      obtain ⟨F12, H⟩ := H.freezeOwn 1 rfl
      have H := H.lend 0 rfl
      have H := H.rowOwn 0 rfl rfl
      obtain ⟨F13, H⟩ := H.freezeOwn 0 rfl
      have H := H.lend 0 rfl
      have H := H.frontD 1 rfl
      obtain rfl := oi hF
      refine ret_1 hf rfl (rv_cellN hf H 2 TF.la34 rfl rfl rfl) ?_
      have hN := H.endsB2 3 rfl
      exact ⟨_, rfl, H.chg, _, H.boxAt 3 rfl, (L1CurP_mk (x := y7.2) (eB 3 (H.get 2 rfl))), ⟨fxc hx20, hx20⟩, (F12 ++ F13), ⟨_, Network_ownmk (x := ({ Nodes := y.1.Nodes, Fibers := y.1.Fibers.set (y2.1 : Int).toNat ({ A := e.A, B := e.B, Length := y7.1, Risk := e.Risk } : Fiber) } : Network)) (H.ownAt 0 rfl) (H.ownAt 1 rfl), rfl⟩, by first | exact hN | simpa using hN⟩
     ·refine sqz (pz 2 hf fun a hf => ?_)
      refine wl_end (then_n (ib hF hf (fun hc6 hF => ?_) fun hc6 hF => ?_))
      ·refine reg (pz 1 hf fun a hf => ?_)
       refine wl0 rfl (bl hf H 3 ([(-1), 9, 10] : List Int) [(.int .i64 (-1)), (.int .i64 9), (.int .i64 10)] (elI [(-1), 9, 10]) fun A13 a w hf H => ?_)
       have H := H.freeze 0 rfl
       obtain ⟨y8, hy8, hF⟩ := bs_ hF
       refine oc hf TF.cl83 (spec_l1Cur_among_ok (S := NB b0) (H.boxAt 3 rfl) ((L1CurP_mk (x := y3.2) (H.nb 3 rfl (H.get 1 rfl)))) (fun h => h rfl) (mk_list (H.nb 3 rfl (H.get 0 rfl))) hy8) fun v8 w a hp10 hf => ?_
       obtain ⟨hch8, cs15, hbx8, hr15, ⟨hx21, hx22⟩, hs8⟩ := hp10
       obtain rfl := VR_int hs8
       obtain ⟨A14, c12, rfl, hl11⟩ := L1CurP_cells hr15
       obtain ⟨rfl, rfl⟩ := fx_slice hx21 rfl rfl
       have hx23 := hx22.trans hx8
       have H := H.wroteBox 3 rfl hch8 hbx8
       have H := H.pX 1 rfl hx22
       refine pz 1 hf fun a hf => ?_
       refine sB 0 hf H TF.sz3 fun w H => ?_
       have hf := hf.pn [2, 3, 4, 5]
       refine wl_end (blk_n (then_n (sqz (pz 1 hf fun a hf => ?_))))
       refine lB 1 hf H TF.ls32 fun a hf => ?_
       refine pz 1 hf fun a hf => ?_
       refine lN 0 hf H TF.la180 fun a hf => ?_
       obtain ⟨e7, he7, hF⟩ := bs_ hF
       refine wl0 rfl (op_iaddrR hf H Tryz.underlying32 TF.sz180 0 rfl rfl rfl he7 (by decide) fun p7 o8 cs16 a hf hA7 hr16 hk7 => ?_)
       obtain rfl := Fiber_cells hr16
       refine wl0 rfl (op_storeR (e' := ({ A := e.A, B := e.B, Length := e.Length, Risk := y8.1 } : Fiber)) (o := o8) (off := 0) hf H TF.sz180 0 rfl rfl rfl rfl rfl (nle rfl) rfl hA7 he7 (st_full (Fiber_mk (x := ({ A := e.A, B := e.B, Length := e.Length, Risk := y8.1 } : Fiber)))) fun w H => ?_)
       replace hf : Fr a 104 [(2, (.pointer (some ⟨b2, 0, none⟩))), (3, (.pointer (some ⟨b3, 0, none⟩))), (4, (.int .i64 y2.1)), (5, (.pointer (some ⟨b4, 0, none⟩))), (98, (.pointer (some ⟨b3, 1, none⟩))), (99, (.slice A3 y.1.Fibers.length c4)), (100, (.int .i64 y2.1)), (101, (.agg #[(.int .i64 e.A), (.int .i64 e.B), (.int .i64 e.Length), (.int .i64 y8.1)])), (102, (.pointer (some ⟨p7, o8 + 0, none⟩)))] := hf.prune [2, 3, 4, 5, 98, 99, 100, 101, 102] rfl
       replace hf : Fr a 104 [(2, (.pointer (some ⟨b2, 0, none⟩))), (3, (.pointer (some ⟨b3, 0, none⟩))), (4, (.int .i64 y2.1)), (5, (.pointer (some ⟨b4, 0, none⟩))), (98, (.pointer (some ⟨b3, 1, none⟩))), (99, (.slice A3 (y.1.Fibers.set (y2.1 : Int).toNat ({ A := e.A, B := e.B, Length := e.Length, Risk := y8.1 } : Fiber)).length c4)), (100, (.int .i64 y2.1)), (101, (.agg #[(.int .i64 e.A), (.int .i64 e.B), (.int .i64 e.Length), (.int .i64 y8.1)])), (102, (.pointer (some ⟨p7, o8 + 0, none⟩)))] := by simpa only [List.length_set, Nat.add_zero] using hf
       replace H : Mem ⟨w0, [b0]⟩ S [⟨b4, 180, [(.int .i64 e.A), (.int .i64 e.B), (.int .i64 e.Length), (.int .i64 y8.1)]⟩, ⟨b3, 34, [(.slice A2 y.1.Nodes.length c3), (.slice A3 (y.1.Fibers.set (y2.1 : Int).toNat ({ A := e.A, B := e.B, Length := e.Length, Risk := y8.1 } : Fiber)).length c4)]⟩, ⟨b2, 34, [(.slice none 0 0), (.slice none 0 0)]⟩, ⟨b0, 101, [(.slice A y8.2.code.length c2), (.int .i64 y8.2.at_), (.int .u64 y8.2.seed.n)]⟩] [⟨.sh true, E2, A3, c4, (y.1.Fibers.set (y2.1 : Int).toNat ({ A := e.A, B := e.B, Length := e.Length, Risk := y8.1 } : Fiber) : List Fiber)⟩, ⟨.sh true, E, A2, c3, (y.1.Nodes : List ByteArray)⟩] [] [(false, MP.val [(.slice A y8.2.code.length c2)] (y8.2.code : List By)), (true, MP.val [(.slice A13 3 3)] ([(-1), 9, 10] : List Int)), (false, MP.val [(.slice A y3.2.code.length c2)] (y3.2.code : List By)), (false, MP.val [(.slice A y2.2.code.length c2)] (y2.2.code : List By)), (false, MP.val [(.slice A y.2.code.length c2)] (y.2.code : List By)), (false, MP.val [(.slice A c.code.length c2)] (c.code : List By))] w := by first | (simp only [List.length_set]; exact H) | (simp only [List.length_set] at H ⊢; exact H)
       refine wr (lN 1 hf H TF.la34 fun a hf => ?_)
       refine sB 2 hf H TF.sz34 fun w H => ?_
       refine wer ?_
       have H := H.rowOwn 1 rfl rfl
       obtain ⟨F14, H⟩ := H.freezeOwn 1 rfl
       have H := H.lend 0 rfl
       have H := H.rowOwn 0 rfl rfl
       obtain ⟨F15, H⟩ := H.freezeOwn 0 rfl
       have H := H.lend 0 rfl
       have H := H.frontD 1 rfl
       obtain rfl := oi hF
       refine ret_1 hf rfl (rv_cellN hf H 2 TF.la34 rfl rfl rfl) ?_
       have hN := H.endsB2 3 rfl
       exact ⟨_, rfl, H.chg, _, H.boxAt 3 rfl, (L1CurP_mk (x := y8.2) (eB 3 (H.get 2 rfl))), ⟨fxc hx23, hx23⟩, (F14 ++ F15), ⟨_, Network_ownmk (x := ({ Nodes := y.1.Nodes, Fibers := y.1.Fibers.set (y2.1 : Int).toNat ({ A := e.A, B := e.B, Length := e.Length, Risk := y8.1 } : Fiber) } : Network)) (H.ownAt 0 rfl) (H.ownAt 1 rfl), rfl⟩, by first | exact hN | simpa using hN⟩
      ·refine sqz (pz 2 hf fun a hf => ?_)
       refine wl_end (then_n (ib hF hf (fun hc7 hF => ?_) fun hc7 hF => ?_))
       ·refine dw [7, 9] 10 fun w hb => ?_
        have H := H.keep hb
        refine zp 0 hf trivial fun a hf => ?_
        refine strT (H.lt_ [false, true, false, false] [false, false] [] []) (fun w H => trivial) fun hS => ?_
        refine zS 1 [1, 7, 8, 9] rfl rfl rfl rfl hf hS (fun w H => rq_loadB hf H TF.ls32 0 rfl rfl rfl) fun a hf => ?_
        refine zp 2 hf hS fun a hf => ?_
        refine zS 3 [3, 4, 5, 6, 7, 8, 9] rfl rfl rfl rfl hf hS (fun w H => rq_loadB hf H TF.ls32 0 rfl rfl rfl) fun a hf => ?_
        obtain ⟨e8, he8, hF⟩ := bs_ hF
        obtain ⟨p8, o9, hA8, hx24⟩ := pre_iaddrR H Tryz.underlying32 TF.sz180 0 rfl he8
        refine zP 4 rfl rfl rfl rfl hf hS (fun w => rq_iaddrE hf rfl rfl rfl hx24 w) fun a hf => ?_
        refine strT (H.lt_ [false, true, false, false] [true, false] [] []) (fun w H => H.lt_ [true] [false] [] []) fun hS => ?_
        refine zS 5 [5, 6, 7, 8, 9] rfl rfl rfl rfl hf hS (fun w H => rq_loadRowN (off := 0) hf H TF.la180 0 rfl rfl hA8 he8 rfl (fun w T cs h => by obtain rfl := Fiber_cells h; rfl)) fun a hf => ?_
        refine nn 6 rfl (bl hf H 180 ([e8] : List Fiber) [(.int .i64 e8.A), (.int .i64 e8.B), (.int .i64 e8.Length), (.int .i64 e8.Risk)] (el1 (y := e8) ((Fiber_mk (x := e8)))) fun A15 a w hf H => ?_)
        have hS := H.lt_ [false, true, false, false] [false, true, false] [] []
        refine aS hS ?_
        obtain ⟨l, hl_, hF⟩ := bs_ hF
        refine nn 7 rfl (op_appR hf H Tryz.underlying32 TF.ai180 rfl (by decide) 1 0 rfl rfl rfl rfl (.inr rfl) hl_ (by decide) fun E3 A16 c13 a w hf H => ?_)
        refine ⟨fun h => absurd h (by decide), ?_⟩
        refine tp 8 rfl rfl hf (by kernel_rfl) (fun h => absurd h (by decide)) rfl fun a hf => ?_
        refine nn 9 rfl (op_storeB hf H 1 TF.sz32 rfl rfl rfl rfl rfl rfl (nle rfl) fun w H => ?_)
        refine ⟨fun h => absurd h (by decide), ?_⟩
        refine dk ?_
        have hf := hf.pn [2, 3, 4, 5]
        refine blk_n (then_n (sqz (pz 1 hf fun a hf => ?_)))
        refine lB 1 hf H TF.ls32 fun a hf => ?_
        refine pz 1 hf fun a hf => ?_
        refine lN 0 hf H TF.la180 fun a hf => ?_
        obtain ⟨e9, he9, hF⟩ := bs_ hF
        refine wl0 rfl (op_iaddrR hf H Tryz.underlying32 TF.sz180 1 rfl rfl rfl he9 (by decide) fun p9 o10 cs17 a hf hA9 hr17 hk8 => ?_)
        obtain rfl := Fiber_cells hr17
        refine wl0 rfl (op_storeR (e' := e) (o := o10) (off := 0) hf H TF.sz180 1 rfl rfl rfl rfl rfl (nle rfl) rfl hA9 he9 (st_full (Fiber_mk (x := e))) fun w H => ?_)
        replace hf : Fr a 104 [(2, (.pointer (some ⟨b2, 0, none⟩))), (3, (.pointer (some ⟨b3, 0, none⟩))), (4, (.int .i64 y2.1)), (5, (.pointer (some ⟨b4, 0, none⟩))), (98, (.pointer (some ⟨b3, 1, none⟩))), (99, (.slice A16 l.length c13)), (100, (.int .i64 y2.1)), (101, (.agg #[(.int .i64 e.A), (.int .i64 e.B), (.int .i64 e.Length), (.int .i64 e.Risk)])), (102, (.pointer (some ⟨p9, o10 + 0, none⟩)))] := hf.prune [2, 3, 4, 5, 98, 99, 100, 101, 102] rfl
        replace hf : Fr a 104 [(2, (.pointer (some ⟨b2, 0, none⟩))), (3, (.pointer (some ⟨b3, 0, none⟩))), (4, (.int .i64 y2.1)), (5, (.pointer (some ⟨b4, 0, none⟩))), (98, (.pointer (some ⟨b3, 1, none⟩))), (99, (.slice A16 (l.set (y2.1 : Int).toNat e).length c13)), (100, (.int .i64 y2.1)), (101, (.agg #[(.int .i64 e.A), (.int .i64 e.B), (.int .i64 e.Length), (.int .i64 e.Risk)])), (102, (.pointer (some ⟨p9, o10 + 0, none⟩)))] := by simpa only [List.length_set, Nat.add_zero] using hf
        replace H : Mem ⟨w0, [b0]⟩ S [⟨b4, 180, [(.int .i64 e.A), (.int .i64 e.B), (.int .i64 e.Length), (.int .i64 e.Risk)]⟩, ⟨b3, 34, [(.slice A2 y.1.Nodes.length c3), (.slice A16 (l.set (y2.1 : Int).toNat e).length c13)]⟩, ⟨b2, 34, [(.slice none 0 0), (.slice none 0 0)]⟩, ⟨b0, 101, [(.slice A y3.2.code.length c2), (.int .i64 y3.2.at_), (.int .u64 y3.2.seed.n)]⟩] [⟨.sh true, 180, A15, 1, ([e8] : List Fiber)⟩, ⟨.sh true, E3, A16, c13, (l.set (y2.1 : Int).toNat e : List Fiber)⟩, ⟨.sh true, E, A2, c3, (y.1.Nodes : List ByteArray)⟩] [] [(false, MP.val [(.slice A y3.2.code.length c2)] (y3.2.code : List By)), (false, MP.val [(.slice A y2.2.code.length c2)] (y2.2.code : List By)), (false, MP.val [(.slice A y.2.code.length c2)] (y.2.code : List By)), (false, MP.val [(.slice A c.code.length c2)] (c.code : List By))] w := by first | (simp only [List.length_set]; exact H) | (simp only [List.length_set] at H ⊢; exact H)
        refine wr (lN 1 hf H TF.la34 fun a hf => ?_)
        refine sB 2 hf H TF.sz34 fun w H => ?_
        refine wer ?_
        have H := H.rowOwn 2 rfl rfl
        obtain ⟨F16, H⟩ := H.freezeOwn 2 rfl
        have H := H.lend 0 rfl
        have H := H.rowOwn 1 rfl rfl
        obtain ⟨F17, H⟩ := H.freezeOwn 1 rfl
        have H := H.lend 0 rfl
        have H := H.frontD 1 rfl
        obtain rfl := oi hF
        refine ret_1 hf rfl (rv_cellN hf H 2 TF.la34 rfl rfl rfl) ?_
        have hN := H.endsB2 3 rfl
        exact ⟨_, rfl, H.chg, _, H.boxAt 3 rfl, (L1CurP_mk (x := y3.2) (eB 3 (H.get 2 rfl))), ⟨fxc hx8, hx8⟩, (F16 ++ F17), ⟨_, Network_ownmk (x := ({ Nodes := y.1.Nodes, Fibers := l.set (y2.1 : Int).toNat e } : Network)) (H.ownAt 0 rfl) (H.ownAt 1 rfl), rfl⟩, by first | exact hN | simpa using hN⟩
       ·refine sqz (pz 2 hf fun a hf => ?_)
        have hf := hf.pn [0, 2, 3, 4, 5, 24, 68]
        refine wl_end (then_n (ib hF hf (fun hc8 hF => ?_) fun hc8 hF => ?_))
        ·refine sq ?_
         obtain ⟨out', hB1, hF⟩ := bs_ hF
         have hf := hf.pn [0, 2, 3]
         have H := H.lt_ [false, true, true, true] [true, true] [] [0]
         refine loopC (fun (s : List Fiber × List By × Int × U64) (a : Act) (w : World) => match s with | (m, m2, m3, m4) => ∃ (A17 : Option Addr) (c14 : Nat) (E4 : Go.TypeId), m2 = c.code ∧ Fr a 104 [(0, (.pointer (some ⟨b0, 0, none⟩))), (2, (.pointer (some ⟨b2, 0, none⟩))), (3, (.pointer (some ⟨b3, 0, none⟩)))] ∧ Mem ⟨w0, [b0]⟩ S [⟨b3, 34, [(.slice A2 y.1.Nodes.length c3), (.slice A17 m.length c14)]⟩, ⟨b2, 34, [(.slice none 0 0), (.slice none 0 0)]⟩, ⟨b0, 101, [(.slice A m2.length c2), (.int .i64 m3), (.int .u64 m4.n)]⟩] [⟨.sh true, E4, A17, c14, (m : List Fiber)⟩, ⟨.sh true, E, A2, c3, (y.1.Nodes : List ByteArray)⟩] [] [(false, MP.val [(.slice A m2.length c2)] (m2 : List By))] w) (fun k (s : List Fiber × List By × Int × U64) => spec_l1Cur_anyNetwork_L1 fu k s.1 s.2.1 s.2.2.1 s.2.2.2 = some out') (fun s => out' = s) (y.1.Fibers, y3.2.code, y3.2.at_, y3.2.seed) fu hB1 ⟨A3, c4, E2, hx8, hf, H⟩ (fun s h => by cases h) ?_ ?_
         ·rintro fk ⟨m, m2, m3, m4⟩ a w hR1 hI
          replace hR1 : spec_l1Cur_anyNetwork_L1 fu (fk + 1) m m2 m3 m4 = some out' := hR1
          rw [spec_l1Cur_anyNetwork_L1] at hR1
          obtain ⟨A17, c14, E4, hsm, hf, H⟩ := hI
          refine sq (sq (dw [] 7 fun w hb => ?_))
          have H := H.keep hb
          refine zp 0 hf trivial fun a hf => ?_
          refine strT (H.lt_ [true, false, false] [false, false] [] []) (fun w H => trivial) fun hS => ?_
          refine zS 1 [] rfl rfl rfl rfl hf hS (fun w H => rq_loadB hf H TF.ls32 0 rfl rfl rfl) fun a hf => ?_
          refine zp 2 hf hS fun a hf => ?_
          refine zp 3 hf hS fun a hf => ?_
          obtain ⟨y9, hy9, hR1⟩ := bs_ hR1
          refine nn 4 rfl (oC hf TF.cl133 (spec_l1Cur_pick_ok (S := NB b0) (H.boxAt 2 rfl) ((L1CurP_mk (x := ({ code := m2, at_ := m3, seed := m4 } : L1CurP)) (H.nb 2 rfl (H.get 0 rfl)))) (fun h => h rfl) mk_int hy9) fun v9 w a hp11 hf => ?_)
          obtain ⟨hch9, cs18, hbx9, hr18, ⟨hx25, hx26⟩, hs9⟩ := hp11
          obtain rfl := VR_int hs9
          obtain ⟨A18, c15, rfl, hl12⟩ := L1CurP_cells hr18
          obtain ⟨rfl, rfl⟩ := fx_slice hx25 rfl rfl
          have hx27 := hx26.trans hsm
          have H := H.wroteBox 2 rfl hch9 hbx9
          have H := H.pX 0 rfl hx26
          have hS := H.lt_ [true, false, false] [false, false] [] []
          refine aS hS ?_
          refine zp 5 hf hS fun a hf => ?_
          refine zp 6 hf hS fun a hf => ?_
          refine dk ?_
          refine then_n (ib hR1 hf (fun hc9 hR1 => ?_) fun hc9 hR1 => ?_)
          ·refine wp_skip (then_n (wp_block (dw [11, 13] 14 fun w hb => ?_)))
           have H := H.keep hb
           refine zp 0 hf trivial fun a hf => ?_
           refine strT (H.lt_ [true, false, false] [false, false] [] []) (fun w H => trivial) fun hS => ?_
           refine zS 1 [1, 11, 12, 13] rfl rfl rfl rfl hf hS (fun w H => rq_loadB hf H TF.ls32 0 rfl rfl rfl) fun a hf => ?_
           refine zp 2 hf hS fun a hf => ?_
           refine zS 3 [3, 8, 9, 10, 11, 12, 13] rfl rfl rfl rfl hf hS (fun w H => rq_loadB hf H TF.ls32 0 rfl rfl rfl) fun a hf => ?_
           refine zp 4 hf hS fun a hf => ?_
           refine zS 5 [5, 6, 7, 8, 9, 10, 11, 12, 13] rfl rfl rfl rfl hf hS (fun w H => rq_loadB hf H TF.ls32 0 rfl rfl rfl) fun a hf => ?_
           refine zp 6 hf hS fun a hf => ?_
           refine zp 7 hf hS fun a hf => ?_
           obtain ⟨e10, he10, hR1⟩ := bs_ hR1
           obtain ⟨p10, o11, hA10, hx28⟩ := pre_iaddrR H Tryz.underlying32 TF.sz180 0 rfl he10
           refine zP 8 rfl rfl rfl rfl hf hS (fun w => rq_iaddrE hf rfl rfl rfl hx28 w) fun a hf => ?_
           refine strT (H.lt_ [true, false, false] [true, false] [] []) (fun w H => H.lt_ [true] [false] [] []) fun hS => ?_
           refine zS 9 [9, 10, 11, 12, 13] rfl rfl rfl rfl hf hS (fun w H => rq_loadRowN (off := 0) hf H TF.la180 0 rfl rfl hA10 he10 rfl (fun w T cs h => by obtain rfl := Fiber_cells h; rfl)) fun a hf => ?_
           refine nn 10 rfl (bl hf H 180 ([e10] : List Fiber) [(.int .i64 e10.A), (.int .i64 e10.B), (.int .i64 e10.Length), (.int .i64 e10.Risk)] (el1 (y := e10) ((Fiber_mk (x := e10)))) fun A19 a w hf H => ?_)
           have hS := H.lt_ [true, false, false] [false, true, false] [] []
           refine aS hS ?_
           obtain ⟨l2, hl2_, hR1⟩ := bs_ hR1
           refine nn 11 rfl (op_appR hf H Tryz.underlying32 TF.ai180 rfl (by decide) 1 0 rfl rfl rfl rfl (.inr rfl) hl2_ (by decide) fun E5 A20 c16 a w hf H => ?_)
           refine ⟨fun h => absurd h (by decide), ?_⟩
           refine tp 12 rfl rfl hf (by kernel_rfl) (fun h => absurd h (by decide)) rfl fun a hf => ?_
           refine nn 13 rfl (op_storeB hf H 0 TF.sz32 rfl rfl rfl rfl rfl rfl (nle rfl) fun w H => ?_)
           refine ⟨fun h => absurd h (by decide), ?_⟩
           refine dk ?_
           have hf := hf.pn [0, 2, 3]
           refine blk_n ?_
           have hf := hf.pn [0, 2, 3]
           have H := H.lt_ [true, true, true] [false, true, true] [] [0]
           exact then_n ⟨(l2, y9.2.code, y9.2.at_, y9.2.seed), hR1, A20, c16, E5, hx27, hf, H⟩
          ·refine wp_exit (then_x (then_x (blk_e (?_))))
           have hf := hf.pn [0, 2, 3]
           have H := H.lt_ [true, true, true] [true, true] [] [0]
           exact ⟨(m, y9.2.code, y9.2.at_, y9.2.seed), (Option.some.inj hR1).symm, A17, c14, E4, hx27, hf, H⟩
         rintro a w ⟨⟨m5, m6, m7, m8⟩, rfl, A21, c17, E6, hsm, hf, H⟩
         try dsimp only at hsm
         try dsimp only at hF
         refine then_n (sq (reg (lN 0 hf H TF.la34 fun a hf => ?_)))
         refine sB 1 hf H TF.sz34 fun w H => ?_
         refine wl_end (then_n (wp_ret (blk_r (then_r (?_)))))
         have H := H.rowOwn 1 rfl rfl
         obtain ⟨F18, H⟩ := H.freezeOwn 1 rfl
         have H := H.lend 0 rfl
         have H := H.rowOwn 0 rfl rfl
         obtain ⟨F19, H⟩ := H.freezeOwn 0 rfl
         have H := H.lend 0 rfl
         have H := H.frontD 1 rfl
         obtain rfl := oi hF
         refine ret_1 hf rfl (rv_cellN hf H 1 TF.la34 rfl rfl rfl) ?_
         have hN := H.endsB2 2 rfl
         exact ⟨_, rfl, H.chg, _, H.boxAt 2 rfl, (L1CurP_mk (x := ({ code := m6, at_ := m7, seed := m8 } : L1CurP)) (eB 2 (H.get 2 rfl))), ⟨fxc hsm, hsm⟩, (F18 ++ F19), ⟨_, Network_ownmk (x := ({ Nodes := y.1.Nodes, Fibers := m5 } : Network)) (H.ownAt 0 rfl) (H.ownAt 1 rfl), rfl⟩, by first | exact hN | simpa using hN⟩
        ·refine sqz (pz 2 hf fun a hf => ?_)
         refine wl_end (then_n (ib hF hf (fun hc10 hF => ?_) fun hc10 hF => ?_))
         ·refine reg (pz 1 hf fun a hf => ?_)
          refine lB 1 hf H TF.ls22 fun a hf => ?_
          refine wl0 rfl (bl hf H 9 ([(⟨#[112]⟩ : ByteArray), (⟨#[113]⟩ : ByteArray), (⟨#[114]⟩ : ByteArray), (⟨#[115]⟩ : ByteArray)] : List ByteArray) [(.string (⟨#[112]⟩ : ByteArray)), (.string (⟨#[113]⟩ : ByteArray)), (.string (⟨#[114]⟩ : ByteArray)), (.string (⟨#[115]⟩ : ByteArray))] (elL [([(.string (⟨#[112]⟩ : ByteArray))], ((⟨#[112]⟩ : ByteArray) : ByteArray)), ([(.string (⟨#[113]⟩ : ByteArray))], ((⟨#[113]⟩ : ByteArray) : ByteArray)), ([(.string (⟨#[114]⟩ : ByteArray))], ((⟨#[114]⟩ : ByteArray) : ByteArray)), ([(.string (⟨#[115]⟩ : ByteArray))], ((⟨#[115]⟩ : ByteArray) : ByteArray))] (al1 (x := ((⟨#[112]⟩ : ByteArray) : ByteArray)) (rfl) (al1 (x := ((⟨#[113]⟩ : ByteArray) : ByteArray)) (rfl) (al1 (x := ((⟨#[114]⟩ : ByteArray) : ByteArray)) (rfl) (al1 (x := ((⟨#[115]⟩ : ByteArray) : ByteArray)) (rfl) al0))))) fun A22 a w hf H => ?_)
          obtain ⟨l3, hl3_, hF⟩ := bs_ hF
          refine wl0 rfl (op_appR hf H Tryz.underlying22 TF.ai9 rfl (by decide) 2 0 rfl rfl rfl rfl (.inr rfl) hl3_ (by decide) fun E7 A23 c18 a w hf H => ?_)
          refine pz 1 hf fun a hf => ?_
          refine sB 1 hf H TF.sz22 fun w H => ?_
          refine wl_end (blk_n (then_n (sqz (pz 1 hf fun a hf => ?_))))
          refine lB 1 hf H TF.ls32 fun a hf => ?_
          refine pz 1 hf fun a hf => ?_
          refine lN 0 hf H TF.la180 fun a hf => ?_
          obtain ⟨e11, he11, hF⟩ := bs_ hF
          refine wl0 rfl (op_iaddrR hf H Tryz.underlying32 TF.sz180 1 rfl rfl rfl he11 (by decide) fun p11 o12 cs19 a hf hA11 hr19 hk9 => ?_)
          obtain rfl := Fiber_cells hr19
          refine wl0 rfl (op_storeR (e' := e) (o := o12) (off := 0) hf H TF.sz180 1 rfl rfl rfl rfl rfl (nle rfl) rfl hA11 he11 (st_full (Fiber_mk (x := e))) fun w H => ?_)
          replace hf : Fr a 104 [(2, (.pointer (some ⟨b2, 0, none⟩))), (3, (.pointer (some ⟨b3, 0, none⟩))), (4, (.int .i64 y2.1)), (5, (.pointer (some ⟨b4, 0, none⟩))), (98, (.pointer (some ⟨b3, 1, none⟩))), (99, (.slice A3 y.1.Fibers.length c4)), (100, (.int .i64 y2.1)), (101, (.agg #[(.int .i64 e.A), (.int .i64 e.B), (.int .i64 e.Length), (.int .i64 e.Risk)])), (102, (.pointer (some ⟨p11, o12 + 0, none⟩)))] := hf.prune [2, 3, 4, 5, 98, 99, 100, 101, 102] rfl
          replace hf : Fr a 104 [(2, (.pointer (some ⟨b2, 0, none⟩))), (3, (.pointer (some ⟨b3, 0, none⟩))), (4, (.int .i64 y2.1)), (5, (.pointer (some ⟨b4, 0, none⟩))), (98, (.pointer (some ⟨b3, 1, none⟩))), (99, (.slice A3 (y.1.Fibers.set (y2.1 : Int).toNat e).length c4)), (100, (.int .i64 y2.1)), (101, (.agg #[(.int .i64 e.A), (.int .i64 e.B), (.int .i64 e.Length), (.int .i64 e.Risk)])), (102, (.pointer (some ⟨p11, o12 + 0, none⟩)))] := by simpa only [List.length_set, Nat.add_zero] using hf
          replace H : Mem ⟨w0, [b0]⟩ S [⟨b4, 180, [(.int .i64 e.A), (.int .i64 e.B), (.int .i64 e.Length), (.int .i64 e.Risk)]⟩, ⟨b3, 34, [(.slice A23 l3.length c18), (.slice A3 (y.1.Fibers.set (y2.1 : Int).toNat e).length c4)]⟩, ⟨b2, 34, [(.slice none 0 0), (.slice none 0 0)]⟩, ⟨b0, 101, [(.slice A y3.2.code.length c2), (.int .i64 y3.2.at_), (.int .u64 y3.2.seed.n)]⟩] [⟨.sh true, 9, A22, 4, ([(⟨#[112]⟩ : ByteArray), (⟨#[113]⟩ : ByteArray), (⟨#[114]⟩ : ByteArray), (⟨#[115]⟩ : ByteArray)] : List ByteArray)⟩, ⟨.sh true, E2, A3, c4, (y.1.Fibers.set (y2.1 : Int).toNat e : List Fiber)⟩, ⟨.sh true, E7, A23, c18, (l3 : List ByteArray)⟩] [] [(false, MP.val [(.slice A y3.2.code.length c2)] (y3.2.code : List By)), (false, MP.val [(.slice A y2.2.code.length c2)] (y2.2.code : List By)), (false, MP.val [(.slice A y.2.code.length c2)] (y.2.code : List By)), (false, MP.val [(.slice A c.code.length c2)] (c.code : List By))] w := by first | (simp only [List.length_set]; exact H) | (simp only [List.length_set] at H ⊢; exact H)
          refine wr (lN 1 hf H TF.la34 fun a hf => ?_)
          refine sB 2 hf H TF.sz34 fun w H => ?_
          refine wer ?_
          have H := H.rowOwn 2 rfl rfl
          obtain ⟨F20, H⟩ := H.freezeOwn 2 rfl
          have H := H.lend 0 rfl
          have H := H.rowOwn 1 rfl rfl
          obtain ⟨F21, H⟩ := H.freezeOwn 1 rfl
          have H := H.lend 0 rfl
          have H := H.frontD 1 rfl
          obtain rfl := oi hF
          refine ret_1 hf rfl (rv_cellN hf H 2 TF.la34 rfl rfl rfl) ?_
          have hN := H.endsB2 3 rfl
          exact ⟨_, rfl, H.chg, _, H.boxAt 3 rfl, (L1CurP_mk (x := y3.2) (eB 3 (H.get 2 rfl))), ⟨fxc hx8, hx8⟩, (F20 ++ F21), ⟨_, Network_ownmk (x := ({ Nodes := l3, Fibers := y.1.Fibers.set (y2.1 : Int).toNat e } : Network)) (H.ownAt 0 rfl) (H.ownAt 1 rfl), rfl⟩, by first | exact hN | simpa using hN⟩
         ·refine wp_skip (blk_n (then_n (sqz (pz 1 hf fun a hf => ?_))))
          refine lB 1 hf H TF.ls32 fun a hf => ?_
          refine pz 1 hf fun a hf => ?_
          refine lN 0 hf H TF.la180 fun a hf => ?_
          obtain ⟨e12, he12, hF⟩ := bs_ hF
          refine wl0 rfl (op_iaddrR hf H Tryz.underlying32 TF.sz180 0 rfl rfl rfl he12 (by decide) fun p12 o13 cs20 a hf hA12 hr20 hk10 => ?_)
          obtain rfl := Fiber_cells hr20
          refine wl0 rfl (op_storeR (e' := e) (o := o13) (off := 0) hf H TF.sz180 0 rfl rfl rfl rfl rfl (nle rfl) rfl hA12 he12 (st_full (Fiber_mk (x := e))) fun w H => ?_)
          replace hf : Fr a 104 [(2, (.pointer (some ⟨b2, 0, none⟩))), (3, (.pointer (some ⟨b3, 0, none⟩))), (4, (.int .i64 y2.1)), (5, (.pointer (some ⟨b4, 0, none⟩))), (98, (.pointer (some ⟨b3, 1, none⟩))), (99, (.slice A3 y.1.Fibers.length c4)), (100, (.int .i64 y2.1)), (101, (.agg #[(.int .i64 e.A), (.int .i64 e.B), (.int .i64 e.Length), (.int .i64 e.Risk)])), (102, (.pointer (some ⟨p12, o13 + 0, none⟩)))] := hf.prune [2, 3, 4, 5, 98, 99, 100, 101, 102] rfl
          replace hf : Fr a 104 [(2, (.pointer (some ⟨b2, 0, none⟩))), (3, (.pointer (some ⟨b3, 0, none⟩))), (4, (.int .i64 y2.1)), (5, (.pointer (some ⟨b4, 0, none⟩))), (98, (.pointer (some ⟨b3, 1, none⟩))), (99, (.slice A3 (y.1.Fibers.set (y2.1 : Int).toNat e).length c4)), (100, (.int .i64 y2.1)), (101, (.agg #[(.int .i64 e.A), (.int .i64 e.B), (.int .i64 e.Length), (.int .i64 e.Risk)])), (102, (.pointer (some ⟨p12, o13 + 0, none⟩)))] := by simpa only [List.length_set, Nat.add_zero] using hf
          replace H : Mem ⟨w0, [b0]⟩ S [⟨b4, 180, [(.int .i64 e.A), (.int .i64 e.B), (.int .i64 e.Length), (.int .i64 e.Risk)]⟩, ⟨b3, 34, [(.slice A2 y.1.Nodes.length c3), (.slice A3 (y.1.Fibers.set (y2.1 : Int).toNat e).length c4)]⟩, ⟨b2, 34, [(.slice none 0 0), (.slice none 0 0)]⟩, ⟨b0, 101, [(.slice A y3.2.code.length c2), (.int .i64 y3.2.at_), (.int .u64 y3.2.seed.n)]⟩] [⟨.sh true, E2, A3, c4, (y.1.Fibers.set (y2.1 : Int).toNat e : List Fiber)⟩, ⟨.sh true, E, A2, c3, (y.1.Nodes : List ByteArray)⟩] [] [(false, MP.val [(.slice A y3.2.code.length c2)] (y3.2.code : List By)), (false, MP.val [(.slice A y2.2.code.length c2)] (y2.2.code : List By)), (false, MP.val [(.slice A y.2.code.length c2)] (y.2.code : List By)), (false, MP.val [(.slice A c.code.length c2)] (c.code : List By))] w := by first | (simp only [List.length_set]; exact H) | (simp only [List.length_set] at H ⊢; exact H)
          refine wr (lN 1 hf H TF.la34 fun a hf => ?_)
          refine sB 2 hf H TF.sz34 fun w H => ?_
          refine wer ?_
          have H := H.rowOwn 1 rfl rfl
          obtain ⟨F22, H⟩ := H.freezeOwn 1 rfl
          have H := H.lend 0 rfl
          have H := H.rowOwn 0 rfl rfl
          obtain ⟨F23, H⟩ := H.freezeOwn 0 rfl
          have H := H.lend 0 rfl
          have H := H.frontD 1 rfl
          obtain rfl := oi hF
          refine ret_1 hf rfl (rv_cellN hf H 2 TF.la34 rfl rfl rfl) ?_
          have hN := H.endsB2 3 rfl
          exact ⟨_, rfl, H.chg, _, H.boxAt 3 rfl, (L1CurP_mk (x := y3.2) (eB 3 (H.get 2 rfl))), ⟨fxc hx8, hx8⟩, (F22 ++ F23), ⟨_, Network_ownmk (x := ({ Nodes := y.1.Nodes, Fibers := y.1.Fibers.set (y2.1 : Int).toNat e } : Network)) (H.ownAt 0 rfl) (H.ownAt 1 rfl), rfl⟩, by first | exact hN | simpa using hN⟩
theorem spec_l1Cur_anyPlan_ok {S : Nat → Prop} {b0 : Nat} {cs0 : List Value} {c : L1CurP} {r : Plan × L1CurP} (hp0 : w0.heap[b0]? = some (.cells cs0.toArray 101 (0, 0))) (hr0 : GoTy.rep w0 S cs0 c) (hS0 : ¬ S b0) (hF : spec_l1Cur_anyPlan fu c = some r) :
    Calls Tryz.prog 81 [(.pointer (some ⟨b0, 0, none⟩))].toArray w0 fun e w' => ∃ v, e = .returned v ∧ (∃ cs', GoTy.rep w' (fun _ => True) cs' r.2 ∧ (cs'[0]? = cs0[0]? ∧ r.2.code = c.code) ∧ (∃ (A0_0 : Option Addr) (c0_0 : Nat) (F0_0 : List Nat) (A0_1 : Option Addr) (c0_1 : Nat) (F0_1 : List Nat) (A0_2 : Option Addr) (c0_2 : Nat) (E0_2 : Go.TypeId), v = (.agg #[(.slice A0_0 r.1.Network.Nodes.length c0_0), (.slice A0_1 r.1.Network.Fibers.length c0_1), (.slice A0_2 r.1.Lights.length c0_2)]) ∧ Mem ⟨w0, [b0]⟩ S [⟨b0, 101, cs'⟩] [⟨.sh true, E0_2, A0_2, c0_2, (r.1.Lights : List Light)⟩] [⟨F0_0, MP.own F0_0 [(.slice A0_0 r.1.Network.Nodes.length c0_0)] (r.1.Network.Nodes : List ByteArray)⟩, ⟨F0_1, MP.own F0_1 [(.slice A0_1 r.1.Network.Fibers.length c0_1)] (r.1.Network.Fibers : List Fiber)⟩] [] w')) := by
 obtain ⟨A, c2, rfl, hl⟩ := L1CurP_cells hr0
 have H := Mem.startB S hp0
 have H := H.pB hS0 hl
 refine en Tryz.func81 fun a hf => ?_
 rw [spec_l1Cur_anyPlan] at hF
 refine sq (reg (aL hf H TF.zv37 fun b2 a w hf H => ?_))
 refine wr (pz 1 hf fun a hf => ?_)
 obtain ⟨y, hy, hF⟩ := bs_ hF
 refine oc hf TF.cl152 (spec_l1Cur_plan_ok (S := NB b0) (H.boxAt 1 rfl) ((L1CurP_mk (x := c) (H.nb 1 rfl (H.get 0 rfl)))) (fun h => h rfl) hy) fun v w a hp2 hf => ?_
 obtain ⟨cs2, hr2, ⟨hx, hx2⟩, A2, c3, F, A3, c4, F2, A4, c5, E, rfl, Hc⟩ := hp2
 obtain ⟨A5, c6, rfl, hl2⟩ := L1CurP_cells hr2
 obtain ⟨rfl, rfl⟩ := fx_slice hx rfl rfl
 have H := H.compB 1 rfl Hc (.inl rfl)
 have H := H.pX 0 rfl hx2
 have H := H.lend 0 rfl
 have H := H.lend 1 rfl
 refine aL hf H TF.zv37 fun b3 a w hf H => ?_
 refine sB 0 hf H TF.sz37 fun w H => ?_
 refine we (sqz (pz 1 hf fun a hf => ?_))
 refine lB 0 hf H TF.ls35 fun a hf => ?_
 refine pz 2 hf fun a hf => ?_
 refine wl_end (then_n (ib hF hf (fun hc hF => ?_) fun hc hF => ?_))
 ·refine sq (reg (lN 0 hf H TF.la37 fun a hf => ?_))
  refine sB 1 hf H TF.sz37 fun w H => ?_
  refine wl_end (then_n (wp_ret (then_r (?_))))
  have hcell : GoTy.rep w (fun _ => True) [(.slice A y.2.code.length c2), (.int .i64 y.2.at_), (.int .u64 y.2.seed.n)] (y.2 : L1CurP) := (L1CurP_mk (x := y.2) (H.rt 2 rfl))
  have H := H.frontD 1 rfl
  have H := H.frontD 1 rfl
  obtain rfl := oi hF
  refine ret_1 hf rfl (rv_cellN hf H 1 TF.la37 rfl rfl rfl) ?_
  have H := H.lt_ [false, false, true] [true] [true, true] []
  exact ⟨_, rfl, _, hcell, ⟨fxc hx2, hx2⟩, A2, c3, F, A3, c4, F2, A4, c5, E, rfl, H⟩
 ·refine wp_skip (then_n (sqz (pz 2 hf fun a hf => ?_)))
  refine lB 0 hf H TF.ls35 fun a hf => ?_
  refine pz 1 hf fun a hf => ?_
  obtain ⟨y2, hy2, hF⟩ := bs_ hF
  refine oc hf TF.cl133 (spec_l1Cur_pick_ok (S := NB b0) (H.boxAt 2 rfl) ((L1CurP_mk (x := y.2) (H.nb 2 rfl (H.get 2 rfl)))) (fun h => h rfl) mk_int hy2) fun v2 w a hp3 hf => ?_
  obtain ⟨hch, cs3, hbx, hr3, ⟨hx3, hx4⟩, hs⟩ := hp3
  obtain rfl := VR_int hs
  obtain ⟨A6, c7, rfl, hl3⟩ := L1CurP_cells hr3
  obtain ⟨rfl, rfl⟩ := fx_slice hx3 rfl rfl
  have hx5 := hx4.trans hx2
  have H := H.wroteBox 2 rfl hch hbx
  have H := H.pX 2 rfl hx4
  refine pz 1 hf fun a hf => ?_
  refine wr (pz 1 hf fun a hf => ?_)
  refine lB 0 hf H TF.ls35 fun a hf => ?_
  refine pz 1 hf fun a hf => ?_
  obtain ⟨e, he, hF⟩ := bs_ hF
  refine wl0 rfl (op_iaddrR hf H Tryz.underlying35 TF.sz73 0 rfl rfl rfl he (by decide) fun p o2 cs4 a hf hA hr4 hk => ?_)
  obtain ⟨A7, c8, rfl, hl4⟩ := Light_cells hr4
  have H := H.pT hl4
  refine oq hf (rq_loadN hf TF.la73 rfl rfl (fun j c hj => hk _ c (by simpa using hj))) fun a hf => ?_
  refine aL hf H TF.zv73 fun b4 a w hf H => ?_
  refine sB 0 hf H TF.sz73 fun w H => ?_
  have hf := hf.pn [0, 2, 3, 4, 5]
  refine we (sqz (pz 1 hf fun a hf => ?_))
  obtain ⟨y3, hy3, hF⟩ := bs_ hF
  refine oc hf TF.cl133 (spec_l1Cur_pick_ok (S := NB b0) (H.boxAt 3 rfl) ((L1CurP_mk (x := y2.2) (H.nb 3 rfl (H.get 1 rfl)))) (fun h => h rfl) mk_int hy3) fun v3 w a hp4 hf => ?_
  obtain ⟨hch2, cs5, hbx2, hr5, ⟨hx6, hx7⟩, hs2⟩ := hp4
  obtain rfl := VR_int hs2
  obtain ⟨A8, c9, rfl, hl5⟩ := L1CurP_cells hr5
  obtain ⟨rfl, rfl⟩ := fx_slice hx6 rfl rfl
  have hx8 := hx7.trans hx5
  have H := H.wroteBox 3 rfl hch2 hbx2
  have H := H.pX 1 rfl hx7
  refine wl_end (then_n (wp_block (sqz (pz 2 hf fun a hf => ?_))))
  refine wl_end (then_n (ib hF hf (fun hc2 hF => ?_) fun hc2 hF => ?_))
  ·refine reg (pz 1 hf fun a hf => ?_)
   refine wl0 rfl (bl hf H 3 ([0, 999, 1000, 1, 4] : List Int) [(.int .i64 0), (.int .i64 999), (.int .i64 1000), (.int .i64 1), (.int .i64 4)] (elI [0, 999, 1000, 1, 4]) fun A9 a w hf H => ?_)
   have H := H.freeze 0 rfl
   obtain ⟨y4, hy4, hF⟩ := bs_ hF
   refine oc hf TF.cl83 (spec_l1Cur_among_ok (S := NB b0) (H.boxAt 3 rfl) ((L1CurP_mk (x := y3.2) (H.nb 3 rfl (H.get 1 rfl)))) (fun h => h rfl) (mk_list (H.nb 3 rfl (H.get 0 rfl))) hy4) fun v4 w a hp5 hf => ?_
   obtain ⟨hch3, cs6, hbx3, hr6, ⟨hx9, hx10⟩, hs3⟩ := hp5
   obtain rfl := VR_int hs3
   obtain ⟨A10, c10, rfl, hl6⟩ := L1CurP_cells hr6
   obtain ⟨rfl, rfl⟩ := fx_slice hx9 rfl rfl
   have hx11 := hx10.trans hx8
   have H := H.wroteBox 3 rfl hch3 hbx3
   have H := H.pX 1 rfl hx10
   refine pz 1 hf fun a hf => ?_
   refine sB 0 hf H TF.sz3 fun w H => ?_
   refine wl_end (blk_n (then_n (sqz (pz 1 hf fun a hf => ?_))))
   refine lB 1 hf H TF.ls35 fun a hf => ?_
   refine pz 1 hf fun a hf => ?_
   refine lN 0 hf H TF.la73 fun a hf => ?_
   obtain ⟨e2, he2, hF⟩ := bs_ hF
   refine wl0 rfl (op_iaddrR hf H Tryz.underlying35 TF.sz73 0 rfl rfl rfl he2 (by decide) fun p2 o3 cs7 a hf hA2 hr7 hk2 => ?_)
   obtain ⟨A11, c11, rfl, hl7⟩ := Light_cells hr7
   have H := H.pT hl7
   refine wl0 rfl (op_storeR (e' := ({ Id := y4.1, Route := e.Route, Block := e.Block } : Light)) (o := o3) (off := 0) hf H TF.sz73 0 rfl rfl rfl rfl rfl (nle rfl) rfl hA2 he2 (st_full (Light_mk (x := ({ Id := y4.1, Route := e.Route, Block := e.Block } : Light)) (H.get 4 rfl))) fun w H => ?_)
   replace hf : Fr a 98 [(2, (.pointer (some ⟨b2, 0, none⟩))), (3, (.pointer (some ⟨b3, 0, none⟩))), (4, (.int .i64 y2.1)), (5, (.pointer (some ⟨b4, 0, none⟩))), (92, (.pointer (some ⟨b3, 2, none⟩))), (93, (.slice A4 y.1.Lights.length c5)), (94, (.int .i64 y2.1)), (95, (.agg #[(.int .i64 y4.1), (.int .i64 e.Route.Start), (.slice A7 e.Route.Fibers.length c8), (.int .i64 e.Block.First), (.int .i64 e.Block.Count)])), (96, (.pointer (some ⟨p2, o3 + 0, none⟩)))] := hf.prune [2, 3, 4, 5, 92, 93, 94, 95, 96] rfl
   replace hf : Fr a 98 [(2, (.pointer (some ⟨b2, 0, none⟩))), (3, (.pointer (some ⟨b3, 0, none⟩))), (4, (.int .i64 y2.1)), (5, (.pointer (some ⟨b4, 0, none⟩))), (92, (.pointer (some ⟨b3, 2, none⟩))), (93, (.slice A4 (y.1.Lights.set (y2.1 : Int).toNat ({ Id := y4.1, Route := e.Route, Block := e.Block } : Light)).length c5)), (94, (.int .i64 y2.1)), (95, (.agg #[(.int .i64 y4.1), (.int .i64 e.Route.Start), (.slice A7 e.Route.Fibers.length c8), (.int .i64 e.Block.First), (.int .i64 e.Block.Count)])), (96, (.pointer (some ⟨p2, o3 + 0, none⟩)))] := by simpa only [List.length_set, Nat.add_zero] using hf
   replace H : Mem ⟨w0, [b0]⟩ S [⟨b4, 73, [(.int .i64 y4.1), (.int .i64 e.Route.Start), (.slice A7 e.Route.Fibers.length c8), (.int .i64 e.Block.First), (.int .i64 e.Block.Count)]⟩, ⟨b3, 37, [(.slice A2 y.1.Network.Nodes.length c3), (.slice A3 y.1.Network.Fibers.length c4), (.slice A4 (y.1.Lights.set (y2.1 : Int).toNat ({ Id := y4.1, Route := e.Route, Block := e.Block } : Light)).length c5)]⟩, ⟨b2, 37, [(.slice none 0 0), (.slice none 0 0), (.slice none 0 0)]⟩, ⟨b0, 101, [(.slice A y4.2.code.length c2), (.int .i64 y4.2.at_), (.int .u64 y4.2.seed.n)]⟩] [⟨.sh true, E, A4, c5, (y.1.Lights.set (y2.1 : Int).toNat ({ Id := y4.1, Route := e.Route, Block := e.Block } : Light) : List Light)⟩] [⟨F, MP.own F [(.slice A2 y.1.Network.Nodes.length c3)] (y.1.Network.Nodes : List ByteArray)⟩, ⟨F2, MP.own F2 [(.slice A3 y.1.Network.Fibers.length c4)] (y.1.Network.Fibers : List Fiber)⟩] [(true, MP.val [(.slice A11 e2.Route.Fibers.length c11)] (e2.Route.Fibers : List Int)), (false, MP.val [(.slice A y4.2.code.length c2)] (y4.2.code : List By)), (true, MP.val [(.slice A9 5 5)] ([0, 999, 1000, 1, 4] : List Int)), (false, MP.val [(.slice A y3.2.code.length c2)] (y3.2.code : List By)), (true, MP.val [(.slice A7 e.Route.Fibers.length c8)] (e.Route.Fibers : List Int)), (false, MP.val [(.slice A y2.2.code.length c2)] (y2.2.code : List By)), (true, MP.val [(.slice A3 y.1.Network.Fibers.length c4)] (y.1.Network.Fibers : List Fiber)), (true, MP.val [(.slice A2 y.1.Network.Nodes.length c3)] (y.1.Network.Nodes : List ByteArray)), (false, MP.val [(.slice A y.2.code.length c2)] (y.2.code : List By)), (false, MP.val [(.slice A c.code.length c2)] (c.code : List By))] w := by first | (simp only [List.length_set]; exact H) | (simp only [List.length_set] at H ⊢; exact H)
   refine wr (lN 1 hf H TF.la37 fun a hf => ?_)
   refine sB 2 hf H TF.sz37 fun w H => ?_
   refine wer ?_
   have hcell : GoTy.rep w (fun _ => True) [(.slice A y4.2.code.length c2), (.int .i64 y4.2.at_), (.int .u64 y4.2.seed.n)] (y4.2 : L1CurP) := (L1CurP_mk (x := y4.2) (H.rt 1 rfl))
   have H := H.frontD 1 rfl
   have H := H.frontD 1 rfl
   obtain rfl := oi hF
   refine ret_1 hf rfl (rv_cellN hf H 2 TF.la37 rfl rfl rfl) ?_
   have H := H.lt_ [false, false, false, true] [true] [true, true] []
   exact ⟨_, rfl, _, hcell, ⟨fxc hx11, hx11⟩, A2, c3, F, A3, c4, F2, A4, c5, E, rfl, H⟩
  ·refine sqz (pz 2 hf fun a hf => ?_)
   refine wl_end (then_n (ib hF hf (fun hc3 hF => ?_) fun hc3 hF => ?_))
   ·refine reg (pz 1 hf fun a hf => ?_)
    obtain ⟨y5, hy5, hF⟩ := bs_ hF
    refine oc hf TF.cl153 (spec_l1Cur_block_ok (S := NB b0) (H.boxAt 3 rfl) ((L1CurP_mk (x := y3.2) (H.nb 3 rfl (H.get 0 rfl)))) (fun h => h rfl) hy5) fun v5 w a hp6 hf => ?_
    obtain ⟨hch4, cs8, hbx4, hr8, ⟨hx12, hx13⟩, hs4⟩ := hp6
    obtain rfl := Block_open hs4
    obtain ⟨A12, c12, rfl, hl8⟩ := L1CurP_cells hr8
    obtain ⟨rfl, rfl⟩ := fx_slice hx12 rfl rfl
    have hx14 := hx13.trans hx8
    have H := H.wroteBox 3 rfl hch4 hbx4
    have H := H.pX 0 rfl hx13
    refine pz 1 hf fun a hf => ?_
    refine sB 0 hf H TF.sz71 fun w H => ?_
    refine wl_end (blk_n (then_n (sqz (pz 1 hf fun a hf => ?_))))
    refine lB 1 hf H TF.ls35 fun a hf => ?_
    refine pz 1 hf fun a hf => ?_
    refine lN 0 hf H TF.la73 fun a hf => ?_
    obtain ⟨e3, he3, hF⟩ := bs_ hF
    refine wl0 rfl (op_iaddrR hf H Tryz.underlying35 TF.sz73 0 rfl rfl rfl he3 (by decide) fun p3 o4 cs9 a hf hA3 hr9 hk3 => ?_)
    obtain ⟨A13, c13, rfl, hl9⟩ := Light_cells hr9
    have H := H.pT hl9
    refine wl0 rfl (op_storeR (e' := ({ Id := e.Id, Route := e.Route, Block := y5.1 } : Light)) (o := o4) (off := 0) hf H TF.sz73 0 rfl rfl rfl rfl rfl (nle rfl) rfl hA3 he3 (st_full (Light_mk (x := ({ Id := e.Id, Route := e.Route, Block := y5.1 } : Light)) (H.get 3 rfl))) fun w H => ?_)
    replace hf : Fr a 98 [(2, (.pointer (some ⟨b2, 0, none⟩))), (3, (.pointer (some ⟨b3, 0, none⟩))), (4, (.int .i64 y2.1)), (5, (.pointer (some ⟨b4, 0, none⟩))), (92, (.pointer (some ⟨b3, 2, none⟩))), (93, (.slice A4 y.1.Lights.length c5)), (94, (.int .i64 y2.1)), (95, (.agg #[(.int .i64 e.Id), (.int .i64 e.Route.Start), (.slice A7 e.Route.Fibers.length c8), (.int .i64 y5.1.First), (.int .i64 y5.1.Count)])), (96, (.pointer (some ⟨p3, o4 + 0, none⟩)))] := hf.prune [2, 3, 4, 5, 92, 93, 94, 95, 96] rfl
    replace hf : Fr a 98 [(2, (.pointer (some ⟨b2, 0, none⟩))), (3, (.pointer (some ⟨b3, 0, none⟩))), (4, (.int .i64 y2.1)), (5, (.pointer (some ⟨b4, 0, none⟩))), (92, (.pointer (some ⟨b3, 2, none⟩))), (93, (.slice A4 (y.1.Lights.set (y2.1 : Int).toNat ({ Id := e.Id, Route := e.Route, Block := y5.1 } : Light)).length c5)), (94, (.int .i64 y2.1)), (95, (.agg #[(.int .i64 e.Id), (.int .i64 e.Route.Start), (.slice A7 e.Route.Fibers.length c8), (.int .i64 y5.1.First), (.int .i64 y5.1.Count)])), (96, (.pointer (some ⟨p3, o4 + 0, none⟩)))] := by simpa only [List.length_set, Nat.add_zero] using hf
    replace H : Mem ⟨w0, [b0]⟩ S [⟨b4, 73, [(.int .i64 e.Id), (.int .i64 e.Route.Start), (.slice A7 e.Route.Fibers.length c8), (.int .i64 y5.1.First), (.int .i64 y5.1.Count)]⟩, ⟨b3, 37, [(.slice A2 y.1.Network.Nodes.length c3), (.slice A3 y.1.Network.Fibers.length c4), (.slice A4 (y.1.Lights.set (y2.1 : Int).toNat ({ Id := e.Id, Route := e.Route, Block := y5.1 } : Light)).length c5)]⟩, ⟨b2, 37, [(.slice none 0 0), (.slice none 0 0), (.slice none 0 0)]⟩, ⟨b0, 101, [(.slice A y5.2.code.length c2), (.int .i64 y5.2.at_), (.int .u64 y5.2.seed.n)]⟩] [⟨.sh true, E, A4, c5, (y.1.Lights.set (y2.1 : Int).toNat ({ Id := e.Id, Route := e.Route, Block := y5.1 } : Light) : List Light)⟩] [⟨F, MP.own F [(.slice A2 y.1.Network.Nodes.length c3)] (y.1.Network.Nodes : List ByteArray)⟩, ⟨F2, MP.own F2 [(.slice A3 y.1.Network.Fibers.length c4)] (y.1.Network.Fibers : List Fiber)⟩] [(true, MP.val [(.slice A13 e3.Route.Fibers.length c13)] (e3.Route.Fibers : List Int)), (false, MP.val [(.slice A y5.2.code.length c2)] (y5.2.code : List By)), (false, MP.val [(.slice A y3.2.code.length c2)] (y3.2.code : List By)), (true, MP.val [(.slice A7 e.Route.Fibers.length c8)] (e.Route.Fibers : List Int)), (false, MP.val [(.slice A y2.2.code.length c2)] (y2.2.code : List By)), (true, MP.val [(.slice A3 y.1.Network.Fibers.length c4)] (y.1.Network.Fibers : List Fiber)), (true, MP.val [(.slice A2 y.1.Network.Nodes.length c3)] (y.1.Network.Nodes : List ByteArray)), (false, MP.val [(.slice A y.2.code.length c2)] (y.2.code : List By)), (false, MP.val [(.slice A c.code.length c2)] (c.code : List By))] w := by first | (simp only [List.length_set]; exact H) | (simp only [List.length_set] at H ⊢; exact H)
    refine wr (lN 1 hf H TF.la37 fun a hf => ?_)
    refine sB 2 hf H TF.sz37 fun w H => ?_
    refine wer ?_
    have hcell : GoTy.rep w (fun _ => True) [(.slice A y5.2.code.length c2), (.int .i64 y5.2.at_), (.int .u64 y5.2.seed.n)] (y5.2 : L1CurP) := (L1CurP_mk (x := y5.2) (H.rt 1 rfl))
    have H := H.frontD 1 rfl
    have H := H.frontD 1 rfl
    obtain rfl := oi hF
    refine ret_1 hf rfl (rv_cellN hf H 2 TF.la37 rfl rfl rfl) ?_
    have H := H.lt_ [false, false, false, true] [true] [true, true] []
    exact ⟨_, rfl, _, hcell, ⟨fxc hx14, hx14⟩, A2, c3, F, A3, c4, F2, A4, c5, E, rfl, H⟩
   ·refine sqz (pz 2 hf fun a hf => ?_)
    refine wl_end (then_n (ib hF hf (fun hc4 hF => ?_) fun hc4 hF => ?_))
    ·refine reg (pz 2 hf fun a hf => ?_)
     refine lN 1 hf H TF.la34 fun a hf => ?_
     obtain ⟨y6, hy6, hF⟩ := bs_ hF
     refine oc hf TF.cl135 (spec_l1Cur_anyRoute_ok (S := NB b0) (H.boxAt 3 rfl) ((L1CurP_mk (x := y3.2) (H.nb 3 rfl (H.get 0 rfl)))) (fun h => h rfl) (Network_mkv (x := y.1.Network) (H.nb 3 rfl (H.get 4 rfl)) (H.nb 3 rfl (H.get 3 rfl))) hy6) fun v6 w a hp7 hf => ?_
     obtain ⟨hch5, cs10, hbx5, hr10, ⟨hx15, hx16⟩, hs5⟩ := hp7
     obtain ⟨F3, hp8, hN⟩ := hs5
     obtain ⟨A14, c14, F4, rfl, rfl, hl10⟩ := Route_vo hp8
     obtain ⟨A15, c15, rfl, hl11⟩ := L1CurP_cells hr10
     obtain ⟨rfl, rfl⟩ := fx_slice hx15 rfl rfl
     have hx17 := hx16.trans hx8
     have H := H.bO1 3 rfl hch5 hbx5 hN hl10
     have H := H.pX 0 rfl hx16
     have H := H.lend 0 rfl
     refine pz 1 hf fun a hf => ?_
     refine sB 0 hf H TF.sz59 fun w H => ?_
     have hf := hf.pn [2, 3, 4, 5]
     refine wl_end (blk_n (then_n (sqz (pz 1 hf fun a hf => ?_))))
     refine lB 1 hf H TF.ls35 fun a hf => ?_
     refine pz 1 hf fun a hf => ?_
     refine lN 0 hf H TF.la73 fun a hf => ?_
     obtain ⟨e4, he4, hF⟩ := bs_ hF
     refine wl0 rfl (op_iaddrR hf H Tryz.underlying35 TF.sz73 0 rfl rfl rfl he4 (by decide) fun p4 o5 cs11 a hf hA4 hr11 hk4 => ?_)
     obtain ⟨A16, c16, rfl, hl12⟩ := Light_cells hr11
     have H := H.pT hl12
     refine wl0 rfl (op_storeR (e' := ({ Id := e.Id, Route := y6.1, Block := e.Block } : Light)) (o := o5) (off := 0) hf H TF.sz73 0 rfl rfl rfl rfl rfl (nle rfl) rfl hA4 he4 (st_full (Light_mk (x := ({ Id := e.Id, Route := y6.1, Block := e.Block } : Light)) (H.get 1 rfl))) fun w H => ?_)
     replace hf : Fr a 98 [(2, (.pointer (some ⟨b2, 0, none⟩))), (3, (.pointer (some ⟨b3, 0, none⟩))), (4, (.int .i64 y2.1)), (5, (.pointer (some ⟨b4, 0, none⟩))), (92, (.pointer (some ⟨b3, 2, none⟩))), (93, (.slice A4 y.1.Lights.length c5)), (94, (.int .i64 y2.1)), (95, (.agg #[(.int .i64 e.Id), (.int .i64 y6.1.Start), (.slice A14 y6.1.Fibers.length c14), (.int .i64 e.Block.First), (.int .i64 e.Block.Count)])), (96, (.pointer (some ⟨p4, o5 + 0, none⟩)))] := hf.prune [2, 3, 4, 5, 92, 93, 94, 95, 96] rfl
     replace hf : Fr a 98 [(2, (.pointer (some ⟨b2, 0, none⟩))), (3, (.pointer (some ⟨b3, 0, none⟩))), (4, (.int .i64 y2.1)), (5, (.pointer (some ⟨b4, 0, none⟩))), (92, (.pointer (some ⟨b3, 2, none⟩))), (93, (.slice A4 (y.1.Lights.set (y2.1 : Int).toNat ({ Id := e.Id, Route := y6.1, Block := e.Block } : Light)).length c5)), (94, (.int .i64 y2.1)), (95, (.agg #[(.int .i64 e.Id), (.int .i64 y6.1.Start), (.slice A14 y6.1.Fibers.length c14), (.int .i64 e.Block.First), (.int .i64 e.Block.Count)])), (96, (.pointer (some ⟨p4, o5 + 0, none⟩)))] := by simpa only [List.length_set, Nat.add_zero] using hf
     replace H : Mem ⟨w0, [b0]⟩ S [⟨b4, 73, [(.int .i64 e.Id), (.int .i64 y6.1.Start), (.slice A14 y6.1.Fibers.length c14), (.int .i64 e.Block.First), (.int .i64 e.Block.Count)]⟩, ⟨b3, 37, [(.slice A2 y.1.Network.Nodes.length c3), (.slice A3 y.1.Network.Fibers.length c4), (.slice A4 (y.1.Lights.set (y2.1 : Int).toNat ({ Id := e.Id, Route := y6.1, Block := e.Block } : Light)).length c5)]⟩, ⟨b2, 37, [(.slice none 0 0), (.slice none 0 0), (.slice none 0 0)]⟩, ⟨b0, 101, [(.slice A y6.2.code.length c2), (.int .i64 y6.2.at_), (.int .u64 y6.2.seed.n)]⟩] [⟨.sh true, E, A4, c5, (y.1.Lights.set (y2.1 : Int).toNat ({ Id := e.Id, Route := y6.1, Block := e.Block } : Light) : List Light)⟩] [⟨F4, MP.own F4 [(.slice A14 y6.1.Fibers.length c14)] (y6.1.Fibers : List Int)⟩, ⟨F, MP.own F [(.slice A2 y.1.Network.Nodes.length c3)] (y.1.Network.Nodes : List ByteArray)⟩, ⟨F2, MP.own F2 [(.slice A3 y.1.Network.Fibers.length c4)] (y.1.Network.Fibers : List Fiber)⟩] [(true, MP.val [(.slice A16 e4.Route.Fibers.length c16)] (e4.Route.Fibers : List Int)), (true, MP.val [(.slice A14 y6.1.Fibers.length c14)] (y6.1.Fibers : List Int)), (false, MP.val [(.slice A y6.2.code.length c2)] (y6.2.code : List By)), (false, MP.val [(.slice A y3.2.code.length c2)] (y3.2.code : List By)), (true, MP.val [(.slice A7 e.Route.Fibers.length c8)] (e.Route.Fibers : List Int)), (false, MP.val [(.slice A y2.2.code.length c2)] (y2.2.code : List By)), (true, MP.val [(.slice A3 y.1.Network.Fibers.length c4)] (y.1.Network.Fibers : List Fiber)), (true, MP.val [(.slice A2 y.1.Network.Nodes.length c3)] (y.1.Network.Nodes : List ByteArray)), (false, MP.val [(.slice A y.2.code.length c2)] (y.2.code : List By)), (false, MP.val [(.slice A c.code.length c2)] (c.code : List By))] w := by first | (simp only [List.length_set]; exact H) | (simp only [List.length_set] at H ⊢; exact H)
     refine wr (lN 1 hf H TF.la37 fun a hf => ?_)
     refine sB 2 hf H TF.sz37 fun w H => ?_
     refine wer ?_
     have hcell : GoTy.rep w (fun _ => True) [(.slice A y6.2.code.length c2), (.int .i64 y6.2.at_), (.int .u64 y6.2.seed.n)] (y6.2 : L1CurP) := (L1CurP_mk (x := y6.2) (H.rt 2 rfl))
     have H := H.frontD 2 rfl
     have H := H.frontD 2 rfl
     obtain rfl := oi hF
     refine ret_1 hf rfl (rv_cellN hf H 2 TF.la37 rfl rfl rfl) ?_
     have H := H.lt_ [false, false, false, true] [true] [true, true, false] []
     exact ⟨_, rfl, _, hcell, ⟨fxc hx17, hx17⟩, A2, c3, F, A3, c4, F2, A4, c5, E, rfl, H⟩
    ·refine sqz (pz 2 hf fun a hf => ?_)
     refine wl_end (then_n (ib hF hf (fun hc5 hF => ?_) fun hc5 hF => ?_))
     ·refine reg (pz 1 hf fun a hf => ?_)
      refine lB 1 hf H TF.ls35 fun a hf => ?_
      refine lN 0 hf H TF.la73 fun a hf => ?_
      refine wl0 rfl (bl hf H 73 ([e] : List Light) [(.int .i64 e.Id), (.int .i64 e.Route.Start), (.slice A7 e.Route.Fibers.length c8), (.int .i64 e.Block.First), (.int .i64 e.Block.Count)] (el1 (y := e) ((Light_mk (x := e) (H.get 1 rfl)))) fun A17 a w hf H => ?_)
      obtain ⟨l, hl_, hF⟩ := bs_ hF
      refine wl0 rfl (op_appR hf H Tryz.underlying35 TF.ai73 rfl (by decide) 1 0 rfl rfl rfl rfl (.inr rfl) hl_ (by decide) fun E2 A18 c17 a w hf H => ?_)
      refine pz 1 hf fun a hf => ?_
      refine sB 1 hf H TF.sz35 fun w H => ?_
      have hf := hf.pn [2, 3, 4, 5]
      refine wl_end (blk_n (then_n (sqz (pz 1 hf fun a hf => ?_))))
      refine lB 1 hf H TF.ls35 fun a hf => ?_
      refine pz 1 hf fun a hf => ?_
      refine lN 0 hf H TF.la73 fun a hf => ?_
      obtain ⟨e5, he5, hF⟩ := bs_ hF
      refine wl0 rfl (op_iaddrR hf H Tryz.underlying35 TF.sz73 1 rfl rfl rfl he5 (by decide) fun p5 o6 cs12 a hf hA5 hr12 hk5 => ?_)
      obtain ⟨A19, c18, rfl, hl13⟩ := Light_cells hr12
      have H := H.pT hl13
      refine wl0 rfl (op_storeR (e' := e) (o := o6) (off := 0) hf H TF.sz73 1 rfl rfl rfl rfl rfl (nle rfl) rfl hA5 he5 (st_full (Light_mk (x := e) (H.get 2 rfl))) fun w H => ?_)
      replace hf : Fr a 98 [(2, (.pointer (some ⟨b2, 0, none⟩))), (3, (.pointer (some ⟨b3, 0, none⟩))), (4, (.int .i64 y2.1)), (5, (.pointer (some ⟨b4, 0, none⟩))), (92, (.pointer (some ⟨b3, 2, none⟩))), (93, (.slice A18 l.length c17)), (94, (.int .i64 y2.1)), (95, (.agg #[(.int .i64 e.Id), (.int .i64 e.Route.Start), (.slice A7 e.Route.Fibers.length c8), (.int .i64 e.Block.First), (.int .i64 e.Block.Count)])), (96, (.pointer (some ⟨p5, o6 + 0, none⟩)))] := hf.prune [2, 3, 4, 5, 92, 93, 94, 95, 96] rfl
      replace hf : Fr a 98 [(2, (.pointer (some ⟨b2, 0, none⟩))), (3, (.pointer (some ⟨b3, 0, none⟩))), (4, (.int .i64 y2.1)), (5, (.pointer (some ⟨b4, 0, none⟩))), (92, (.pointer (some ⟨b3, 2, none⟩))), (93, (.slice A18 (l.set (y2.1 : Int).toNat e).length c17)), (94, (.int .i64 y2.1)), (95, (.agg #[(.int .i64 e.Id), (.int .i64 e.Route.Start), (.slice A7 e.Route.Fibers.length c8), (.int .i64 e.Block.First), (.int .i64 e.Block.Count)])), (96, (.pointer (some ⟨p5, o6 + 0, none⟩)))] := by simpa only [List.length_set, Nat.add_zero] using hf
      replace H : Mem ⟨w0, [b0]⟩ S [⟨b4, 73, [(.int .i64 e.Id), (.int .i64 e.Route.Start), (.slice A7 e.Route.Fibers.length c8), (.int .i64 e.Block.First), (.int .i64 e.Block.Count)]⟩, ⟨b3, 37, [(.slice A2 y.1.Network.Nodes.length c3), (.slice A3 y.1.Network.Fibers.length c4), (.slice A18 (l.set (y2.1 : Int).toNat e).length c17)]⟩, ⟨b2, 37, [(.slice none 0 0), (.slice none 0 0), (.slice none 0 0)]⟩, ⟨b0, 101, [(.slice A y3.2.code.length c2), (.int .i64 y3.2.at_), (.int .u64 y3.2.seed.n)]⟩] [⟨.sh true, 73, A17, 1, ([e] : List Light)⟩, ⟨.sh true, E2, A18, c17, (l.set (y2.1 : Int).toNat e : List Light)⟩] [⟨F, MP.own F [(.slice A2 y.1.Network.Nodes.length c3)] (y.1.Network.Nodes : List ByteArray)⟩, ⟨F2, MP.own F2 [(.slice A3 y.1.Network.Fibers.length c4)] (y.1.Network.Fibers : List Fiber)⟩] [(true, MP.val [(.slice A19 e5.Route.Fibers.length c18)] (e5.Route.Fibers : List Int)), (false, MP.val [(.slice A y3.2.code.length c2)] (y3.2.code : List By)), (true, MP.val [(.slice A7 e.Route.Fibers.length c8)] (e.Route.Fibers : List Int)), (false, MP.val [(.slice A y2.2.code.length c2)] (y2.2.code : List By)), (true, MP.val [(.slice A3 y.1.Network.Fibers.length c4)] (y.1.Network.Fibers : List Fiber)), (true, MP.val [(.slice A2 y.1.Network.Nodes.length c3)] (y.1.Network.Nodes : List ByteArray)), (false, MP.val [(.slice A y.2.code.length c2)] (y.2.code : List By)), (false, MP.val [(.slice A c.code.length c2)] (c.code : List By))] w := by first | (simp only [List.length_set]; exact H) | (simp only [List.length_set] at H ⊢; exact H)
      refine wr (lN 1 hf H TF.la37 fun a hf => ?_)
      refine sB 2 hf H TF.sz37 fun w H => ?_
      refine wer ?_
      have hcell : GoTy.rep w (fun _ => True) [(.slice A y3.2.code.length c2), (.int .i64 y3.2.at_), (.int .u64 y3.2.seed.n)] (y3.2 : L1CurP) := (L1CurP_mk (x := y3.2) (H.rt 1 rfl))
      have H := H.frontR 1 rfl
      have H := H.frontD 1 rfl
      have H := H.frontD 1 rfl
      obtain rfl := oi hF
      refine ret_1 hf rfl (rv_cellN hf H 2 TF.la37 rfl rfl rfl) ?_
      have H := H.lt_ [false, false, false, true] [true, false] [true, true] []
      exact ⟨_, rfl, _, hcell, ⟨fxc hx8, hx8⟩, A2, c3, F, A3, c4, F2, A18, c17, E2, rfl, H⟩
     ·refine sqz (pz 2 hf fun a hf => ?_)
      refine wl_end (then_n (ib hF hf (fun hc6 hF => ?_) fun hc6 hF => ?_))
      ·refine reg (pz 1 hf fun a hf => ?_)
       obtain ⟨y7, hy7, hF⟩ := bs_ hF
       refine oc hf TF.cl154 (spec_l1Cur_anyNetwork_ok (S := NB b0) (H.boxAt 3 rfl) ((L1CurP_mk (x := y3.2) (H.nb 3 rfl (H.get 0 rfl)))) (fun h => h rfl) hy7) fun v7 w a hp9 hf => ?_
       obtain ⟨hch6, cs13, hbx6, hr13, ⟨hx18, hx19⟩, hs6⟩ := hp9
       obtain ⟨F5, hp10, hN2⟩ := hs6
       obtain ⟨A20, c19, F6, A21, c20, F7, rfl, rfl, hl14, hl15⟩ := Network_vo hp10
       obtain ⟨A22, c21, rfl, hl16⟩ := L1CurP_cells hr13
       obtain ⟨rfl, rfl⟩ := fx_slice hx18 rfl rfl
       have hx20 := hx19.trans hx8
       have H := H.bO2 3 rfl hch6 hbx6 hN2 hl14 hl15
       have H := H.pX 0 rfl hx19
       have H := H.lend 0 rfl
       have H := H.lend 1 rfl
       refine pz 1 hf fun a hf => ?_
       refine sB 1 hf H TF.sz34 fun w H => ?_
       have hf := hf.pn [2, 3, 4, 5]
       refine wl_end (blk_n (then_n (sqz (pz 1 hf fun a hf => ?_))))
       refine lB 1 hf H TF.ls35 fun a hf => ?_
       refine pz 1 hf fun a hf => ?_
       refine lN 0 hf H TF.la73 fun a hf => ?_
       obtain ⟨e6, he6, hF⟩ := bs_ hF
       refine wl0 rfl (op_iaddrR hf H Tryz.underlying35 TF.sz73 0 rfl rfl rfl he6 (by decide) fun p6 o7 cs14 a hf hA6 hr14 hk6 => ?_)
       obtain ⟨A23, c22, rfl, hl17⟩ := Light_cells hr14
       have H := H.pT hl17
       refine wl0 rfl (op_storeR (e' := e) (o := o7) (off := 0) hf H TF.sz73 0 rfl rfl rfl rfl rfl (nle rfl) rfl hA6 he6 (st_full (Light_mk (x := e) (H.get 5 rfl))) fun w H => ?_)
       replace hf : Fr a 98 [(2, (.pointer (some ⟨b2, 0, none⟩))), (3, (.pointer (some ⟨b3, 0, none⟩))), (4, (.int .i64 y2.1)), (5, (.pointer (some ⟨b4, 0, none⟩))), (92, (.pointer (some ⟨b3, 2, none⟩))), (93, (.slice A4 y.1.Lights.length c5)), (94, (.int .i64 y2.1)), (95, (.agg #[(.int .i64 e.Id), (.int .i64 e.Route.Start), (.slice A7 e.Route.Fibers.length c8), (.int .i64 e.Block.First), (.int .i64 e.Block.Count)])), (96, (.pointer (some ⟨p6, o7 + 0, none⟩)))] := hf.prune [2, 3, 4, 5, 92, 93, 94, 95, 96] rfl
       replace hf : Fr a 98 [(2, (.pointer (some ⟨b2, 0, none⟩))), (3, (.pointer (some ⟨b3, 0, none⟩))), (4, (.int .i64 y2.1)), (5, (.pointer (some ⟨b4, 0, none⟩))), (92, (.pointer (some ⟨b3, 2, none⟩))), (93, (.slice A4 (y.1.Lights.set (y2.1 : Int).toNat e).length c5)), (94, (.int .i64 y2.1)), (95, (.agg #[(.int .i64 e.Id), (.int .i64 e.Route.Start), (.slice A7 e.Route.Fibers.length c8), (.int .i64 e.Block.First), (.int .i64 e.Block.Count)])), (96, (.pointer (some ⟨p6, o7 + 0, none⟩)))] := by simpa only [List.length_set, Nat.add_zero] using hf
       replace H : Mem ⟨w0, [b0]⟩ S [⟨b4, 73, [(.int .i64 e.Id), (.int .i64 e.Route.Start), (.slice A7 e.Route.Fibers.length c8), (.int .i64 e.Block.First), (.int .i64 e.Block.Count)]⟩, ⟨b3, 37, [(.slice A20 y7.1.Nodes.length c19), (.slice A21 y7.1.Fibers.length c20), (.slice A4 (y.1.Lights.set (y2.1 : Int).toNat e).length c5)]⟩, ⟨b2, 37, [(.slice none 0 0), (.slice none 0 0), (.slice none 0 0)]⟩, ⟨b0, 101, [(.slice A y7.2.code.length c2), (.int .i64 y7.2.at_), (.int .u64 y7.2.seed.n)]⟩] [⟨.sh true, E, A4, c5, (y.1.Lights.set (y2.1 : Int).toNat e : List Light)⟩] [⟨F6, MP.own F6 [(.slice A20 y7.1.Nodes.length c19)] (y7.1.Nodes : List ByteArray)⟩, ⟨F7, MP.own F7 [(.slice A21 y7.1.Fibers.length c20)] (y7.1.Fibers : List Fiber)⟩, ⟨F, MP.own F [(.slice A2 y.1.Network.Nodes.length c3)] (y.1.Network.Nodes : List ByteArray)⟩, ⟨F2, MP.own F2 [(.slice A3 y.1.Network.Fibers.length c4)] (y.1.Network.Fibers : List Fiber)⟩] [(true, MP.val [(.slice A23 e6.Route.Fibers.length c22)] (e6.Route.Fibers : List Int)), (true, MP.val [(.slice A21 y7.1.Fibers.length c20)] (y7.1.Fibers : List Fiber)), (true, MP.val [(.slice A20 y7.1.Nodes.length c19)] (y7.1.Nodes : List ByteArray)), (false, MP.val [(.slice A y7.2.code.length c2)] (y7.2.code : List By)), (false, MP.val [(.slice A y3.2.code.length c2)] (y3.2.code : List By)), (true, MP.val [(.slice A7 e.Route.Fibers.length c8)] (e.Route.Fibers : List Int)), (false, MP.val [(.slice A y2.2.code.length c2)] (y2.2.code : List By)), (true, MP.val [(.slice A3 y.1.Network.Fibers.length c4)] (y.1.Network.Fibers : List Fiber)), (true, MP.val [(.slice A2 y.1.Network.Nodes.length c3)] (y.1.Network.Nodes : List ByteArray)), (false, MP.val [(.slice A y.2.code.length c2)] (y.2.code : List By)), (false, MP.val [(.slice A c.code.length c2)] (c.code : List By))] w := by first | (simp only [List.length_set]; exact H) | (simp only [List.length_set] at H ⊢; exact H)
       refine wr (lN 1 hf H TF.la37 fun a hf => ?_)
       refine sB 2 hf H TF.sz37 fun w H => ?_
       refine wer ?_
       have hcell : GoTy.rep w (fun _ => True) [(.slice A y7.2.code.length c2), (.int .i64 y7.2.at_), (.int .u64 y7.2.seed.n)] (y7.2 : L1CurP) := (L1CurP_mk (x := y7.2) (H.rt 3 rfl))
       have H := H.frontD 1 rfl
       have H := H.frontD 1 rfl
       obtain rfl := oi hF
       refine ret_1 hf rfl (rv_cellN hf H 2 TF.la37 rfl rfl rfl) ?_
       have H := H.lt_ [false, false, false, true] [true] [true, true, false, false] []
       exact ⟨_, rfl, _, hcell, ⟨fxc hx20, hx20⟩, A20, c19, F6, A21, c20, F7, A4, c5, E, rfl, H⟩
      ·refine sqz (pz 2 hf fun a hf => ?_)
       have hf := hf.pn [0, 2, 3, 4, 5, 57]
       refine wl_end (then_n (ib hF hf (fun hc7 hF => ?_) fun hc7 hF => ?_))
       ·refine sq (sqz (pz 1 hf fun a hf => ?_))
        refine wl_end (then_n ?_)
        obtain ⟨out', hB1, hF⟩ := bs_ hF
        have hf := hf.pn [0, 2, 3, 6]
        have H := H.lt_ [false, true, true, true] [true] [true, true] [0, 3, 4]
        refine loopC (fun (s : Int × List Light × List By × Int × U64) (a : Act) (w : World) => match s with | (n', m, m2, m3, m4) => ∃ (A24 : Option Addr) (c23 : Nat) (E3 : Go.TypeId), m2 = c.code ∧ Fr a 98 [(0, (.pointer (some ⟨b0, 0, none⟩))), (2, (.pointer (some ⟨b2, 0, none⟩))), (3, (.pointer (some ⟨b3, 0, none⟩))), (6, (.int .i64 n'))] ∧ Mem ⟨w0, [b0]⟩ S [⟨b3, 37, [(.slice A2 y.1.Network.Nodes.length c3), (.slice A3 y.1.Network.Fibers.length c4), (.slice A24 m.length c23)]⟩, ⟨b2, 37, [(.slice none 0 0), (.slice none 0 0), (.slice none 0 0)]⟩, ⟨b0, 101, [(.slice A m2.length c2), (.int .i64 m3), (.int .u64 m4.n)]⟩] [⟨.sh true, E3, A24, c23, (m : List Light)⟩] [⟨F, MP.own F [(.slice A2 y.1.Network.Nodes.length c3)] (y.1.Network.Nodes : List ByteArray)⟩, ⟨F2, MP.own F2 [(.slice A3 y.1.Network.Fibers.length c4)] (y.1.Network.Fibers : List Fiber)⟩] [(false, MP.val [(.slice A m2.length c2)] (m2 : List By)), (true, MP.val [(.slice A3 y.1.Network.Fibers.length c4)] (y.1.Network.Fibers : List Fiber)), (true, MP.val [(.slice A2 y.1.Network.Nodes.length c3)] (y.1.Network.Nodes : List ByteArray))] w) (fun k (s : Int × List Light × List By × Int × U64) => spec_l1Cur_anyPlan_L1 fu y k s.1 s.2.1 s.2.2.1 s.2.2.2.1 s.2.2.2.2 = some out') (fun s => out' = s) (0, y.1.Lights, y3.2.code, y3.2.at_, y3.2.seed) fu hB1 ⟨A4, c5, E, hx8, hf, H⟩ (fun s h => by cases h) ?_ ?_
        ·rintro fk ⟨n', m, m2, m3, m4⟩ a w hR1 hI
         replace hR1 : spec_l1Cur_anyPlan_L1 fu y (fk + 1) n' m m2 m3 m4 = some out' := hR1
         rw [spec_l1Cur_anyPlan_L1] at hR1
         obtain ⟨A24, c23, E3, hsm, hf, H⟩ := hI
         refine sq (sq (dw [] 11 fun w hb => ?_))
         have H := H.keep hb
         refine zp 0 hf trivial fun a hf => ?_
         refine strT (H.lt_ [true, false, false] [false] [false, false] []) (fun w H => trivial) fun hS => ?_
         refine zS 1 [] rfl rfl rfl rfl hf hS (fun w H => rq_loadB hf H TF.ls35 0 rfl rfl rfl) fun a hf => ?_
         refine zp 2 hf hS fun a hf => ?_
         refine zp 3 hf hS fun a hf => ?_
         obtain ⟨y8, hy8, hR1⟩ := bs_ hR1
         refine nn 4 rfl (oC hf TF.cl133 (spec_l1Cur_pick_ok (S := NB b0) (H.boxAt 2 rfl) ((L1CurP_mk (x := ({ code := m2, at_ := m3, seed := m4 } : L1CurP)) (H.nb 2 rfl (H.get 0 rfl)))) (fun h => h rfl) mk_int hy8) fun v8 w a hp11 hf => ?_)
         obtain ⟨hch7, cs15, hbx7, hr15, ⟨hx21, hx22⟩, hs7⟩ := hp11
         obtain rfl := VR_int hs7
         obtain ⟨A25, c24, rfl, hl18⟩ := L1CurP_cells hr15
         obtain ⟨rfl, rfl⟩ := fx_slice hx21 rfl rfl
         have hx23 := hx22.trans hsm
         have H := H.wroteBox 2 rfl hch7 hbx7
         have H := H.pX 0 rfl hx22
         have hS := H.lt_ [true, false, false] [false] [false, false] []
         refine aS hS ?_
         refine zp 5 hf hS fun a hf => ?_
         refine zp 6 hf hS fun a hf => ?_
         refine zp 7 hf hS fun a hf => ?_
         refine iteB hR1 (fun hc8 hR1 => ?_) fun hc8 hR1 => ?_
         ·have hf := hf.lit 66 rfl hc8
          refine zg 8 hf hS fun a hf => ?_
          refine zg 9 hf hS fun a hf => ?_
          refine zp 10 hf hS fun a hf => ?_
          refine dk ?_
          refine then_n (ib hR1 hf (fun hc9 hR1 => ?_) fun hc9 hR1 => ?_)
          ·refine wp_skip (then_n (sq (wp_block (dw [19] 20 fun w hb => ?_))))
           have H := H.keep hb
           refine zp 0 hf trivial fun a hf => ?_
           refine strT (H.lt_ [true, false, false] [false] [false, false] []) (fun w H => trivial) fun hS => ?_
           refine zS 1 [1, 17, 18, 19] rfl rfl rfl rfl hf hS (fun w H => rq_loadB hf H TF.ls35 0 rfl rfl rfl) fun a hf => ?_
           refine zp 2 hf hS fun a hf => ?_
           refine zp 3 hf hS fun a hf => ?_
           refine zp 4 hf hS fun a hf => ?_
           refine zp 5 hf hS fun a hf => ?_
           refine zS 6 [6, 7, 8, 9, 11, 15, 16, 17, 18, 19] rfl rfl rfl rfl hf hS (fun w H => rq_loadB hf H TF.ls32 0 rfl rfl rfl) fun a hf => ?_
           obtain ⟨e7, he7, hR1⟩ := bs_ hR1
           obtain ⟨p7, o8, cs16, hx24, hr16, H⟩ := pre_iaddr H Tryz.underlying32 TF.sz180 2 rfl he7
           refine zP 7 rfl rfl rfl rfl hf hS (fun w => rq_iaddrE hf rfl rfl rfl hx24 w) fun a hf => ?_
           obtain rfl := Fiber_cells hr16
           refine zp 8 hf hS fun a hf => ?_
           refine strT (H.lt_ [true, false, false] [false] [false, false] [0]) (fun w H => H.lt_ [true] [] [] []) fun hS => ?_
           refine zS 9 [9, 11, 15, 16, 17, 18, 19] rfl rfl rfl rfl hf hS (fun w H => rq_loadI hf H TF.ls3 0 0 rfl rfl rfl) fun a hf => ?_
           refine zp 12 hf hS fun a hf => ?_
           refine zp 13 hf hS fun a hf => ?_
           refine zP 14 rfl rfl rfl rfl hf hS (fun w => rq_build hf (cs := [(.int .i64 (w64 (23 - n'))), (.int .i64 1)]) rfl (fun w => by kernel_rfl)) fun a hf => ?_
           refine nn 10 rfl (bl hf H 3 ([0] : List Int) [(.int .i64 0)] (el1 (y := 0) (rfl)) fun A26 a w hf H => ?_)
           have hS := H.lt_ [true, false, false] [false, false] [false, false] [0]
           refine aS hS ?_
           refine zP 11 rfl rfl rfl rfl hf hS (fun w => rq_build hf (cs := [(.int .i64 e7.A), (.slice A26 1 1)]) rfl (fun w => by kernel_rfl)) fun a hf => ?_
           refine zP 15 rfl rfl rfl rfl hf hS (fun w => rq_build hf (cs := [(.int .i64 (w64 (500 + n'))), (.int .i64 e7.A), (.slice A26 1 1), (.int .i64 (w64 (23 - n'))), (.int .i64 1)]) rfl (fun w => by kernel_rfl)) fun a hf => ?_
           have H := H.rowOwn 0 rfl rfl
           obtain ⟨F8, H⟩ := H.freezeOwn 0 rfl
           have H := H.lend 0 rfl
           have H := H.recast (X := [(⟨F8, MP.own F8 [(.slice A26 1 1)] ([0] : List Int)⟩ : DI)]) (Y := [(⟨F8, MP.own F8 [(.int .i64 (w64 (500 + n'))), (.int .i64 e7.A), (.slice A26 1 1), (.int .i64 (w64 (23 - n'))), (.int .i64 1)] (({ Id := w64 (500 + n'), Route := ({ Start := e7.A, Fibers := [0] } : Route), Block := ({ First := w64 (23 - n'), Count := 1 } : Block) } : Light) : Light)⟩ : DI)]) (List.Perm.of_eq (by simp)) fun _ => ps1 (Light_ownmk (x := ({ Id := w64 (500 + n'), Route := ({ Start := e7.A, Fibers := [0] } : Route), Block := ({ First := w64 (23 - n'), Count := 1 } : Block) } : Light)) (H.ownAt 0 rfl)) ps0
           refine nn 16 rfl (op_bsliceO hf 73 H rfl (fun w => by kernel_rfl) (by decide) fun A27 a w hf H => ?_)
           have hS := H.lt_ [true, false, false] [false, false] [false, false] [1]
           refine aS hS ?_
           have H := H.rowSh 0 rfl
           obtain ⟨l2, hl2_, hR1⟩ := bs_ hR1
           refine nn 17 rfl (op_appR hf H Tryz.underlying35 TF.ai73 rfl (by decide) 1 0 rfl rfl rfl rfl (.inr rfl) hl2_ (by decide) fun E4 A28 c25 a w hf H => ?_)
           have hS := H.lt_ [true, false, false] [false, false] [false, false] [1]
           refine aS hS ?_
           refine zp 18 hf hS fun a hf => ?_
           refine nn 19 rfl (op_storeB hf H 0 TF.sz35 rfl rfl rfl rfl rfl rfl (nle rfl) fun w H => ?_)
           refine ⟨fun h => absurd h (by decide), ?_⟩
           refine dk ?_
           have hf := hf.pn [0, 2, 3, 6, 67, 68]
           refine blk_n (then_n (reg (pz 3 hf fun a hf => ?_)))
           refine wl_end ?_
           have hf := hf.pn [0, 2, 3, 6]
           have H := H.lt_ [true, true, true] [false, true] [true, true] [2, 4, 5]
           exact then_n ⟨(w64 (n' + 1), l2, y8.2.code, y8.2.at_, y8.2.seed), hR1, A28, c25, E4, hx23, hf, H⟩
          ·refine wp_exit (then_x (then_x (blk_e (?_))))
           have hf := hf.pn [0, 2, 3, 6]
           have H := H.lt_ [true, true, true] [true] [true, true] [0, 2, 3]
           exact ⟨(n', m, y8.2.code, y8.2.at_, y8.2.seed), (Option.some.inj hR1).symm, A24, c23, E3, hx23, hf, H⟩
         ·have hf := hf.lit 66 rfl hc8
          refine zU 8 hf hS fun a hf => ?_
          refine zU 9 hf hS fun a hf => ?_
          refine zp 10 hf hS fun a hf => ?_
          refine dk ?_
          refine then_n (cd_f hf rfl rfl (wp_exit (then_x (then_x (blk_e (?_))))))
          have hf := hf.pn [0, 2, 3, 6]
          have H := H.lt_ [true, true, true] [true] [true, true] [0, 2, 3]
          exact ⟨(n', m, y8.2.code, y8.2.at_, y8.2.seed), (Option.some.inj hR1).symm, A24, c23, E3, hx23, hf, H⟩
        rintro a w ⟨⟨n2, m5, m6, m7, m8⟩, rfl, A29, c26, E5, hsm, hf, H⟩
        try dsimp only at hsm
        try dsimp only at hF
        refine then_n (sq (reg (lN 0 hf H TF.la37 fun a hf => ?_)))
        refine sB 1 hf H TF.sz37 fun w H => ?_
        refine wl_end (then_n (wp_ret (blk_r (then_r (?_)))))
        have hcell : GoTy.rep w (fun _ => True) [(.slice A m6.length c2), (.int .i64 m7), (.int .u64 m8.n)] (({ code := m6, at_ := m7, seed := m8 } : L1CurP) : L1CurP) := (L1CurP_mk (x := ({ code := m6, at_ := m7, seed := m8 } : L1CurP)) (H.rt 0 rfl))
        have H := H.frontD 1 rfl
        have H := H.frontD 1 rfl
        obtain rfl := oi hF
        refine ret_1 hf rfl (rv_cellN hf H 1 TF.la37 rfl rfl rfl) ?_
        have H := H.lt_ [false, false, true] [true] [true, true] []
        exact ⟨_, rfl, _, hcell, ⟨fxc hsm, hsm⟩, A2, c3, F, A3, c4, F2, A29, c26, E5, rfl, H⟩
       ·refine wp_skip (blk_n (then_n (sqz (pz 1 hf fun a hf => ?_))))
        refine lB 1 hf H TF.ls35 fun a hf => ?_
        refine pz 1 hf fun a hf => ?_
        refine lN 0 hf H TF.la73 fun a hf => ?_
        obtain ⟨e8, he8, hF⟩ := bs_ hF
        refine wl0 rfl (op_iaddrR hf H Tryz.underlying35 TF.sz73 0 rfl rfl rfl he8 (by decide) fun p8 o9 cs17 a hf hA7 hr17 hk7 => ?_)
        obtain ⟨A30, c27, rfl, hl19⟩ := Light_cells hr17
        have H := H.pT hl19
        refine wl0 rfl (op_storeR (e' := e) (o := o9) (off := 0) hf H TF.sz73 0 rfl rfl rfl rfl rfl (nle rfl) rfl hA7 he8 (st_full (Light_mk (x := e) (H.get 2 rfl))) fun w H => ?_)
        replace hf : Fr a 98 [(2, (.pointer (some ⟨b2, 0, none⟩))), (3, (.pointer (some ⟨b3, 0, none⟩))), (4, (.int .i64 y2.1)), (5, (.pointer (some ⟨b4, 0, none⟩))), (92, (.pointer (some ⟨b3, 2, none⟩))), (93, (.slice A4 y.1.Lights.length c5)), (94, (.int .i64 y2.1)), (95, (.agg #[(.int .i64 e.Id), (.int .i64 e.Route.Start), (.slice A7 e.Route.Fibers.length c8), (.int .i64 e.Block.First), (.int .i64 e.Block.Count)])), (96, (.pointer (some ⟨p8, o9 + 0, none⟩)))] := hf.prune [2, 3, 4, 5, 92, 93, 94, 95, 96] rfl
        replace hf : Fr a 98 [(2, (.pointer (some ⟨b2, 0, none⟩))), (3, (.pointer (some ⟨b3, 0, none⟩))), (4, (.int .i64 y2.1)), (5, (.pointer (some ⟨b4, 0, none⟩))), (92, (.pointer (some ⟨b3, 2, none⟩))), (93, (.slice A4 (y.1.Lights.set (y2.1 : Int).toNat e).length c5)), (94, (.int .i64 y2.1)), (95, (.agg #[(.int .i64 e.Id), (.int .i64 e.Route.Start), (.slice A7 e.Route.Fibers.length c8), (.int .i64 e.Block.First), (.int .i64 e.Block.Count)])), (96, (.pointer (some ⟨p8, o9 + 0, none⟩)))] := by simpa only [List.length_set, Nat.add_zero] using hf
        replace H : Mem ⟨w0, [b0]⟩ S [⟨b4, 73, [(.int .i64 e.Id), (.int .i64 e.Route.Start), (.slice A7 e.Route.Fibers.length c8), (.int .i64 e.Block.First), (.int .i64 e.Block.Count)]⟩, ⟨b3, 37, [(.slice A2 y.1.Network.Nodes.length c3), (.slice A3 y.1.Network.Fibers.length c4), (.slice A4 (y.1.Lights.set (y2.1 : Int).toNat e).length c5)]⟩, ⟨b2, 37, [(.slice none 0 0), (.slice none 0 0), (.slice none 0 0)]⟩, ⟨b0, 101, [(.slice A y3.2.code.length c2), (.int .i64 y3.2.at_), (.int .u64 y3.2.seed.n)]⟩] [⟨.sh true, E, A4, c5, (y.1.Lights.set (y2.1 : Int).toNat e : List Light)⟩] [⟨F, MP.own F [(.slice A2 y.1.Network.Nodes.length c3)] (y.1.Network.Nodes : List ByteArray)⟩, ⟨F2, MP.own F2 [(.slice A3 y.1.Network.Fibers.length c4)] (y.1.Network.Fibers : List Fiber)⟩] [(true, MP.val [(.slice A30 e8.Route.Fibers.length c27)] (e8.Route.Fibers : List Int)), (false, MP.val [(.slice A y3.2.code.length c2)] (y3.2.code : List By)), (true, MP.val [(.slice A7 e.Route.Fibers.length c8)] (e.Route.Fibers : List Int)), (false, MP.val [(.slice A y2.2.code.length c2)] (y2.2.code : List By)), (true, MP.val [(.slice A3 y.1.Network.Fibers.length c4)] (y.1.Network.Fibers : List Fiber)), (true, MP.val [(.slice A2 y.1.Network.Nodes.length c3)] (y.1.Network.Nodes : List ByteArray)), (false, MP.val [(.slice A y.2.code.length c2)] (y.2.code : List By)), (false, MP.val [(.slice A c.code.length c2)] (c.code : List By))] w := by first | (simp only [List.length_set]; exact H) | (simp only [List.length_set] at H ⊢; exact H)
        refine wr (lN 1 hf H TF.la37 fun a hf => ?_)
        refine sB 2 hf H TF.sz37 fun w H => ?_
        refine wer ?_
        have hcell : GoTy.rep w (fun _ => True) [(.slice A y3.2.code.length c2), (.int .i64 y3.2.at_), (.int .u64 y3.2.seed.n)] (y3.2 : L1CurP) := (L1CurP_mk (x := y3.2) (H.rt 1 rfl))
        have H := H.frontD 1 rfl
        have H := H.frontD 1 rfl
        obtain rfl := oi hF
        refine ret_1 hf rfl (rv_cellN hf H 2 TF.la37 rfl rfl rfl) ?_
        have H := H.lt_ [false, false, false, true] [true] [true, true] []
        exact ⟨_, rfl, _, hcell, ⟨fxc hx8, hx8⟩, A2, c3, F, A3, c4, F2, A4, c5, E, rfl, H⟩
theorem spec_DrawDefragment_ok {S : Nat → Prop} {v0_ : Value} {code : List By} {r : Plan × Bool × Int} (h0 : VR w0 S v0_ code) (hF : spec_DrawDefragment fu code = some r) :
    Calls Tryz.prog 29 [v0_].toArray w0 fun e w' => ∃ v, e = .returned v ∧ (∃ (A0_0 : Option Addr) (c0_0 : Nat) (F0_0 : List Nat) (A0_1 : Option Addr) (c0_1 : Nat) (F0_1 : List Nat) (A0_2 : Option Addr) (c0_2 : Nat) (E0_2 : Go.TypeId), v = .tuple #[(.agg #[(.slice A0_0 r.1.Network.Nodes.length c0_0), (.slice A0_1 r.1.Network.Fibers.length c0_1), (.slice A0_2 r.1.Lights.length c0_2)]), (.bool r.2.1), (.int .i64 r.2.2)] ∧ Mem ⟨w0, []⟩ S [] [⟨.sh true, E0_2, A0_2, c0_2, (r.1.Lights : List Light)⟩] [⟨F0_0, MP.own F0_0 [(.slice A0_0 r.1.Network.Nodes.length c0_0)] (r.1.Network.Nodes : List ByteArray)⟩, ⟨F0_1, MP.own F0_1 [(.slice A0_1 r.1.Network.Fibers.length c0_1)] (r.1.Network.Fibers : List Fiber)⟩] [] w') := by
 obtain ⟨A, c, rfl, hl⟩ := VR_list h0
 have H := Mem.start ⟨w0, []⟩ S
 have H := H.pA hl
 refine en Tryz.func29 fun a hf => ?_
 rw [spec_DrawDefragment] at hF
 refine sq (reg (aL hf H TF.zv37 fun b' a w hf H => ?_))
 refine pz 2 hf fun a hf => ?_
 refine wr (pz 1 hf fun a hf => ?_)
 refine oq hf (rq_build hf (cs := [(.slice A code.length c), (.int .i64 0), (.int .u64 0)]) rfl (fun w => by kernel_rfl)) fun a hf => ?_
 refine wl0 rfl (op_box hf H rfl rfl (by decide) fun b2 a w hf H => ?_)
 refine pz 1 hf fun a hf => ?_
 refine wr (pz 1 hf fun a hf => ?_)
 obtain ⟨y, hy, hF⟩ := bs_ hF
 refine oc hf TF.cl81 (spec_l1Cur_anyPlan_ok (S := NB b2) (H.boxAt 0 rfl) ((L1CurP_mk (x := ({ code := code, at_ := 0, seed := (⟨0⟩ : U64) } : L1CurP)) (H.nb 0 rfl (H.get 0 rfl)))) (fun h => h rfl) hy) fun v w a hp hf => ?_
 obtain ⟨cs, hr, ⟨hx, hx2⟩, A2, c2, F, A3, c3, F2, A4, c4, E, rfl, Hc⟩ := hp
 obtain ⟨A5, c5, rfl, hl2⟩ := L1CurP_cells hr
 obtain ⟨rfl, rfl⟩ := fx_slice hx rfl rfl
 have H := H.compB 0 rfl Hc (.inl rfl)
 have H := H.pX 0 rfl hx2
 have H := H.lend 0 rfl
 have H := H.lend 1 rfl
 refine pz 1 hf fun a hf => ?_
 obtain ⟨y2, hy2, hF⟩ := bs_ hF
 refine oc hf TF.cl82 (spec_l1Cur_one_ok (S := NB b2) (H.boxAt 0 rfl) ((L1CurP_mk (x := y.2) (H.nb 0 rfl (H.get 2 rfl)))) (fun h => h rfl) mk_int hy2) fun v2 w a hp2 hf => ?_
 obtain ⟨hch, cs2, hbx, hr2, ⟨hx3, hx4⟩, hs⟩ := hp2
 obtain rfl := VR_bool hs
 obtain ⟨A6, c6, rfl, hl3⟩ := L1CurP_cells hr2
 obtain ⟨rfl, rfl⟩ := fx_slice hx3 rfl rfl
 have hx5 := hx4.trans hx2
 have H := H.wroteBox 0 rfl hch hbx
 have H := H.pX 2 rfl hx4
 refine pz 1 hf fun a hf => ?_
 refine wl0 rfl (bl hf H 3 ([60, 60, 60, 1, 2, 0, 61, (-1)] : List Int) [(.int .i64 60), (.int .i64 60), (.int .i64 60), (.int .i64 1), (.int .i64 2), (.int .i64 0), (.int .i64 61), (.int .i64 (-1))] (elI [60, 60, 60, 1, 2, 0, 61, (-1)]) fun A7 a w hf H => ?_)
 have H := H.freeze 0 rfl
 obtain ⟨y3, hy3, hF⟩ := bs_ hF
 refine oc hf TF.cl83 (spec_l1Cur_among_ok (S := NB b2) (H.boxAt 0 rfl) ((L1CurP_mk (x := y2.2) (H.nb 0 rfl (H.get 1 rfl)))) (fun h => h rfl) (mk_list (H.nb 0 rfl (H.get 0 rfl))) hy3) fun v3 w a hp3 hf => ?_
 obtain ⟨hch2, cs3, hbx2, hr3, ⟨hx6, hx7⟩, hs2⟩ := hp3
 obtain rfl := VR_int hs2
 obtain ⟨A8, c7, rfl, hl4⟩ := L1CurP_cells hr3
 obtain ⟨rfl, rfl⟩ := fx_slice hx6 rfl rfl
 have hx8 := hx7.trans hx5
 have H := H.wroteBox 0 rfl hch2 hbx2
 have H := H.pX 1 rfl hx7
 refine sB 1 hf H TF.sz37 fun w H => ?_
 refine pz 2 hf fun a hf => ?_
 refine wer ?_
 have H := H.frontD 1 rfl
 have H := H.frontD 1 rfl
 obtain rfl := oi hF
 refine ret_3 hf rfl (rv_cellN hf H 1 TF.la37 rfl rfl rfl) (rv_tmp hf rfl) (rv_tmp hf rfl) ?_
 have H := H.lt_ [false, false] [true] [true, true] []
 exact ⟨_, rfl, A2, c2, F, A3, c3, F2, A4, c4, E, rfl, H⟩
theorem impl_lowest_c1_ok {S : Nat → Prop} {v0_ : Value} {b1 o1 : Nat} {cs1 : List Value} {b2 o2 : Nat} {cs2 : List Value} {own : Light} {cap : Light} {cap2 : Light} {r : Bool} (h0 : VR w0 S v0_ own) (hp1 : (MP.cells ⟨b1, o1, none⟩ cs1).pred w0 S) (hr1 : GoTy.rep w0 S cs1 cap) (hp2 : (MP.cells ⟨b2, o2, none⟩ cs2).pred w0 S) (hr2 : GoTy.rep w0 S cs2 cap2) (hF : impl_lowest_c1 fu own cap cap2 = some r) :
    Calls Tryz.prog 215 [v0_, (.pointer (some ⟨b1, o1, none⟩)), (.pointer (some ⟨b2, o2, none⟩))].toArray w0 fun e w' => ∃ v, e = .returned v ∧ (Below w0.heap.size w0 w' ∧ VR w' (St ⟨w0, []⟩ S [] [] [] true) v r) := by
 obtain ⟨A, c, rfl, hl⟩ := Light_open h0
 obtain ⟨A2, c2, rfl, hl2⟩ := Light_cells hr1
 obtain ⟨A3, c3, rfl, hl3⟩ := Light_cells hr2
 have H := Mem.start ⟨w0, []⟩ S
 have H := H.pA hl
 have H := H.pA hl2
 have H := H.pushArg (MP.cells ⟨b1, o1, none⟩ [(.int .i64 cap.Id), (.int .i64 cap.Route.Start), (.slice A2 cap.Route.Fibers.length c2), (.int .i64 cap.Block.First), (.int .i64 cap.Block.Count)]) hp1
 have H := H.pA hl3
 have H := H.pushArg (MP.cells ⟨b2, o2, none⟩ [(.int .i64 cap2.Id), (.int .i64 cap2.Route.Start), (.slice A3 cap2.Route.Fibers.length c3), (.int .i64 cap2.Block.First), (.int .i64 cap2.Block.Count)]) hp2
 refine en Tryz.func215 fun a hf => ?_
 rw [impl_lowest_c1] at hF
 refine bx hf H fun b4 a w hf H => ?_
 refine pz 1 hf fun a hf => ?_
 refine wl_end (then_n (sq ?_))
 obtain ⟨c4, hGc4, hF⟩ := bs_ hF
 have fh := hf.prune [] rfl
 have Hm := H.lt_ [false] [] [] []
 refine midF 4 (.bool c4) fh Hm ?_ fun a w hf H => ?_
 ·refine reg (pz 1 hf fun a hf => ?_)
  refine lB 0 hf H TF.ls3 fun a hf => ?_
  refine pz 1 hf fun a hf => ?_
  refine oq hf (rq_loadI hf H TF.ls3 2 0 rfl rfl rfl) fun a hf => ?_
  refine pz 2 hf fun a hf => ?_
  refine iteB hGc4 (fun hc hGc4 => ?_) fun hc hGc4 => ?_
  ·have hf := hf.lit 10 rfl hc
   refine wlg hf rfl rfl rfl (op_q hf (rq_loadBN hf H TF.la73 0 rfl rfl rfl rfl) rfl (by decide) fun a hf => ?_)
   refine wlg hf rfl rfl rfl (op_q hf (rq_loadIN hf H TF.la73 0 0 rfl rfl rfl rfl) rfl (by decide) fun a hf => ?_)
   obtain ⟨y, hy, hGc4⟩ := bs_ hGc4
   refine wlg hf rfl rfl rfl (oC hf TF.cl94 (impl_collide_ok (S := TT) (Light_mkv (x := own) (H.rt 4 rfl)) (Light_mkv (x := cap2) (H.rt 1 rfl)) hy) fun v w a hp4 hf => ?_)
   obtain ⟨hb, hp4⟩ := hp4
   obtain rfl := VR_bool hp4
   have H := H.keep hb
   refine pz 2 hf fun a hf => ?_
   obtain rfl := oi hGc4
   have hf := hf.pn [4]
   have H := H.lt_ [false] [] [] []
   exact wl_end ⟨hf, H⟩
  ·have hf := hf.lit 10 rfl hc
   refine pz 5 hf fun a hf => ?_
   obtain rfl := oi hGc4
   have hf := hf.pn [4]
   have H := H.lt_ [false] [] [] []
   exact wl_end ⟨hf, H⟩
 refine then_n (wp_ret (?_))
 obtain rfl := oi hF
 refine rT hf ?_
 exact ⟨_, rfl, H.bel, mk_bool⟩
theorem slices_IndexFunc_impl_Light_impl_Light_of_lowest_c1_ok {S : Nat → Prop} {v0_ : Value} {b1_0 o1_0 : Nat} {cs1_0 : List Value} {b1_1 o1_1 : Nat} {cs1_1 : List Value} {s' : List Light} {cap : Light} {cap2 : Light} {r : Int} (h0 : VR w0 S v0_ s') (hp1_0 : (MP.cells ⟨b1_0, o1_0, none⟩ cs1_0).pred w0 S) (hr1_0 : GoTy.rep w0 S cs1_0 cap) (hp1_1 : (MP.cells ⟨b1_1, o1_1, none⟩ cs1_1).pred w0 S) (hr1_1 : GoTy.rep w0 S cs1_1 cap2) (hF : slices_IndexFunc_impl_Light_impl_Light_of_lowest_c1 fu s' cap cap2 = some r) :
    Calls Tryz.prog 160 [v0_, (.func (.func 215) #[] #[(.pointer (some ⟨b1_0, o1_0, none⟩)), (.pointer (some ⟨b1_1, o1_1, none⟩))])].toArray w0 fun e w' => ∃ v, e = .returned v ∧ (Below w0.heap.size w0 w' ∧ VR w' (St ⟨w0, []⟩ S [] [] [] true) v r) := by
 obtain ⟨A, c, rfl, hl⟩ := VR_list h0
 obtain ⟨A2, c2, rfl, hl2⟩ := Light_cells hr1_0
 obtain ⟨A3, c3, rfl, hl3⟩ := Light_cells hr1_1
 have H := Mem.start ⟨w0, []⟩ S
 have H := H.pA hl
 have H := H.pA hl2
 have H := H.pushArg (MP.cells ⟨b1_0, o1_0, none⟩ [(.int .i64 cap.Id), (.int .i64 cap.Route.Start), (.slice A2 cap.Route.Fibers.length c2), (.int .i64 cap.Block.First), (.int .i64 cap.Block.Count)]) hp1_0
 have H := H.pA hl3
 have H := H.pushArg (MP.cells ⟨b1_1, o1_1, none⟩ [(.int .i64 cap2.Id), (.int .i64 cap2.Route.Start), (.slice A3 cap2.Route.Fibers.length c3), (.int .i64 cap2.Block.First), (.int .i64 cap2.Block.Count)]) hp1_1
 refine en Tryz.func160 fun a hf => ?_
 rw [slices_IndexFunc_impl_Light_impl_Light_of_lowest_c1] at hF
 refine sqz (pz 1 hf fun a hf => ?_)
 refine we (sqz (pz 3 hf fun a hf => ?_))
 refine wl_end (then_n ?_)
 obtain ⟨out', hB1, hF⟩ := bs_ hF
 have hf := hf.pn [0, 1, 7, 8]
 have H := H.lt_ [] [] [] [0, 1, 2, 3, 4]
 refine loopC (fun (s : Int) (a : Act) (w : World) => match s with | i => Fr a 19 [(0, (.slice A s'.length c)), (1, (.func (.func 215) #[] #[(.pointer (some ⟨b1_0, o1_0 + 0, none⟩)), (.pointer (some ⟨b1_1, o1_1 + 0, none⟩))])), (7, (.int .i64 (s'.length : Int))), (8, (.int .i64 i))] ∧ Mem ⟨w0, []⟩ S [] [] [] [(false, MP.cells ⟨b1_1, o1_1, none⟩ [(.int .i64 cap2.Id), (.int .i64 cap2.Route.Start), (.slice A3 cap2.Route.Fibers.length c3), (.int .i64 cap2.Block.First), (.int .i64 cap2.Block.Count)]), (false, MP.val [(.slice A3 cap2.Route.Fibers.length c3)] (cap2.Route.Fibers : List Int)), (false, MP.cells ⟨b1_0, o1_0, none⟩ [(.int .i64 cap.Id), (.int .i64 cap.Route.Start), (.slice A2 cap.Route.Fibers.length c2), (.int .i64 cap.Block.First), (.int .i64 cap.Block.Count)]), (false, MP.val [(.slice A2 cap.Route.Fibers.length c2)] (cap.Route.Fibers : List Int)), (false, MP.val [(.slice A s'.length c)] (s' : List Light))] w) (fun k (s : Int) => slices_IndexFunc_impl_Light_impl_Light_of_lowest_c1_L1 fu s' cap cap2 k s = some out') (fun s => out' = Out.next s) 0 fu hB1 ⟨hf, H⟩ (fun s h => by cases h) ?_ ?_
 ·rintro fk i a w hR1 hI
  replace hR1 : slices_IndexFunc_impl_Light_impl_Light_of_lowest_c1_L1 fu s' cap cap2 (fk + 1) i = some out' := hR1
  rw [slices_IndexFunc_impl_Light_impl_Light_of_lowest_c1_L1] at hR1
  obtain ⟨hf, H⟩ := hI
  refine sqz (pz 1 hf fun a hf => ?_)
  refine wl_end (then_n (sq (ib hR1 hf (fun hc hR1 => ?_) fun hc hR1 => ?_)))
  ·refine ws (pz 2 hf fun a hf => ?_)
   refine wr (pz 3 hf fun a hf => ?_)
   obtain ⟨e, he, hR1⟩ := bs_ hR1
   refine wl0 rfl (op_iaddr hf H Tryz.underlying35 TF.sz73 4 rfl rfl rfl he (by decide) fun p o3 cs3 a hf hr3 H => ?_)
   obtain ⟨A4, c4, rfl, hl4⟩ := Light_cells hr3
   have H := H.pF hl4
   refine oq hf (rq_loadIN hf H TF.la73 1 0 rfl rfl rfl rfl) fun a hf => ?_
   obtain ⟨y, hy, hR1⟩ := bs_ hR1
   refine wl0 rfl (op_callV hf TF.cl215 rfl rfl (by decide) (impl_lowest_c1_ok (S := TT) (Light_mkv (x := e) (H.rt 0 rfl)) (mp_true (H.get 4 rfl)) ((Light_mk (x := cap) (H.rt 5 rfl))) (mp_true (H.get 2 rfl)) ((Light_mk (x := cap2) (H.rt 3 rfl))) hy) fun v w a hp3 hf => ?_)
   obtain ⟨hb, hp3⟩ := hp3
   obtain rfl := VR_bool hp3
   have H := H.keep hb
   refine wl_end (then_n (ib hR1 hf (fun hc2 hR1 => ?_) fun hc2 hR1 => ?_))
   ·refine sqz (pz 2 hf fun a hf => ?_)
    have hf := hf.pn [4]
    refine wl_end (then_n (wp_ret (blk_r (then_r (then_r (blk_r (then_r (then_r (?_)))))))))
    obtain rfl := oi hR1
    replace hF := on_ret hF
    obtain rfl := oi hF
    refine rT hf ?_
    exact ⟨_, rfl, H.bel, mk_int⟩
   ·refine wp_skip (blk_n (then_n (reg (pz 2 hf fun a hf => ?_))))
    refine wl_end ?_
    have hf := hf.pn [0, 1, 7, 8]
    have H := H.lt_ [] [] [] [2, 3, 4, 5, 6]
    exact then_n ⟨w64 (i + 1), hR1, hf, H⟩
  ·refine wp_exit (then_x (then_x (blk_e (?_))))
   have hf := hf.pn [0, 1, 7, 8]
   have H := H.lt_ [] [] [] [0, 1, 2, 3, 4]
   exact ⟨i, (Option.some.inj hR1).symm, hf, H⟩
 rintro a w ⟨i2, rfl, hf, H⟩
 replace hF := on_next hF
 refine then_n (sqz (pz 1 hf fun a hf => ?_))
 refine wer ?_
 obtain rfl := oi hF
 refine rT hf ?_
 exact ⟨_, rfl, H.bel, mk_int⟩
theorem slices_ContainsFunc_impl_Light_impl_Light_of_lowest_c1_ok {S : Nat → Prop} {v0_ : Value} {b1_0 o1_0 : Nat} {cs1_0 : List Value} {b1_1 o1_1 : Nat} {cs1_1 : List Value} {s' : List Light} {cap : Light} {cap2 : Light} {r : Bool} (h0 : VR w0 S v0_ s') (hp1_0 : (MP.cells ⟨b1_0, o1_0, none⟩ cs1_0).pred w0 S) (hr1_0 : GoTy.rep w0 S cs1_0 cap) (hp1_1 : (MP.cells ⟨b1_1, o1_1, none⟩ cs1_1).pred w0 S) (hr1_1 : GoTy.rep w0 S cs1_1 cap2) (hF : slices_ContainsFunc_impl_Light_impl_Light_of_lowest_c1 fu s' cap cap2 = some r) :
    Calls Tryz.prog 92 [v0_, (.func (.func 215) #[] #[(.pointer (some ⟨b1_0, o1_0, none⟩)), (.pointer (some ⟨b1_1, o1_1, none⟩))])].toArray w0 fun e w' => ∃ v, e = .returned v ∧ (Below w0.heap.size w0 w' ∧ VR w' (St ⟨w0, []⟩ S [] [] [] true) v r) := by
 obtain ⟨A, c, rfl, hl⟩ := VR_list h0
 obtain ⟨A2, c2, rfl, hl2⟩ := Light_cells hr1_0
 obtain ⟨A3, c3, rfl, hl3⟩ := Light_cells hr1_1
 have H := Mem.start ⟨w0, []⟩ S
 have H := H.pA hl
 have H := H.pA hl2
 have H := H.pushArg (MP.cells ⟨b1_0, o1_0, none⟩ [(.int .i64 cap.Id), (.int .i64 cap.Route.Start), (.slice A2 cap.Route.Fibers.length c2), (.int .i64 cap.Block.First), (.int .i64 cap.Block.Count)]) hp1_0
 have H := H.pA hl3
 have H := H.pushArg (MP.cells ⟨b1_1, o1_1, none⟩ [(.int .i64 cap2.Id), (.int .i64 cap2.Route.Start), (.slice A3 cap2.Route.Fibers.length c3), (.int .i64 cap2.Block.First), (.int .i64 cap2.Block.Count)]) hp1_1
 refine en Tryz.func92 fun a hf => ?_
 rw [slices_ContainsFunc_impl_Light_impl_Light_of_lowest_c1] at hF
 refine sqz (pz 1 hf fun a hf => ?_)
 refine wr (pz 2 hf fun a hf => ?_)
 obtain ⟨y, hy, hF⟩ := bs_ hF
 refine oc hf TF.cl160 (slices_IndexFunc_impl_Light_impl_Light_of_lowest_c1_ok (S := TT) (mk_list (H.rt 4 rfl)) (mp_true (H.get 2 rfl)) ((Light_mk (x := cap) (H.rt 3 rfl))) (mp_true (H.get 0 rfl)) ((Light_mk (x := cap2) (H.rt 1 rfl))) hy) fun v w a hp3 hf => ?_
 obtain ⟨hb, hp3⟩ := hp3
 obtain rfl := VR_int hp3
 have H := H.keep hb
 refine pz 2 hf fun a hf => ?_
 refine wer ?_
 obtain rfl := oi hF
 refine rT hf ?_
 exact ⟨_, rfl, H.bel, mk_bool⟩
theorem impl_lowest_ok {S : Nat → Prop} {v0_ : Value} {v1_ : Value} {v2_ : Value} {p : Plan} {i : Int} {hitless : Bool} {r : Int} (h0 : VR w0 S v0_ p) (h1 : VR w0 S v1_ i) (h2 : VR w0 S v2_ hitless) (hF : impl_lowest fu p i hitless = some r) :
    Calls Tryz.prog 155 [v0_, v1_, v2_].toArray w0 fun e w' => ∃ v, e = .returned v ∧ (Below w0.heap.size w0 w' ∧ VR w' (St ⟨w0, []⟩ S [] [] [] true) v r) := by
 obtain ⟨A, c, A2, c2, A3, c3, rfl, hl, hl2, hl3⟩ := Plan_open h0
 obtain rfl := VR_int h1
 obtain rfl := VR_bool h2
 have H := Mem.start ⟨w0, []⟩ S
 have H := H.pA hl
 have H := H.pA hl2
 have H := H.pA hl3
 refine en Tryz.func155 fun a hf => ?_
 rw [impl_lowest] at hF
 refine bx hf H fun b' a w hf H => ?_
 refine pz 1 hf fun a hf => ?_
 refine wr (pz 1 hf fun a hf => ?_)
 refine lB 0 hf H TF.ls35 fun a hf => ?_
 refine pz 1 hf fun a hf => ?_
 obtain ⟨e, he, hF⟩ := bs_ hF
 refine wl0 rfl (op_iaddr hf H Tryz.underlying35 TF.sz73 0 rfl rfl rfl he (by decide) fun p2 o cs a hf hr H => ?_)
 obtain ⟨A4, c4, rfl, hl4⟩ := Light_cells hr
 have H := H.pF hl4
 refine oq hf (rq_loadIN hf H TF.la73 1 0 rfl rfl rfl rfl) fun a hf => ?_
 refine aL hf H TF.zv73 fun b2 a w hf H => ?_
 refine sB 0 hf H TF.sz73 fun w H => ?_
 refine we (sqz (pz 2 hf fun a hf => ?_))
 refine lB 0 hf H TF.ls3 fun a hf => ?_
 refine pz 1 hf fun a hf => ?_
 refine wl_end (then_n ?_)
 obtain ⟨out', hB1, hF⟩ := bs_ hF
 have hf := hf.pn [2, 3, 7, 17, 18]
 have H := H.lt_ [true, true] [] [] [0, 2, 3, 4]
 refine loopC (fun (s : Int) (a : Act) (w : World) => match s with | i2 => Fr a 52 [(2, (.bool hitless)), (3, (.pointer (some ⟨b', 0, none⟩))), (7, (.pointer (some ⟨b2, 0, none⟩))), (17, (.int .i64 e.Block.First)), (18, (.int .i64 i2))] ∧ Mem ⟨w0, []⟩ S [⟨b2, 73, [(.int .i64 e.Id), (.int .i64 e.Route.Start), (.slice A4 e.Route.Fibers.length c4), (.int .i64 e.Block.First), (.int .i64 e.Block.Count)]⟩, ⟨b', 37, [(.slice A p.Network.Nodes.length c), (.slice A2 p.Network.Fibers.length c2), (.slice A3 p.Lights.length c3)]⟩] [] [] [(false, MP.val [(.slice A4 e.Route.Fibers.length c4)] (e.Route.Fibers : List Int)), (false, MP.val [(.slice A3 p.Lights.length c3)] (p.Lights : List Light)), (false, MP.val [(.slice A2 p.Network.Fibers.length c2)] (p.Network.Fibers : List Fiber)), (false, MP.val [(.slice A p.Network.Nodes.length c)] (p.Network.Nodes : List ByteArray))] w) (fun k (s : Int) => impl_lowest_L1 fu p hitless e k s = some out') (fun s => out' = Out.next s) 0 fu hB1 ⟨hf, H⟩ (fun s h => by cases h) ?_ ?_
 ·rintro fk i2 a w hR1 hI
  replace hR1 : impl_lowest_L1 fu p hitless e (fk + 1) i2 = some out' := hR1
  rw [impl_lowest_L1] at hR1
  obtain ⟨hf, H⟩ := hI
  refine sqz (pz 1 hf fun a hf => ?_)
  refine wl_end (then_n (sq (ib hR1 hf (fun hc hR1 => ?_) fun hc hR1 => ?_)))
  ·refine ws (pz 2 hf fun a hf => ?_)
   refine wr (pz 1 hf fun a hf => ?_)
   refine lB 0 hf H TF.ls3 fun a hf => ?_
   refine pz 1 hf fun a hf => ?_
   refine lN 0 hf H TF.la59 fun a hf => ?_
   refine pz 3 hf fun a hf => ?_
   refine lB 0 hf H TF.ls3 fun a hf => ?_
   refine oq hf (rq_build hf (cs := [(.int .i64 i2), (.int .i64 e.Block.Count)]) rfl (fun w => by kernel_rfl)) fun a hf => ?_
   refine oq hf (rq_build hf (cs := [(.int .i64 e.Id), (.int .i64 e.Route.Start), (.slice A4 e.Route.Fibers.length c4), (.int .i64 i2), (.int .i64 e.Block.Count)]) rfl (fun w => by kernel_rfl)) fun a hf => ?_
   refine aL hf H TF.zv73 fun b3 a w hf H => ?_
   refine sB 0 hf H TF.sz73 fun w H => ?_
   refine wl_end (then_n (sq (sq ?_)))
   obtain ⟨c5, hGc5, hR1⟩ := bs_ hR1
   have fh := hf.prune [2, 3, 7, 8, 9, 17, 18] rfl
   have Hm := H.lt_ [true, true, true] [] [] [0, 1, 2, 3]
   refine midF 41 (.bool c5) fh Hm ?_ fun a w hf H => ?_
   ·refine dw [] 11 fun w hb => ?_
    have H := H.keep hb
    refine zp 0 hf trivial fun a hf => ?_
    refine zp 1 hf trivial fun a hf => ?_
    refine iteB hGc5 (fun hc2 hGc5 => ?_) fun hc2 hGc5 => ?_
    ·have hf := hf.lit 32 rfl hc2
     refine zg 2 hf trivial fun a hf => ?_
     refine strT (H.lt_ [true, false, false] [] [] []) (fun w H => trivial) fun hS => ?_
     refine tSg 3 [] rfl rfl rfl rfl rfl rfl hf (by kernel_rfl) (by kernel_rfl) hS (fun w H => rq_loadBN hf H TF.la71 0 rfl rfl rfl rfl) fun a hf => ?_
     refine zg 5 hf hS fun a hf => ?_
     refine strT (H.lt_ [true, true, false] [] [] []) (fun w H => H.lt_ [true, false] [] [] []) fun hS => ?_
     refine tSg 6 [] rfl rfl rfl rfl rfl rfl hf (by kernel_rfl) (by kernel_rfl) hS (fun w H => rq_loadBN hf H TF.la71 1 rfl rfl rfl rfl) fun a hf => ?_
     obtain ⟨y, hy, hGc5⟩ := bs_ hGc5
     refine n1g 4 (by kernel_rfl) rfl rfl rfl rfl hf (oC hf TF.cl144 (impl_maskOf_ok (S := TT) Block_mkv hy) fun v w a hp hf => ?_)
     obtain ⟨hb, hp⟩ := hp
     obtain rfl := VR_int hp
     have H := H.keep hb
     have hS := H.lt_ [true, true, false] [] [] []
     refine aS hS ?_
     obtain ⟨y2, hy2, hGc5⟩ := bs_ hGc5
     refine n1g 7 (by kernel_rfl) rfl rfl rfl rfl hf (oC hf TF.cl144 (impl_maskOf_ok (S := TT) Block_mkv hy2) fun v2 w a hp2 hf => ?_)
     obtain ⟨hb2, hp2⟩ := hp2
     obtain rfl := VR_int hp2
     have H := H.keep hb2
     have hS := H.lt_ [true, true, false] [] [] []
     refine aS hS ?_
     refine zg 8 hf hS fun a hf => ?_
     refine zg 9 hf hS fun a hf => ?_
     refine zp 10 hf hS fun a hf => ?_
     refine dk ?_
     obtain rfl := oi hGc5
     have hf := hf.pn [41, 2, 3, 7, 8, 9, 17, 18]
     have H := H.lt_ [true, true, true] [] [] [0, 1, 2, 3]
     exact ⟨hf, H⟩
    ·have hf := hf.lit 32 rfl hc2
     refine zU 2 hf trivial fun a hf => ?_
     refine zU 3 hf trivial fun a hf => ?_
     refine zU 4 hf trivial fun a hf => ?_
     refine zU 5 hf trivial fun a hf => ?_
     refine zU 6 hf trivial fun a hf => ?_
     refine zU 7 hf trivial fun a hf => ?_
     refine zU 8 hf trivial fun a hf => ?_
     refine zU 9 hf trivial fun a hf => ?_
     refine zp 10 hf trivial fun a hf => ?_
     refine dk ?_
     obtain rfl := oi hGc5
     have hf := hf.pn [41, 2, 3, 7, 8, 9, 17, 18]
     have H := H.lt_ [true, true, true] [] [] [0, 1, 2, 3]
     exact ⟨hf, H⟩
   refine then_n (ib hR1 hf (fun hc3 hR1 => ?_) fun hc3 hR1 => ?_)
   ·refine wp_exit (then_x (blk_e (?_)))
    refine then_n (reg (pz 2 hf fun a hf => ?_))
    refine wl_end ?_
    have hf := hf.pn [2, 3, 7, 17, 18]
    have H := H.lt_ [false, true, true] [] [] [0, 1, 2, 3]
    exact then_n ⟨w64 (i2 + 1), hR1, hf, H⟩
   ·refine wp_skip (then_n (sqz (pz 1 hf fun a hf => ?_)))
    refine lB 2 hf H TF.ls35 fun a hf => ?_
    refine oq hf (rq_makeFunc hf rfl) fun a hf => ?_
    obtain ⟨y3, hy3, hR1⟩ := bs_ hR1
    refine oc hf TF.cl92 (slices_ContainsFunc_impl_Light_impl_Light_of_lowest_c1_ok (S := TT) (mk_list (H.rt 1 rfl)) (H.boxTrue 1 rfl) ((Light_mk (x := e) (H.rt 0 rfl))) (H.boxTrue 0 rfl) ((Light_mk (x := ({ Id := e.Id, Route := e.Route, Block := ({ First := i2, Count := e.Block.Count } : Block) } : Light)) (H.rt 0 rfl))) hy3) fun v3 w a hp3 hf => ?_
    obtain ⟨hb3, hp3⟩ := hp3
    obtain rfl := VR_bool hp3
    have H := H.keep hb3
    refine pz 1 hf fun a hf => ?_
    refine wl_end (then_n (ib hR1 hf (fun hc4 hR1 => ?_) fun hc4 hR1 => ?_))
    ·refine sqz (pz 2 hf fun a hf => ?_)
     have hf := hf.pn [6]
     refine wl_end (then_n (wp_ret (blk_r (then_r (then_r (blk_r (then_r (then_r (?_)))))))))
     obtain rfl := oi hR1
     replace hF := on_ret hF
     obtain rfl := oi hF
     refine rT hf ?_
     exact ⟨_, rfl, H.bel, mk_int⟩
    ·refine wp_skip (blk_n (then_n (reg (pz 2 hf fun a hf => ?_))))
     refine wl_end ?_
     have hf := hf.pn [2, 3, 7, 17, 18]
     have H := H.lt_ [false, true, true] [] [] [0, 1, 2, 3]
     exact then_n ⟨w64 (i2 + 1), hR1, hf, H⟩
  ·refine wp_exit (then_x (then_x (blk_e (?_))))
   have hf := hf.pn [2, 3, 7, 17, 18]
   have H := H.lt_ [true, true] [] [] [0, 1, 2, 3]
   exact ⟨i2, (Option.some.inj hR1).symm, hf, H⟩
 rintro a w ⟨i3, rfl, hf, H⟩
 replace hF := on_next hF
 refine then_n (sqz (pz 2 hf fun a hf => ?_))
 refine lB 0 hf H TF.ls3 fun a hf => ?_
 refine pz 1 hf fun a hf => ?_
 refine wer ?_
 obtain rfl := oi hF
 refine rT hf ?_
 exact ⟨_, rfl, H.bel, mk_int⟩
theorem impl_lowered_ok {S : Nat → Prop} {v0_ : Value} {v1_ : Value} {p : Plan} {hitless : Bool} {r : Plan × Int} (h0 : VR w0 S v0_ p) (h1 : VR w0 S v1_ hitless) (hF : impl_lowered fu p hitless = some r) :
    Calls Tryz.prog 85 [v0_, v1_].toArray w0 fun e w' => ∃ v, e = .returned v ∧ (Below w0.heap.size w0 w' ∧ ∃ F0, ∃ u0 u1, v = .tuple #[u0, u1] ∧ VO w' F0 u0 r.1 ∧ VR w' (St ⟨w0, []⟩ S [] [] [] true) u1 r.2 ∧ New w0 w' F0) := by
 obtain ⟨A, c, A2, c2, A3, c3, rfl, hl, hl2, hl3⟩ := Plan_open h0
 obtain rfl := VR_bool h1
 have H := Mem.start ⟨w0, []⟩ S
 have H := H.pA hl
 have H := H.pA hl2
 have H := H.pA hl3
 refine en Tryz.func85 fun a hf => ?_
 rw [impl_lowered] at hF
 refine bx hf H fun b' a w hf H => ?_
 refine aL hf H TF.zv37 fun b2 a w hf H => ?_
 refine pz 1 hf fun a hf => ?_
 refine wr (lN 1 hf H TF.la37 fun a hf => ?_)
 obtain ⟨y, hy, hF⟩ := bs_ hF
 refine oc hf TF.cl58 (impl_copyPlan_ok (S := TT) (Plan_mkv (x := p) (H.rt 2 rfl) (H.rt 1 rfl) (H.rt 0 rfl)) hy) fun v w a hp hf => ?_
 obtain ⟨hb, F, hp2, hN⟩ := hp
 obtain ⟨A4, c4, F2, A5, c5, F3, A6, c6, F4, rfl, rfl, hl4, hl5, hl6⟩ := Plan_vo hp2
 have H := H.aO3 hb (by first | exact hN | simpa using hN) hl4 hl5 hl6
 have H := H.lend 0 rfl
 have H := H.lend 1 rfl
 have H := H.lend 2 rfl
 have H := H.frontD 2 rfl
 obtain ⟨Fs, E, H, -⟩ := H.thaw rfl
 have H := H.pA hl
 have H := H.pA hl2
 have H := H.pA hl3
 have H := H.lend 0 rfl
 have H := H.lend 1 rfl
 refine aL hf H TF.zv37 fun b3 a w hf H => ?_
 refine sB 0 hf H TF.sz37 fun w H => ?_
 refine we (sqz (pz 1 hf fun a hf => ?_))
 refine lB 2 hf H TF.ls35 fun a hf => ?_
 refine pz 2 hf fun a hf => ?_
 refine wl_end (then_n ?_)
 obtain ⟨out', hB1, hF⟩ := bs_ hF
 have hf := hf.pn [1, 2, 4, 6, 13, 14, 15]
 have H := H.lt_ [true, true, true] [true] [true, true] [0, 1, 2, 3, 4]
 refine loopC (fun (s : Int) (a : Act) (w : World) => match s with | i => Fr a 41 [(1, (.bool hitless)), (2, (.pointer (some ⟨b', 0, none⟩))), (4, (.pointer (some ⟨b2, 0, none⟩))), (6, (.pointer (some ⟨b3, 0, none⟩))), (13, (.slice A3 p.Lights.length c3)), (14, (.int .i64 (p.Lights.length : Int))), (15, (.int .i64 i))] ∧ Mem ⟨w0, []⟩ S [⟨b3, 37, [(.slice A4 y.Network.Nodes.length c4), (.slice A5 y.Network.Fibers.length c5), (.slice A6 y.Lights.length c6)]⟩, ⟨b2, 37, [(.slice none 0 0), (.slice none 0 0), (.slice none 0 0)]⟩, ⟨b', 37, [(.slice A p.Network.Nodes.length c), (.slice A2 p.Network.Fibers.length c2), (.slice A3 p.Lights.length c3)]⟩] [⟨.ow Fs, E, A6, c6, (y.Lights : List Light)⟩] [⟨F2, MP.own F2 [(.slice A4 y.Network.Nodes.length c4)] (y.Network.Nodes : List ByteArray)⟩, ⟨F3, MP.own F3 [(.slice A5 y.Network.Fibers.length c5)] (y.Network.Fibers : List Fiber)⟩] [(true, MP.val [(.slice A5 y.Network.Fibers.length c5)] (y.Network.Fibers : List Fiber)), (true, MP.val [(.slice A4 y.Network.Nodes.length c4)] (y.Network.Nodes : List ByteArray)), (false, MP.val [(.slice A3 p.Lights.length c3)] (p.Lights : List Light)), (false, MP.val [(.slice A2 p.Network.Fibers.length c2)] (p.Network.Fibers : List Fiber)), (false, MP.val [(.slice A p.Network.Nodes.length c)] (p.Network.Nodes : List ByteArray))] w) (fun k (s : Int) => impl_lowered_L1 fu p hitless y k s = some out') (fun s => out' = Out.next s) 0 fu hB1 ⟨hf, H⟩ (fun s h => by cases h) ?_ ?_
 ·rintro fk i a w hR1 hI
  replace hR1 : impl_lowered_L1 fu p hitless y (fk + 1) i = some out' := hR1
  rw [impl_lowered_L1] at hR1
  obtain ⟨hf, H⟩ := hI
  refine sqz (pz 1 hf fun a hf => ?_)
  refine wl_end (then_n (sq (ib hR1 hf (fun hc hR1 => ?_) fun hc hR1 => ?_)))
  ·refine ws (pz 1 hf fun a hf => ?_)
   obtain ⟨e, he, hR1⟩ := bs_ hR1
   refine wl0 rfl (op_iaddr hf H Tryz.underlying35 TF.sz73 2 rfl rfl rfl he (by decide) fun p2 o cs a hf hr H => ?_)
   obtain ⟨A7, c7, rfl, hl7⟩ := Light_cells hr
   have H := H.pF hl7
   refine oq hf (rq_loadIN hf H TF.la73 1 0 rfl rfl rfl rfl) fun a hf => ?_
   refine aL hf H TF.zv73 fun b4 a w hf H => ?_
   refine pz 1 hf fun a hf => ?_
   refine sB 0 hf H TF.sz73 fun w H => ?_
   refine wr (lN 3 hf H TF.la37 fun a hf => ?_)
   refine pz 2 hf fun a hf => ?_
   obtain ⟨y2, hy2, hR1⟩ := bs_ hR1
   refine oc hf TF.cl155 (impl_lowest_ok (S := TT) (Plan_mkv (x := p) (H.rt 6 rfl) (H.rt 5 rfl) (H.rt 4 rfl)) mk_int mk_bool hy2) fun v2 w a hp3 hf => ?_
   obtain ⟨hb2, hp3⟩ := hp3
   obtain rfl := VR_int hp3
   have H := H.keep hb2
   refine pz 1 hf fun a hf => ?_
   refine wr (pz 3 hf fun a hf => ?_)
   refine lB 0 hf H TF.ls3 fun a hf => ?_
   refine pz 1 hf fun a hf => ?_
   refine wl_end (then_n (ib hR1 hf (fun hc2 hR1 => ?_) fun hc2 hR1 => ?_))
   ·refine sqz (pz 1 hf fun a hf => ?_)
    refine lB 1 hf H TF.ls35 fun a hf => ?_
    refine pz 2 hf fun a hf => ?_
    obtain ⟨e2, he2, hR1⟩ := bs_ hR1
    refine wl0 rfl (op_iaddrR hf H Tryz.underlying35 TF.sz73 0 rfl rfl rfl he2 (by decide) fun p3 o2 cs2 a hf hA hr2 hk => ?_)
    have hrk := hr2
    obtain ⟨A8, c8, rfl, hl8⟩ := Light_cells hr2
    have H := H.pT hl8
    refine pz 2 hf fun a hf => ?_
    refine wl0 rfl (op_storeR (e' := ({ Id := e2.Id, Route := e2.Route, Block := ({ First := y2, Count := e2.Block.Count } : Block) } : Light)) (o := o2) (off := 3) hf H TF.sz3 0 rfl rfl rfl rfl rfl (nle rfl) rfl hA he2 (st_own fun F cs h => by obtain ⟨A0, c0, F0, rfl, rfl, l0⟩ := Light_own h; exact Light_ownmk (x := ({ Id := e2.Id, Route := e2.Route, Block := ({ First := y2, Count := e2.Block.Count } : Block) } : Light)) l0) fun w H => ?_)
    replace hf : Fr a 41 [(4, (.pointer (some ⟨b2, 0, none⟩))), (6, (.pointer (some ⟨b3, 0, none⟩))), (7, (.int .i64 i)), (8, (.pointer (some ⟨b4, 0, none⟩))), (9, (.int .i64 y2)), (29, (.pointer (some ⟨b3, 2, none⟩))), (30, (.slice A6 y.Lights.length c6)), (31, (.int .i64 i)), (32, (.int .i64 y2)), (33, (.pointer (some ⟨p3, o2 + 0, none⟩))), (34, (.pointer (some ⟨p3, o2 + 3, none⟩))), (35, (.pointer (some ⟨p3, o2 + 3, none⟩)))] := hf.prune [4, 6, 7, 8, 9, 29, 30, 31, 32, 33, 34, 35] rfl
    replace hf : Fr a 41 [(4, (.pointer (some ⟨b2, 0, none⟩))), (6, (.pointer (some ⟨b3, 0, none⟩))), (7, (.int .i64 i)), (8, (.pointer (some ⟨b4, 0, none⟩))), (9, (.int .i64 y2)), (29, (.pointer (some ⟨b3, 2, none⟩))), (30, (.slice A6 (y.Lights.set (i : Int).toNat ({ Id := e2.Id, Route := e2.Route, Block := ({ First := y2, Count := e2.Block.Count } : Block) } : Light)).length c6)), (31, (.int .i64 i)), (32, (.int .i64 y2)), (33, (.pointer (some ⟨p3, o2 + 0, none⟩))), (34, (.pointer (some ⟨p3, o2 + 3, none⟩))), (35, (.pointer (some ⟨p3, o2 + 3, none⟩)))] := by simpa only [List.length_set, Nat.add_zero] using hf
    replace H : Mem ⟨w0, []⟩ S [⟨b4, 73, [(.int .i64 e.Id), (.int .i64 e.Route.Start), (.slice A7 e.Route.Fibers.length c7), (.int .i64 e.Block.First), (.int .i64 e.Block.Count)]⟩, ⟨b3, 37, [(.slice A4 y.Network.Nodes.length c4), (.slice A5 y.Network.Fibers.length c5), (.slice A6 (y.Lights.set (i : Int).toNat ({ Id := e2.Id, Route := e2.Route, Block := ({ First := y2, Count := e2.Block.Count } : Block) } : Light)).length c6)]⟩, ⟨b2, 37, [(.slice none 0 0), (.slice none 0 0), (.slice none 0 0)]⟩, ⟨b', 37, [(.slice A p.Network.Nodes.length c), (.slice A2 p.Network.Fibers.length c2), (.slice A3 p.Lights.length c3)]⟩] [⟨.ow Fs, E, A6, c6, (y.Lights.set (i : Int).toNat ({ Id := e2.Id, Route := e2.Route, Block := ({ First := y2, Count := e2.Block.Count } : Block) } : Light) : List Light)⟩] [⟨F2, MP.own F2 [(.slice A4 y.Network.Nodes.length c4)] (y.Network.Nodes : List ByteArray)⟩, ⟨F3, MP.own F3 [(.slice A5 y.Network.Fibers.length c5)] (y.Network.Fibers : List Fiber)⟩] [(true, MP.val [(.slice A8 e2.Route.Fibers.length c8)] (e2.Route.Fibers : List Int)), (false, MP.val [(.slice A7 e.Route.Fibers.length c7)] (e.Route.Fibers : List Int)), (false, MP.cells ⟨p2, o, none⟩ [(.int .i64 e.Id), (.int .i64 e.Route.Start), (.slice A7 e.Route.Fibers.length c7), (.int .i64 e.Block.First), (.int .i64 e.Block.Count)]), (true, MP.val [(.slice A5 y.Network.Fibers.length c5)] (y.Network.Fibers : List Fiber)), (true, MP.val [(.slice A4 y.Network.Nodes.length c4)] (y.Network.Nodes : List ByteArray)), (false, MP.val [(.slice A3 p.Lights.length c3)] (p.Lights : List Light)), (false, MP.val [(.slice A2 p.Network.Fibers.length c2)] (p.Network.Fibers : List Fiber)), (false, MP.val [(.slice A p.Network.Nodes.length c)] (p.Network.Nodes : List ByteArray))] w := by first | (simp only [List.length_set]; exact H) | (simp only [List.length_set] at H ⊢; exact H)
    refine wl_end (then_n (sq (mid (fun a w => Fr a 41 [(4, (.pointer (some ⟨b2, 0, none⟩))), (5, (.int .i64 e.Id))] ∧ Mem ⟨w0, []⟩ S [⟨b2, 37, [(.slice A4 y.Network.Nodes.length c4), (.slice A5 y.Network.Fibers.length c5), (.slice A6 (y.Lights.set (i : Int).toNat ({ Id := e2.Id, Route := e2.Route, Block := ({ First := y2, Count := e2.Block.Count } : Block) } : Light)).length c6)]⟩] [⟨.ow Fs, E, A6, c6, (y.Lights.set (i : Int).toNat ({ Id := e2.Id, Route := e2.Route, Block := ({ First := y2, Count := e2.Block.Count } : Block) } : Light) : List Light)⟩] [⟨F2, MP.own F2 [(.slice A4 y.Network.Nodes.length c4)] (y.Network.Nodes : List ByteArray)⟩, ⟨F3, MP.own F3 [(.slice A5 y.Network.Fibers.length c5)] (y.Network.Fibers : List Fiber)⟩] [(true, MP.val [(.slice A5 y.Network.Fibers.length c5)] (y.Network.Fibers : List Fiber)), (true, MP.val [(.slice A4 y.Network.Nodes.length c4)] (y.Network.Nodes : List ByteArray))] w) ?_ ?_)))
    ·refine dw [3] 5 fun w hb => ?_
     have H := H.keep hb
     refine strT (H.lt_ [false, true, false, false] [false] [false, false] []) (fun w H => trivial) fun hS => ?_
     refine zS 0 [0, 3, 4] rfl rfl rfl rfl hf hS (fun w H => rq_loadBN hf H TF.la37 0 rfl rfl rfl rfl) fun a hf => ?_
     refine zp 1 hf hS fun a hf => ?_
     refine on2 (i := 2) (j := 3) (bi := [true, true, true, false, false]) (bj := [true, true, false, true, false]) (by kernel_rfl) rfl rfl rfl rfl rfl rfl ?_ ?_
     ·refine (op_q hf (rq_loadB hf H TF.ls3 0 rfl rfl rfl) rfl (by decide) fun a hf => ?_)
      have hS := H.lt_ [false, true, false, false] [false] [false, false] []
      refine aS hS ?_
      refine nn 3 rfl (op_storeB hf H 2 TF.sz37 rfl rfl rfl rfl rfl rfl (nle rfl) fun w H => ?_)
      refine ⟨fun h => absurd h (by decide), ?_⟩
      refine tp 4 rfl rfl hf (by kernel_rfl) (fun h => absurd h (by decide)) rfl fun a hf => ?_
      refine dk ?_
      have hf := hf.pn [4, 5]
      have H := H.lt_ [false, false, true, false] [true] [true, true] [3, 4]
      exact ⟨hf, H⟩
     ·refine (op_storeB hf H 2 TF.sz37 rfl rfl rfl rfl rfl rfl (nle rfl) fun w H => ?_)
      refine ⟨fun h => absurd h (by decide), ?_⟩
      refine nn 2 rfl (op_q hf (rq_loadB hf H TF.ls3 0 rfl rfl rfl) rfl (by decide) fun a hf => ?_)
      refine ⟨fun h => absurd h (by decide), ?_⟩
      refine tp 4 rfl rfl hf (by kernel_rfl) (fun h => absurd h (by decide)) rfl fun a hf => ?_
      refine dk ?_
      have hf := hf.pn [4, 5]
      have H := H.lt_ [false, false, true, false] [true] [true, true] [3, 4]
      exact ⟨hf, H⟩
    rintro a w ⟨hf, H⟩
    refine then_n (wp_ret (blk_r (then_r (then_r (blk_r (then_r (then_r (?_))))))))
    obtain ⟨F5, H⟩ := H.freezeOwn 0 rfl
    have H := H.lend 0 rfl
    have H := H.frontD 2 rfl
    have H := H.frontD 2 rfl
    obtain rfl := oi hR1
    replace hF := on_ret hF
    obtain rfl := oi hF
    refine ret_2 hf rfl (rv_cellN hf H 0 TF.la37 rfl rfl rfl) (rv_tmp hf rfl) ?_
    have hN := H.ends3
    exact ⟨_, rfl, H.bel, (F2 ++ (F3 ++ F5)), _, _, rfl, ⟨_, Plan_ownmk (x := ({ Network := y.Network, Lights := y.Lights.set (i : Int).toNat ({ Id := e2.Id, Route := e2.Route, Block := ({ First := y2, Count := e2.Block.Count } : Block) } : Light) } : Plan)) (H.ownAt 0 rfl) (H.ownAt 1 rfl) (H.ownAt 2 rfl), rfl⟩, mk_int, by first | exact hN | simpa using hN⟩
   ·refine wp_skip (blk_n (then_n (reg (pz 2 hf fun a hf => ?_))))
    have hf := hf.pn [1, 2, 4, 6, 13, 14, 15]
    refine wl_end ?_
    have hf := hf.pn [1, 2, 4, 6, 13, 14, 15]
    have H := H.lt_ [false, true, true, true] [true] [true, true] [2, 3, 4, 5, 6]
    exact then_n ⟨w64 (i + 1), hR1, hf, H⟩
  ·refine wp_exit (then_x (then_x (blk_e (?_))))
   have hf := hf.pn [1, 2, 4, 6, 13, 14, 15]
   have H := H.lt_ [true, true, true] [true] [true, true] [0, 1, 2, 3, 4]
   exact ⟨i, (Option.some.inj hR1).symm, hf, H⟩
 rintro a w ⟨i2, rfl, hf, H⟩
 replace hF := on_next hF
 refine then_n (sq (reg (lN 0 hf H TF.la37 fun a hf => ?_)))
 refine sB 1 hf H TF.sz37 fun w H => ?_
 refine pz 1 hf fun a hf => ?_
 refine wer ?_
 obtain ⟨F6, H⟩ := H.freezeOwn 0 rfl
 have H := H.lend 0 rfl
 have H := H.frontD 2 rfl
 have H := H.frontD 2 rfl
 obtain rfl := oi hF
 refine ret_2 hf rfl (rv_cellN hf H 1 TF.la37 rfl rfl rfl) (rv_tmp hf rfl) ?_
 have hN := H.ends3
 exact ⟨_, rfl, H.bel, (F2 ++ (F3 ++ F6)), _, _, rfl, ⟨_, Plan_ownmk (x := y) (H.ownAt 0 rfl) (H.ownAt 1 rfl) (H.ownAt 2 rfl), rfl⟩, mk_int, by first | exact hN | simpa using hN⟩
theorem impl_Defragment_ok {S : Nat → Prop} {v0_ : Value} {v1_ : Value} {v2_ : Value} {p : Plan} {hitless : Bool} {limit : Int} {r : Plan × List Int × Bool} (h0 : VR w0 S v0_ p) (h1 : VR w0 S v1_ hitless) (h2 : VR w0 S v2_ limit) (hF : impl_Defragment fu p hitless limit = some r) :
    Calls Tryz.prog 30 [v0_, v1_, v2_].toArray w0 fun e w' => ∃ v, e = .returned v ∧ (Below w0.heap.size w0 w' ∧ ∃ F0 F1, ∃ u0 u1 u2, v = .tuple #[u0, u1, u2] ∧ VO w' F0 u0 r.1 ∧ VO w' F1 u1 r.2.1 ∧ VR w' (St ⟨w0, []⟩ S [] [] [] true) u2 r.2.2 ∧ New w0 w' (F0 ++ F1)) := by
 obtain ⟨A, c, A2, c2, A3, c3, rfl, hl, hl2, hl3⟩ := Plan_open h0
 obtain rfl := VR_bool h1
 obtain rfl := VR_int h2
 have H := Mem.start ⟨w0, []⟩ S
 have H := H.pA hl
 have H := H.pA hl2
 have H := H.pA hl3
 refine en Tryz.func30 fun a hf => ?_
 rw [impl_Defragment] at hF
 refine bx hf H fun b' a w hf H => ?_
 refine aL hf H TF.zv37 fun b2 a w hf H => ?_
 refine pz 2 hf fun a hf => ?_
 refine wl_end (then_n (sq (sq ?_)))
 obtain ⟨c4, hGc4, hF⟩ := bs_ hF
 have fh := hf.prune [1, 2, 3, 6] rfl
 have Hm := H.lt_ [true, true] [] [] [0, 1, 2]
 refine midF 20 (.bool c4) fh Hm ?_ fun a w hf H => ?_
 ·refine reg (lN 1 hf H TF.la37 fun a hf => ?_)
  obtain ⟨y, hy, hGc4⟩ := bs_ hGc4
  refine oc hf TF.cl34 (impl_IsValidPlan_ok (S := TT) (Plan_mkv (x := p) (H.rt 2 rfl) (H.rt 1 rfl) (H.rt 0 rfl)) hy) fun v w a hp hf => ?_
  obtain ⟨hb, hp⟩ := hp
  obtain rfl := VR_bool hp
  have H := H.keep hb
  refine pz 2 hf fun a hf => ?_
  refine iteB hGc4 (fun hc hGc4 => ?_) fun hc hGc4 => ?_
  ·have hf := hf.lit 16 rfl hc
   refine pz 4 hf fun a hf => ?_
   obtain rfl := oi hGc4
   have hf := hf.pn [20, 1, 2, 3, 6]
   have H := H.lt_ [true, true] [] [] [0, 1, 2]
   exact wl_end ⟨hf, H⟩
  ·have hf := hf.lit 16 rfl hc
   refine pz 1 hf fun a hf => ?_
   obtain ⟨y2, hy2, hGc4⟩ := bs_ hGc4
   refine wlg hf rfl rfl rfl (oC hf TF.cl84 (impl_within_ok (S := TT) mk_int mk_int mk_int hy2) fun v2 w a hp2 hf => ?_)
   obtain ⟨hb2, hp2⟩ := hp2
   obtain rfl := VR_bool hp2
   have H := H.keep hb2
   refine pz 2 hf fun a hf => ?_
   obtain rfl := oi hGc4
   have hf := hf.pn [20, 1, 2, 3, 6]
   have H := H.lt_ [true, true] [] [] [0, 1, 2]
   exact wl_end ⟨hf, H⟩
 refine then_n (ib hF hf (fun hc2 hF => ?_) fun hc2 hF => ?_)
 ·refine sq (reg (oq hf (rq_build hf (cs := [(.slice none 0 0), (.slice none 0 0), (.slice none 0 0)]) rfl (fun w => by kernel_rfl)) fun a hf => ?_))
  refine sB 0 hf H TF.sz37 fun w H => ?_
  refine pz 2 hf fun a hf => ?_
  refine wl_end (then_n (wp_ret (then_r (?_))))
  have H := H.ownNil (ByteArray)
  have H := H.lend 0 rfl
  have H := H.ownNil (Fiber)
  have H := H.lend 0 rfl
  have H := H.ownNil (Light)
  have H := H.lend 0 rfl
  have H := H.ownNil (Int)
  have H := H.lend 0 rfl
  have H := H.frontD 1 rfl
  have H := H.frontD 2 rfl
  have H := H.frontD 3 rfl
  obtain rfl := oi hF
  refine ret_3 hf rfl (rv_cellN hf H 0 TF.la37 rfl rfl rfl) (rv_tmp hf rfl) (rv_tmp hf rfl) ?_
  have hN := H.ends (X := [(⟨[], MP.own [] [(.slice none 0 0)] ([] : List ByteArray)⟩ : DI), (⟨[], MP.own [] [(.slice none 0 0)] ([] : List Fiber)⟩ : DI), (⟨[], MP.own [] [(.slice none 0 0)] ([] : List Light)⟩ : DI), (⟨[], MP.own [] [(.slice none 0 0)] ([] : List Int)⟩ : DI)])
  simp only [List.flatMap_cons, List.flatMap_nil, List.append_nil, List.append_assoc] at hN
  exact ⟨_, rfl, H.bel, ([] ++ ([] ++ [])), [], _, _, _, rfl, ⟨_, Plan_ownmk (x := ({ Network := ({ Nodes := [], Fibers := [] } : Network), Lights := [] } : Plan)) (H.ownAt 0 rfl) (H.ownAt 1 rfl) (H.ownAt 2 rfl), rfl⟩, (mko_list (H.ownAt 3 rfl)), mk_bool, by first | exact hN | simpa using hN⟩
 ·refine wp_skip (then_n (sq (reg (lN 1 hf H TF.la37 fun a hf => ?_))))
  obtain ⟨y3, hy3, hF⟩ := bs_ hF
  refine oc hf TF.cl58 (impl_copyPlan_ok (S := TT) (Plan_mkv (x := p) (H.rt 2 rfl) (H.rt 1 rfl) (H.rt 0 rfl)) hy3) fun v3 w a hp3 hf => ?_
  obtain ⟨hb3, F, hp4, hN⟩ := hp3
  obtain ⟨A4, c5, F2, A5, c6, F3, A6, c7, F4, rfl, rfl, hl4, hl5, hl6⟩ := Plan_vo hp4
  have H := H.aO3 hb3 (by first | exact hN | simpa using hN) hl4 hl5 hl6
  have H := H.lend 0 rfl
  have H := H.lend 1 rfl
  have H := H.lend 2 rfl
  refine wl0 rfl (bl hf H 3 ([] : List Int) [] el0 fun A7 a w hf H => ?_)
  refine aL hf H TF.zv37 fun b3 a w hf H => ?_
  refine sB 0 hf H TF.sz37 fun w H => ?_
  refine pz 1 hf fun a hf => ?_
  refine we (sqz (pz 2 hf fun a hf => ?_))
  refine wl_end (then_n ?_)
  obtain ⟨out', hB1, hF⟩ := bs_ hF
  have hf := hf.pn [1, 6, 9, 10, 25, 26]
  have H := H.frontD 1 rfl
  have H := H.frontD 2 rfl
  have H := H.lt_ [true, true, false] [true] [true, true, true] [0, 1, 2]
  refine loopC (fun (s : List Int × Int × List ByteArray × List Fiber × List Light) (a : Act) (w : World) => match s with | (ids, i, m, m2, m3) => ∃ (A8 : Option Addr) (c8 : Nat) (E : Go.TypeId) (A9 : Option Addr) (c9 : Nat) (F5 : List Nat) (A10 : Option Addr) (c10 : Nat) (F6 : List Nat) (A11 : Option Addr) (c11 : Nat) (F7 : List Nat), Fr a 44 [(1, (.bool hitless)), (6, (.pointer (some ⟨b2, 0, none⟩))), (9, (.pointer (some ⟨b3, 0, none⟩))), (10, (.slice A8 ids.length c8)), (25, (.int .i64 limit)), (26, (.int .i64 i))] ∧ Mem ⟨w0, []⟩ S [⟨b3, 37, [(.slice A9 m.length c9), (.slice A10 m2.length c10), (.slice A11 m3.length c11)]⟩, ⟨b2, 37, [(.slice none 0 0), (.slice none 0 0), (.slice none 0 0)]⟩] [⟨.sh true, E, A8, c8, (ids : List Int)⟩] [⟨F7, MP.own F7 [(.slice A11 m3.length c11)] (m3 : List Light)⟩, ⟨F6, MP.own F6 [(.slice A10 m2.length c10)] (m2 : List Fiber)⟩, ⟨F5, MP.own F5 [(.slice A9 m.length c9)] (m : List ByteArray)⟩] [(true, MP.val [(.slice A11 m3.length c11)] (m3 : List Light)), (true, MP.val [(.slice A10 m2.length c10)] (m2 : List Fiber)), (true, MP.val [(.slice A9 m.length c9)] (m : List ByteArray))] w) (fun k (s : List Int × Int × List ByteArray × List Fiber × List Light) => impl_Defragment_L1 fu hitless limit k s.1 s.2.1 s.2.2.1 s.2.2.2.1 s.2.2.2.2 = some out') (fun s => out' = s) (([] : List Int), 0, y3.Network.Nodes, y3.Network.Fibers, y3.Lights) fu hB1 ⟨A7, 0, 3, A4, c5, F2, A5, c6, F3, A6, c7, F4, hf, H⟩ (fun s h => by cases h) ?_ ?_
  ·rintro fk ⟨ids, i, m, m2, m3⟩ a w hR1 hI
   replace hR1 : impl_Defragment_L1 fu hitless limit (fk + 1) ids i m m2 m3 = some out' := hR1
   rw [impl_Defragment_L1] at hR1
   obtain ⟨A8, c8, E, A9, c9, F5, A10, c10, F6, A11, c11, F7, hf, H⟩ := hI
   refine sqz (pz 1 hf fun a hf => ?_)
   refine wl_end (then_n (sq (ib hR1 hf (fun hc3 hR1 => ?_) fun hc3 hR1 => ?_)))
   ·refine ws (lN 0 hf H TF.la37 fun a hf => ?_)
    refine pz 1 hf fun a hf => ?_
    obtain ⟨y4, hy4, hR1⟩ := bs_ hR1
    refine oc hf TF.cl85 (impl_lowered_ok (S := TT) (Plan_mkv (x := ({ Network := ({ Nodes := m, Fibers := m2 } : Network), Lights := m3 } : Plan)) (H.rt 2 rfl) (H.rt 1 rfl) (H.rt 0 rfl)) mk_bool hy4) fun v4 w a hp5 hf => ?_
    obtain ⟨hb4, F8, v5, v6, rfl, hp6, hp7, hN2⟩ := hp5
    obtain ⟨A12, c12, F9, A13, c13, F10, A14, c14, F11, rfl, rfl, hl7, hl8, hl9⟩ := Plan_vo hp6
    obtain rfl := VR_int hp7
    have H := H.aO3 hb4 (by first | exact hN2 | simpa using hN2) hl7 hl8 hl9
    have H := H.lend 0 rfl
    have H := H.lend 1 rfl
    have H := H.lend 2 rfl
    refine pz 3 hf fun a hf => ?_
    refine aL hf H TF.zv37 fun b4 a w hf H => ?_
    refine sB 0 hf H TF.sz37 fun w H => ?_
    refine pz 1 hf fun a hf => ?_
    refine we (sqz (pz 2 hf fun a hf => ?_))
    refine wl_end (then_n (ib hR1 hf (fun hc4 hR1 => ?_) fun hc4 hR1 => ?_))
    ·refine wp_exit (then_x (blk_x rfl (then_x (then_x (blk_e (?_))))))
     have hf := hf.pn [1, 6, 9, 10, 25, 26]
     have H := H.lt_ [false, true, true] [true] [false, false, false, true, true, true] [3, 4, 5]
     exact ⟨(ids, i, m, m2, m3), (Option.some.inj hR1).symm, A8, c8, E, A9, c9, F5, A10, c10, F6, A11, c11, F7, hf, H⟩
    ·refine wp_skip (then_n (dw [5] 7 fun w hb => ?_))
     have H := H.keep hb
     refine strT (H.lt_ [true, false, false] [false] [false, false, false, false, false, false] []) (fun w H => trivial) fun hS => ?_
     refine zS 0 [0, 5, 6] rfl rfl rfl rfl hf hS (fun w H => rq_loadBN hf H TF.la37 0 rfl rfl rfl rfl) fun a hf => ?_
     refine zp 1 hf hS fun a hf => ?_
     refine zp 2 hf hS fun a hf => ?_
     refine nn 3 rfl (bl hf H 3 ([y4.2] : List Int) [(.int .i64 y4.2)] (el1 (y := y4.2) (rfl)) fun A15 a w hf H => ?_)
     have hS := H.lt_ [true, false, false] [false, false] [false, false, false, false, false, false] []
     refine aS hS ?_
     obtain ⟨l, hl_, hR1⟩ := bs_ hR1
     refine nn 4 rfl (op_appR hf H Tryz.underlying47 TF.ai3 rfl (by decide) 1 0 rfl rfl rfl rfl (.inr rfl) hl_ (by decide) fun E2 A16 c15 a w hf H => ?_)
     have hS := H.lt_ [true, false, false] [false, false] [false, false, false, false, false, false] []
     refine aS hS ?_
     refine nn 5 rfl (op_storeB hf H 1 TF.sz37 rfl rfl rfl rfl rfl rfl (nle rfl) fun w H => ?_)
     refine ⟨fun h => absurd h (by decide), ?_⟩
     refine tp 6 rfl rfl hf (by kernel_rfl) (fun h => absurd h (by decide)) rfl fun a hf => ?_
     refine dk ?_
     have hf := hf.pn [1, 6, 9, 10, 25, 26]
     refine blk_n (then_n (reg (pz 2 hf fun a hf => ?_)))
     refine wl_end ?_
     have hf := hf.pn [1, 6, 9, 10, 25, 26]
     have H := H.frontD 1 rfl
     have H := H.frontD 2 rfl
     have H := H.lt_ [false, true, true] [false, true] [true, true, true, false, false, false] [0, 1, 2]
     exact then_n ⟨(l, w64 (i + 1), y4.1.Network.Nodes, y4.1.Network.Fibers, y4.1.Lights), hR1, A16, c15, E2, A12, c12, F9, A13, c13, F10, A14, c14, F11, hf, H⟩
   ·refine wp_exit (then_x (then_x (blk_e (?_))))
    have hf := hf.pn [1, 6, 9, 10, 25, 26]
    have H := H.lt_ [true, true] [true] [true, true, true] [0, 1, 2]
    exact ⟨(ids, i, m, m2, m3), (Option.some.inj hR1).symm, A8, c8, E, A9, c9, F5, A10, c10, F6, A11, c11, F7, hf, H⟩
  rintro a w ⟨⟨ids2, i2, m4, m5, m6⟩, rfl, A17, c16, E3, A18, c17, F12, A19, c18, F13, A20, c19, F14, hf, H⟩
  try dsimp only at hF
  refine then_n (sq (reg (lN 0 hf H TF.la37 fun a hf => ?_)))
  refine pz 1 hf fun a hf => ?_
  refine sB 1 hf H TF.sz37 fun w H => ?_
  refine pz 2 hf fun a hf => ?_
  refine wer ?_
  have H := H.rowOwn 0 rfl rfl
  obtain ⟨F15, H⟩ := H.freezeOwn 0 rfl
  have H := H.lend 0 rfl
  have H := H.frontD 1 rfl
  have H := H.frontD 2 rfl
  have H := H.frontD 3 rfl
  obtain rfl := oi hF
  refine ret_3 hf rfl (rv_cellN hf H 1 TF.la37 rfl rfl rfl) (rv_tmp hf rfl) (rv_tmp hf rfl) ?_
  have hN := H.ends (X := [(⟨F12, MP.own F12 [(.slice A18 m4.length c17)] (m4 : List ByteArray)⟩ : DI), (⟨F13, MP.own F13 [(.slice A19 m5.length c18)] (m5 : List Fiber)⟩ : DI), (⟨F14, MP.own F14 [(.slice A20 m6.length c19)] (m6 : List Light)⟩ : DI), (⟨F15, MP.own F15 [(.slice A17 ids2.length c16)] (ids2 : List Int)⟩ : DI)])
  simp only [List.flatMap_cons, List.flatMap_nil, List.append_nil, List.append_assoc] at hN
  exact ⟨_, rfl, H.bel, (F12 ++ (F13 ++ F14)), F15, _, _, _, rfl, ⟨_, Plan_ownmk (x := ({ Network := ({ Nodes := m4, Fibers := m5 } : Network), Lights := m6 } : Plan)) (H.ownAt 0 rfl) (H.ownAt 1 rfl) (H.ownAt 2 rfl), rfl⟩, (mko_list (H.ownAt 3 rfl)), mk_bool, by first | exact hN | simpa using hN⟩
theorem spec_l9Without_ok {S : Nat → Prop} {v0_ : Value} {v1_ : Value} {p : Plan} {i : Int} {r : Plan} (h0 : VR w0 S v0_ p) (h1 : VR w0 S v1_ i) (hF : spec_l9Without fu p i = some r) :
    Calls Tryz.prog 216 [v0_, v1_].toArray w0 fun e w' => ∃ v, e = .returned v ∧ (Below w0.heap.size w0 w' ∧ VR w' (St ⟨w0, []⟩ S [] [] [] true) v r) := by
 obtain ⟨A, c, A2, c2, A3, c3, rfl, hl, hl2, hl3⟩ := Plan_open h0
 obtain rfl := VR_int h1
 have H := Mem.start ⟨w0, []⟩ S
 have H := H.pA hl
 have H := H.pA hl2
 have H := H.pA hl3
 refine en Tryz.func216 fun a hf => ?_
 rw [spec_l9Without] at hF
 refine bx hf H fun b' a w hf H => ?_
 refine aL hf H TF.zv37 fun b2 a w hf H => ?_
 refine wr (lN 1 hf H TF.la37 fun a hf => ?_)
 obtain ⟨y, hy, hF⟩ := bs_ hF
 refine oc hf TF.cl57 (spec_l9Own_ok (S := TT) (Plan_mkv (x := p) (H.rt 2 rfl) (H.rt 1 rfl) (H.rt 0 rfl)) hy) fun v w a hp hf => ?_
 obtain ⟨hb, F, hp2, hN⟩ := hp
 obtain ⟨A4, c4, F2, A5, c5, F3, A6, c6, F4, rfl, rfl, hl4, hl5, hl6⟩ := Plan_vo hp2
 have H := H.aO3 hb (by first | exact hN | simpa using hN) hl4 hl5 hl6
 have H := H.lend 0 rfl
 have H := H.lend 1 rfl
 have H := H.lend 2 rfl
 refine aL hf H TF.zv37 fun b3 a w hf H => ?_
 refine sB 0 hf H TF.sz37 fun w H => ?_
 refine wl_end (then_n (sq (dw [13] 14 fun w hb => ?_)))
 have H := H.keep hb
 refine zp 1 hf trivial fun a hf => ?_
 refine strT (H.lt_ [true, false, false] [] [false, false, false] []) (fun w H => trivial) fun hS => ?_
 refine zS 2 [2, 4, 5, 11, 12, 13] rfl rfl rfl rfl hf hS (fun w H => rq_loadB hf H TF.ls35 0 rfl rfl rfl) fun a hf => ?_
 refine zp 3 hf hS fun a hf => ?_
 obtain ⟨l, hl_, hF⟩ := bs_ hF
 obtain ⟨A7, c7, hx, H⟩ := pre_slice H Tryz.underlying35 TF.sz73 0 (lov := none) (hiv := some (.int .i64 i)) (.inl ⟨rfl, rfl⟩) (.inr rfl) rfl hl_
 refine zP 4 rfl rfl rfl rfl hf hS (fun w => rq_sliceE hf rfl rfl rfl hx w) fun a hf => ?_
 refine zp 6 hf hS fun a hf => ?_
 refine zS 7 [7, 10, 11, 12, 13] rfl rfl rfl rfl hf hS (fun w H => rq_loadB hf H TF.ls35 0 rfl rfl rfl) fun a hf => ?_
 refine zp 8 hf hS fun a hf => ?_
 refine zp 9 hf hS fun a hf => ?_
 obtain ⟨l2, hl2_, hF⟩ := bs_ hF
 obtain ⟨A8, c8, hx2, H⟩ := pre_slice H Tryz.underlying35 TF.sz73 1 (lov := some (.int .i64 (w64 (i + 1)))) (hiv := none) (.inr rfl) (.inl ⟨rfl, rfl⟩) rfl hl2_
 refine zP 10 rfl rfl rfl rfl hf hS (fun w => rq_sliceE hf rfl rfl rfl hx2 w) fun a hf => ?_
 refine nn 0 rfl (bl hf H 73 ([] : List Light) [] el0 fun A9 a w hf H => ?_)
 have hS := H.lt_ [true, false, false] [false] [false, false, false] []
 refine aS hS ?_
 obtain ⟨l3, hl3_, hF⟩ := bs_ hF
 refine nn 5 rfl (op_appI hf H Tryz.underlying35 TF.ai73 rfl (by decide) 0 1 rfl rfl rfl rfl (.inr rfl) hl3_ (by decide) fun E A10 c9 a w hf H => ?_)
 have hS := H.lt_ [true, false, false] [false] [false, false, false] []
 refine aS hS ?_
 obtain ⟨l4, hl4_, hF⟩ := bs_ hF
 refine nn 11 rfl (op_appI hf H Tryz.underlying35 TF.ai73 rfl (by decide) 0 0 rfl rfl rfl rfl (.inr rfl) hl4_ (by decide) fun E2 A11 c10 a w hf H => ?_)
 have hS := H.lt_ [true, false, false] [false] [false, false, false] []
 refine aS hS ?_
 refine zp 12 hf hS fun a hf => ?_
 refine nn 13 rfl (op_storeB hf H 0 TF.sz35 rfl rfl rfl rfl rfl rfl (nle rfl) fun w H => ?_)
 refine ⟨fun h => absurd h (by decide), ?_⟩
 refine dk ?_
 have hf := hf.pn [4, 5]
 refine then_n (sq (reg (lN 0 hf H TF.la37 fun a hf => ?_)))
 refine sB 1 hf H TF.sz37 fun w H => ?_
 refine wer ?_
 have H := H.freeze 0 rfl
 obtain rfl := oi hF
 refine ret_1 hf rfl (rv_cellN hf H 1 TF.la37 rfl rfl rfl) ?_
 exact ⟨_, rfl, H.bel, (Plan_mkv (x := ({ Network := y.Network, Lights := l4 } : Plan)) (rep_end (α := List ByteArray) (H.get 5 rfl)) (rep_end (α := List Fiber) (H.get 4 rfl)) (rep_end (α := List Light) (H.get 0 rfl)))⟩
end AT
