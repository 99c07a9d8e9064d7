/- The Go functions do what is told of them, by program (gen.py). -/
import Derived.Test.YtmokfdffnijbbaaWC1
set_option linter.unusedVariables false
set_option linter.unusedSimpArgs false
set_option maxRecDepth 100000
set_option maxHeartbeats 1000000
namespace AT
open Go Go.RowKit Go.Proofs
variable {fu : Nat} {w0 : World}
theorem spec_l1Cur_linked_ok {S : Nat → Prop} {b0 : Nat} {cs0 : List Value} {c : L1CurP} {r : Network × L1CurP} (hp0 : w0.heap[b0]? = some (.cells cs0.toArray 57 (0, 0))) (hr0 : GoTy.rep w0 S cs0 c) (hS0 : ¬ S b0) (hF : spec_l1Cur_linked fu c = some r) :
    Calls Try.prog 53 [(.pointer (some ⟨b0, 0, none⟩))].toArray w0 fun e w' => ∃ v, e = .returned v ∧ (Chg w0 w' [b0] ∧ ∃ cs', w'.heap[b0]? = some (.cells cs'.toArray 57 (0, 0)) ∧ GoTy.rep w' (St ⟨w0, [b0]⟩ S [⟨b0, 57, cs'⟩] [] [] false) cs' r.2 ∧ (cs'[0]? = cs0[0]? ∧ r.2.code = c.code) ∧ ∃ F0, VO w' F0 v r.1 ∧ New w0 w' F0) := by
 obtain ⟨A, c2, rfl, hl⟩ := L1CurP_cells hr0
 have H := Mem.startB S hp0
 have H := H.pB hS0 hl
 refine en Try.func53 fun a hf => ?_
 rw [spec_l1Cur_linked] at hF
 refine sq (reg (aL hf H TF.zv27 fun b2 a w hf H => ?_))
 refine wr (pz 1 hf fun a hf => ?_)
 obtain ⟨y, hy, hF⟩ := bs_ hF
 refine oc hf TF.cl75 (spec_l1Cur_network_ok (S := NB b0) (H.boxAt 1 rfl) ((L1CurP_mk (x := c) (H.nb 1 rfl (H.get 0 rfl)))) (fun h => h rfl) hy) fun v w a hp2 hf => ?_
 obtain ⟨hch, cs2, hbx, hr2, ⟨hx, hx2⟩, hs⟩ := hp2
 obtain ⟨F, hp3, hN⟩ := hs
 obtain ⟨A2, c3, F2, A3, c4, F3, rfl, rfl, hl2, hl3⟩ := Network_vo hp3
 obtain ⟨A4, c5, rfl, hl4⟩ := L1CurP_cells hr2
 obtain ⟨rfl, rfl⟩ := fx_slice hx rfl rfl
 have H := H.bO2 1 rfl hch hbx hN hl2 hl3
 have H := H.pX 0 rfl hx2
 have H := H.lend 0 rfl
 have H := H.lend 1 rfl
 refine aL hf H TF.zv27 fun b3 a w hf H => ?_
 refine sB 0 hf H TF.sz27 fun w H => ?_
 refine we (sqz (pz 1 hf fun a hf => ?_))
 refine lB 0 hf H TF.ls25 fun a hf => ?_
 refine pz 2 hf fun a hf => ?_
 refine wl_end (then_n (ib hF hf (fun hc hF => ?_) fun hc hF => ?_))
 ·refine reg (pz 1 hf fun a hf => ?_)
  refine lB 0 hf H TF.ls25 fun a hf => ?_
  refine oq hf (rq_build hf (cs := [(.int .i64 0), (.int .i64 1), (.int .i64 100), (.int .i64 0)]) rfl (fun w => by kernel_rfl)) fun a hf => ?_
  refine wl0 rfl (bl hf H 79 ([({ A := 0, B := 1, Length := 100, Risk := 0 } : Fiber)] : List Fiber) [(.int .i64 0), (.int .i64 1), (.int .i64 100), (.int .i64 0)] (el1 (y := ({ A := 0, B := 1, Length := 100, Risk := 0 } : Fiber)) ((Fiber_mk (x := ({ A := 0, B := 1, Length := 100, Risk := 0 } : Fiber))))) fun A5 a w hf H => ?_)
  have H := H.frontD 1 rfl
  obtain ⟨Fs, E, H, -⟩ := H.thaw rfl
  have H := H.rowSh 0 rfl
  have H := H.pB hS0 hl
  have H := H.argB (by simpa using hS0) (p := MP.val [(.slice A y.2.code.length c2)] (y.2.code : List By)) (by rw [hx2]; exact hl)
  have H := H.lend 0 rfl
  obtain ⟨l, hl_, hF⟩ := bs_ hF
  refine wl0 rfl (op_appR hf H Try.underlying25 TF.ai79 rfl (by decide) 0 1 rfl rfl rfl rfl (.inr rfl) hl_ (by decide) fun E2 A6 c6 a w hf H => ?_)
  refine pz 1 hf fun a hf => ?_
  refine sB 0 hf H TF.sz25 fun w H => ?_
  have hf := hf.pn [2, 3]
  refine wr (lN 0 hf H TF.la27 fun a hf => ?_)
  refine sB 1 hf H TF.sz27 fun w H => ?_
  refine wer ?_
  have H := H.rowOwn 0 rfl rfl
  obtain ⟨F4, H⟩ := H.freezeOwn 0 rfl
  have H := H.lend 0 rfl
  have H := H.frontD 1 rfl
  obtain rfl := oi hF
  refine ret_1 hf rfl (rv_cellN hf H 1 TF.la27 rfl rfl rfl) ?_
  have hN := H.endsB2 2 rfl
  exact ⟨_, rfl, H.chg, _, H.boxAt 2 rfl, (L1CurP_mk (x := y.2) (eB 2 (H.get 2 rfl))), ⟨fxc hx2, hx2⟩, (F2 ++ F4), ⟨_, Network_ownmk (x := ({ Nodes := y.1.Nodes, Fibers := l } : Network)) (H.ownAt 0 rfl) (H.ownAt 1 rfl), rfl⟩, by first | exact hN | simpa using hN⟩
 ·refine wp_skip (then_n (sq (reg (lN 0 hf H TF.la27 fun a hf => ?_))))
  refine sB 1 hf H TF.sz27 fun w H => ?_
  refine wer ?_
  have H := H.frontD 1 rfl
  have H := H.frontD 1 rfl
  obtain rfl := oi hF
  refine ret_1 hf rfl (rv_cellN hf H 1 TF.la27 rfl rfl rfl) ?_
  have hN := H.endsB2 2 rfl
  exact ⟨_, rfl, H.chg, _, H.boxAt 2 rfl, (L1CurP_mk (x := y.2) (eB 2 (H.get 2 rfl))), ⟨fxc hx2, hx2⟩, (F2 ++ F3), ⟨_, Network_ownmk (x := y.1) (H.ownAt 0 rfl) (H.ownAt 1 rfl), rfl⟩, by first | exact hN | simpa using hN⟩
theorem spec_l1Cur_routed_ok {S : Nat → Prop} {b0 : Nat} {cs0 : List Value} {v1_ : Value} {c : L1CurP} {n' : Network} {r : Route × L1CurP} (hp0 : w0.heap[b0]? = some (.cells cs0.toArray 57 (0, 0))) (hr0 : GoTy.rep w0 S cs0 c) (hS0 : ¬ S b0) (h1 : VR w0 S v1_ n') (hF : spec_l1Cur_routed fu c n' = some r) :
    Calls Try.prog 55 [(.pointer (some ⟨b0, 0, none⟩)), v1_].toArray w0 fun e w' => ∃ v, e = .returned v ∧ (Chg w0 w' [b0] ∧ ∃ cs', w'.heap[b0]? = some (.cells cs'.toArray 57 (0, 0)) ∧ GoTy.rep w' (St ⟨w0, [b0]⟩ S [⟨b0, 57, cs'⟩] [] [] false) cs' r.2 ∧ (cs'[0]? = cs0[0]? ∧ r.2.code = c.code) ∧ ∃ F0, VO w' F0 v r.1 ∧ New w0 w' F0) := by
 obtain ⟨A, c2, rfl, hl⟩ := L1CurP_cells hr0
 obtain ⟨A2, c3, A3, c4, rfl, hl2, hl3⟩ := Network_open h1
 have H := Mem.startB S hp0
 have H := H.pB hS0 hl
 have H := H.pB hS0 hl2
 have H := H.pB hS0 hl3
 refine en Try.func55 fun a hf => ?_
 rw [spec_l1Cur_routed] at hF
 refine bx hf H fun b3 a w hf H => ?_
 refine aL hf H TF.zv40 fun b4 a w hf H => ?_
 refine wr (pz 1 hf fun a hf => ?_)
 refine lN 1 hf H TF.la27 fun a hf => ?_
 obtain ⟨y, hy, hF⟩ := bs_ hF
 refine oc hf TF.cl77 (spec_l1Cur_route_ok (S := NB b0) (H.boxAt 2 rfl) ((L1CurP_mk (x := c) (H.nb 2 rfl (H.get 2 rfl)))) (fun h => h rfl) (Network_mkv (x := n') (H.nb 2 rfl (H.get 1 rfl)) (H.nb 2 rfl (H.get 0 rfl))) hy) fun v w a hp3 hf => ?_
 obtain ⟨hch, cs3, hbx, hr3, ⟨hx, hx2⟩, hs⟩ := hp3
 obtain ⟨F, hp4, hN⟩ := hs
 obtain ⟨A4, c5, F2, rfl, rfl, hl4⟩ := Route_vo hp4
 obtain ⟨A5, c6, rfl, hl5⟩ := L1CurP_cells hr3
 obtain ⟨rfl, rfl⟩ := fx_slice hx rfl rfl
 have H := H.bO1 2 rfl hch hbx hN hl4
 have H := H.pX 2 rfl hx2
 have H := H.lend 0 rfl
 refine aL hf H TF.zv40 fun b5 a w hf H => ?_
 refine sB 0 hf H TF.sz40 fun w H => ?_
 refine we (sqz (pz 1 hf fun a hf => ?_))
 refine lB 0 hf H TF.ls31 fun a hf => ?_
 refine pz 2 hf fun a hf => ?_
 refine wl_end (then_n (ib hF hf (fun hc hF => ?_) fun hc hF => ?_))
 ·refine sqz (pz 1 hf fun a hf => ?_)
  refine lB 2 hf H TF.ls25 fun a hf => ?_
  obtain ⟨e, he, hF⟩ := bs_ hF
  refine wl0 rfl (op_iaddr hf H Try.underlying25 TF.sz79 2 rfl rfl rfl he (by decide) fun p o3 cs4 a hf hr4 H => ?_)
  obtain rfl := Fiber_cells hr4
  refine pz 1 hf fun a hf => ?_
  refine oq hf (rq_loadI hf H TF.ls3 0 0 rfl rfl rfl) fun a hf => ?_
  refine wl0 rfl (bl hf H 3 ([0] : List Int) [(.int .i64 0)] (el1 (y := 0) (rfl)) fun A6 a w hf H => ?_)
  refine oq hf (rq_build hf (cs := [(.int .i64 e.A), (.slice A6 1 1)]) rfl (fun w => by kernel_rfl)) fun a hf => ?_
  refine sB 1 hf H TF.sz40 fun w H => ?_
  have hf := hf.pn [4]
  refine wl_end (then_n (wp_ret (then_r (?_))))
  have H := H.rowOwn 0 rfl rfl
  obtain ⟨F3, H⟩ := H.freezeOwn 0 rfl
  have H := H.lend 0 rfl
  obtain rfl := oi hF
  refine ret_1 hf rfl (rv_cellN hf H 1 TF.la40 rfl rfl rfl) ?_
  have hN := H.endsB1 3 rfl
  exact ⟨_, rfl, H.chg, _, H.boxAt 3 rfl, (L1CurP_mk (x := y.2) (eB 3 (H.get 3 rfl))), ⟨fxc hx2, hx2⟩, F3, ⟨_, Route_ownmk (x := ({ Start := e.A, Fibers := [0] } : Route)) (H.ownAt 0 rfl), rfl⟩, by first | exact hN | simpa using hN⟩
 ·refine wp_skip (then_n (sq (reg (lN 0 hf H TF.la40 fun a hf => ?_))))
  refine sB 1 hf H TF.sz40 fun w H => ?_
  refine wer ?_
  obtain rfl := oi hF
  refine ret_1 hf rfl (rv_cellN hf H 1 TF.la40 rfl rfl rfl) ?_
  have hN := H.endsB1 3 rfl
  exact ⟨_, rfl, H.chg, _, H.boxAt 3 rfl, (L1CurP_mk (x := y.2) (eB 3 (H.get 1 rfl))), ⟨fxc hx2, hx2⟩, F2, ⟨_, Route_ownmk (x := y.1) (H.ownAt 0 rfl), rfl⟩, by first | exact hN | simpa using hN⟩
theorem spec_l1Cur_requests_ok {S : Nat → Prop} {b0 : Nat} {cs0 : List Value} {c : L1CurP} {r : Network × List Request × L1CurP} (hp0 : w0.heap[b0]? = some (.cells cs0.toArray 57 (0, 0))) (hr0 : GoTy.rep w0 S cs0 c) (hS0 : ¬ S b0) (hF : spec_l1Cur_requests fu c = some r) :
    Calls Try.prog 22 [(.pointer (some ⟨b0, 0, none⟩))].toArray w0 fun e w' => ∃ v, e = .returned v ∧ (Chg w0 w' [b0] ∧ ∃ cs', w'.heap[b0]? = some (.cells cs'.toArray 57 (0, 0)) ∧ GoTy.rep w' (St ⟨w0, [b0]⟩ S [⟨b0, 57, cs'⟩] [] [] false) cs' r.2.2 ∧ (cs'[0]? = cs0[0]? ∧ r.2.2.code = c.code) ∧ ∃ u0 u1, v = .tuple #[u0, u1] ∧ VR w' (St ⟨w0, [b0]⟩ S [⟨b0, 57, cs'⟩] [] [] true) u0 r.1 ∧ VR w' (St ⟨w0, [b0]⟩ S [⟨b0, 57, cs'⟩] [] [] true) u1 r.2.1) := by
 obtain ⟨A, c2, rfl, hl⟩ := L1CurP_cells hr0
 have H := Mem.startB S hp0
 have H := H.pB hS0 hl
 refine en Try.func22 fun a hf => ?_
 rw [spec_l1Cur_requests] at hF
 refine sq (reg (aL hf H TF.zv27 fun b2 a w hf H => ?_))
 refine pz 1 hf fun a hf => ?_
 refine wr (pz 1 hf fun a hf => ?_)
 obtain ⟨y, hy, hF⟩ := bs_ hF
 refine oc hf TF.cl53 (spec_l1Cur_linked_ok (S := NB b0) (H.boxAt 1 rfl) ((L1CurP_mk (x := c) (H.nb 1 rfl (H.get 0 rfl)))) (fun h => h rfl) hy) fun v w a hp2 hf => ?_
 obtain ⟨hch, cs2, hbx, hr2, ⟨hx, hx2⟩, hs⟩ := hp2
 obtain ⟨F, hp3, hN⟩ := hs
 obtain ⟨A2, c3, F2, A3, c4, F3, rfl, rfl, hl2, hl3⟩ := Network_vo hp3
 obtain ⟨A4, c5, rfl, hl4⟩ := L1CurP_cells hr2
 obtain ⟨rfl, rfl⟩ := fx_slice hx rfl rfl
 have H := H.bO2 1 rfl hch hbx hN hl2 hl3
 have H := H.pX 0 rfl hx2
 have H := H.lend 0 rfl
 have H := H.lend 1 rfl
 refine aL hf H TF.zv27 fun b3 a w hf H => ?_
 refine sB 0 hf H TF.sz27 fun w H => ?_
 refine wr (wl0 rfl (bl hf H 89 ([] : List Request) [] el0 fun A5 a w hf H => ?_))
 refine pz 1 hf fun a hf => ?_
 refine we (sqz (pz 1 hf fun a hf => ?_))
 obtain ⟨y2, hy2, hF⟩ := bs_ hF
 refine oc hf TF.cl54 (spec_l1Cur_pick_ok (S := NB b0) (H.boxAt 2 rfl) ((L1CurP_mk (x := y.2) (H.nb 2 rfl (H.get 2 rfl)))) (fun h => h rfl) mk_int hy2) fun v2 w a hp4 hf => ?_
 obtain ⟨hch2, cs3, hbx2, hr3, ⟨hx3, hx4⟩, hs2⟩ := hp4
 obtain rfl := VR_int hs2
 obtain ⟨A6, c6, rfl, hl5⟩ := L1CurP_cells hr3
 obtain ⟨rfl, rfl⟩ := fx_slice hx3 rfl rfl
 have hx5 := hx4.trans hx2
 have H := H.wroteBox 2 rfl hch2 hbx2
 have H := H.pX 2 rfl hx4
 refine pz 1 hf fun a hf => ?_
 refine wl_end (then_n ?_)
 obtain ⟨out', hB1, hF⟩ := bs_ hF
 have hf := hf.pn [0, 2, 4, 5, 6]
 have H := H.lt_ [true, true, true] [true] [true, true] [0, 1, 2]
 refine loopC (fun (s : List Request × Int × List By × Int × U64) (a : Act) (w : World) => match s with | (l, k', m, m2, m3) => ∃ (A7 : Option Addr) (c7 : Nat) (E : Go.TypeId), m = c.code ∧ Fr a 73 [(0, (.pointer (some ⟨b0, 0, none⟩))), (2, (.pointer (some ⟨b2, 0, none⟩))), (4, (.pointer (some ⟨b3, 0, none⟩))), (5, (.slice A7 l.length c7)), (6, (.int .i64 k'))] ∧ Mem ⟨w0, [b0]⟩ S [⟨b3, 27, [(.slice A2 y.1.Nodes.length c3), (.slice A3 y.1.Fibers.length c4)]⟩, ⟨b2, 27, [(.slice none 0 0), (.slice none 0 0)]⟩, ⟨b0, 57, [(.slice A m.length c2), (.int .i64 m2), (.int .u64 m3.n)]⟩] [⟨.sh true, E, A7, c7, (l : List Request)⟩] [⟨F2, MP.own F2 [(.slice A2 y.1.Nodes.length c3)] (y.1.Nodes : List ByteArray)⟩, ⟨F3, MP.own F3 [(.slice A3 y.1.Fibers.length c4)] (y.1.Fibers : List Fiber)⟩] [(false, MP.val [(.slice A m.length c2)] (m : List By)), (true, MP.val [(.slice A3 y.1.Fibers.length c4)] (y.1.Fibers : List Fiber)), (true, MP.val [(.slice A2 y.1.Nodes.length c3)] (y.1.Nodes : List ByteArray))] w) (fun k (s : List Request × Int × List By × Int × U64) => spec_l1Cur_requests_L1 fu y k s.1 s.2.1 s.2.2.1 s.2.2.2.1 s.2.2.2.2 = some out') (fun s => out' = s) (([] : List Request), y2.1, y2.2.code, y2.2.at_, y2.2.seed) fu hB1 ⟨A5, 0, 89, hx5, hf, H⟩ (fun s h => by cases h) ?_ ?_
 ·rintro fk ⟨l, k', m, m2, m3⟩ a w hR1 hI
  replace hR1 : spec_l1Cur_requests_L1 fu y (fk + 1) l k' m m2 m3 = some out' := hR1
  rw [spec_l1Cur_requests_L1] at hR1
  obtain ⟨A7, c7, E, hsm, hf, H⟩ := hI
  refine sq (sqz (pz 2 hf fun a hf => ?_))
  refine wl_end (then_n (ib hR1 hf (fun hc hR1 => ?_) fun hc hR1 => ?_))
  ·refine wp_skip (then_n (sq (wp_block (reg (pz 2 hf fun a hf => ?_)))))
   refine lN 0 hf H TF.la27 fun a hf => ?_
   obtain ⟨y3, hy3, hR1⟩ := bs_ hR1
   refine oc hf TF.cl55 (spec_l1Cur_routed_ok (S := NB b0) (H.boxAt 2 rfl) ((L1CurP_mk (x := ({ code := m, at_ := m2, seed := m3 } : L1CurP)) (H.nb 2 rfl (H.get 0 rfl)))) (fun h => h rfl) (Network_mkv (x := y.1) (H.nb 2 rfl (H.get 2 rfl)) (H.nb 2 rfl (H.get 1 rfl))) hy3) fun v3 w a hp5 hf => ?_
   obtain ⟨hch3, cs4, hbx3, hr4, ⟨hx6, hx7⟩, hs3⟩ := hp5
   obtain ⟨F4, hp6, hN2⟩ := hs3
   obtain ⟨A8, c8, F5, rfl, rfl, hl6⟩ := Route_vo hp6
   obtain ⟨A9, c9, rfl, hl7⟩ := L1CurP_cells hr4
   obtain ⟨rfl, rfl⟩ := fx_slice hx6 rfl rfl
   have hx8 := hx7.trans hsm
   have H := H.bO1 2 rfl hch3 hbx3 hN2 hl6
   have H := H.pX 0 rfl hx7
   have H := H.lend 0 rfl
   refine pz 1 hf fun a hf => ?_
   obtain ⟨y4, hy4, hR1⟩ := bs_ hR1
   refine oc hf TF.cl54 (spec_l1Cur_pick_ok (S := NB b0) (H.boxAt 2 rfl) ((L1CurP_mk (x := y3.2) (H.nb 2 rfl (H.get 1 rfl)))) (fun h => h rfl) mk_int hy4) fun v4 w a hp7 hf => ?_
   obtain ⟨hch4, cs5, hbx4, hr5, ⟨hx9, hx10⟩, hs4⟩ := hp7
   obtain rfl := VR_int hs4
   obtain ⟨A10, c10, rfl, hl8⟩ := L1CurP_cells hr5
   obtain ⟨rfl, rfl⟩ := fx_slice hx9 rfl rfl
   have hx11 := hx10.trans hx8
   have H := H.wroteBox 2 rfl hch4 hbx4
   have H := H.pX 1 rfl hx10
   refine pz 1 hf fun a hf => ?_
   refine oq hf (rq_build hf (cs := [(.int .i64 y3.1.Start), (.slice A8 y3.1.Fibers.length c8), (.int .i64 (w64 (1 + y4.1)))]) rfl (fun w => by kernel_rfl)) fun a hf => ?_
   refine wl0 rfl (bl hf H 89 ([({ Route := y3.1, Count := w64 (1 + y4.1) } : Request)] : List Request) [(.int .i64 y3.1.Start), (.slice A8 y3.1.Fibers.length c8), (.int .i64 (w64 (1 + y4.1)))] (el1 (y := ({ Route := y3.1, Count := w64 (1 + y4.1) } : Request)) ((Request_mk (x := ({ Route := y3.1, Count := w64 (1 + y4.1) } : Request)) (H.get 1 rfl)))) fun A11 a w hf H => ?_)
   obtain ⟨l2, hl2_, hR1⟩ := bs_ hR1
   refine wl0 rfl (op_appR hf H Try.underlying28 TF.ai89 rfl (by decide) 1 0 rfl rfl rfl rfl (.inr rfl) hl2_ (by decide) fun E2 A12 c11 a w hf H => ?_)
   refine pz 1 hf fun a hf => ?_
   refine wl_end (blk_n (then_n (reg (pz 3 hf fun a hf => ?_))))
   have hf := hf.pn [0, 2, 4, 5, 6]
   refine wl_end ?_
   have hf := hf.pn [0, 2, 4, 5, 6]
   have H := H.lt_ [true, true, true] [false, true] [false, true, true] [0, 4, 5]
   exact then_n ⟨(l2, w64 (k' - 1), y4.2.code, y4.2.at_, y4.2.seed), hR1, A12, c11, E2, hx11, hf, H⟩
  ·refine wp_exit (then_x (then_x (blk_e (?_))))
   have hf := hf.pn [0, 2, 4, 5, 6]
   have H := H.lt_ [true, true, true] [true] [true, true] [0, 1, 2]
   exact ⟨(l, k', m, m2, m3), (Option.some.inj hR1).symm, A7, c7, E, hsm, hf, H⟩
 rintro a w ⟨⟨l3, k2, m4, m5, m6⟩, rfl, A13, c12, E3, hsm, hf, H⟩
 try dsimp only at hsm
 try dsimp only at hF
 refine then_n (sq (sqz (pz 4 hf fun a hf => ?_)))
 refine iteB hF (fun hc2 hF => ?_) fun hc2 hF => ?_
 ·have hf := hf.lit 31 rfl hc2
  refine pz 1 hf fun a hf => ?_
  obtain ⟨y5, hy5, hF⟩ := bs_ hF
  refine wlg hf rfl rfl rfl (oC hf TF.cl56 (spec_l1Cur_one_ok (S := NB b0) (H.boxAt 2 rfl) ((L1CurP_mk (x := ({ code := m4, at_ := m5, seed := m6 } : L1CurP)) (H.nb 2 rfl (H.get 0 rfl)))) (fun h => h rfl) mk_int hy5) fun v5 w a hp8 hf => ?_)
  obtain ⟨hch5, cs6, hbx5, hr6, ⟨hx12, hx13⟩, hs5⟩ := hp8
  obtain rfl := VR_bool hs5
  obtain ⟨A14, c13, rfl, hl9⟩ := L1CurP_cells hr6
  obtain ⟨rfl, rfl⟩ := fx_slice hx12 rfl rfl
  have hx14 := hx13.trans hsm
  have H := H.wroteBox 2 rfl hch5 hbx5
  have H := H.pX 0 rfl hx13
  refine pz 1 hf fun a hf => ?_
  refine wl_end (then_n (ib hF hf (fun hc3 hF => ?_) fun hc3 hF => ?_))
  ·refine sqz (pz 3 hf fun a hf => ?_)
   obtain ⟨y6, hy6, hF⟩ := bs_ hF
   refine oc hf TF.cl54 (spec_l1Cur_pick_ok (S := NB b0) (H.boxAt 2 rfl) ((L1CurP_mk (x := y5.2) (H.nb 2 rfl (H.get 0 rfl)))) (fun h => h rfl) mk_int hy6) fun v6 w a hp9 hf => ?_
   obtain ⟨hch6, cs7, hbx6, hr7, ⟨hx15, hx16⟩, hs6⟩ := hp9
   obtain rfl := VR_int hs6
   obtain ⟨A15, c14, rfl, hl10⟩ := L1CurP_cells hr7
   obtain ⟨rfl, rfl⟩ := fx_slice hx15 rfl rfl
   have hx17 := hx16.trans hx14
   have H := H.wroteBox 2 rfl hch6 hbx6
   have H := H.pX 0 rfl hx16
   refine pz 1 hf fun a hf => ?_
   refine wr (pz 2 hf fun a hf => ?_)
   obtain ⟨e, he, hF⟩ := bs_ hF
   refine wl0 rfl (op_iaddrR hf H Try.underlying28 TF.sz89 0 rfl rfl rfl he (by decide) fun p o2 cs8 a hf hA hr8 hk => ?_)
   obtain ⟨A16, c15, rfl, hl11⟩ := Request_cells hr8
   have H := H.pT hl11
   refine oq hf (rq_loadN hf TF.la89 rfl rfl (fun j c hj => hk _ c (by simpa using hj))) fun a hf => ?_
   refine aL hf H TF.zv89 fun b4 a w hf H => ?_
   refine sB 0 hf H TF.sz89 fun w H => ?_
   have hf := hf.pn [0, 2, 4, 5, 7, 8]
   refine we (sqz (pz 1 hf fun a hf => ?_))
   obtain ⟨y7, hy7, hF⟩ := bs_ hF
   refine oc hf TF.cl54 (spec_l1Cur_pick_ok (S := NB b0) (H.boxAt 3 rfl) ((L1CurP_mk (x := y6.2) (H.nb 3 rfl (H.get 1 rfl)))) (fun h => h rfl) mk_int hy7) fun v7 w a hp10 hf => ?_
   obtain ⟨hch7, cs9, hbx7, hr9, ⟨hx18, hx19⟩, hs7⟩ := hp10
   obtain rfl := VR_int hs7
   obtain ⟨A17, c16, rfl, hl12⟩ := L1CurP_cells hr9
   obtain ⟨rfl, rfl⟩ := fx_slice hx18 rfl rfl
   have hx20 := hx19.trans hx17
   have H := H.wroteBox 3 rfl hch7 hbx7
   have H := H.pX 1 rfl hx19
   refine wl_end (then_n (wp_block (sqz (pz 2 hf fun a hf => ?_))))
   refine wl_end (then_n (ib hF hf (fun hc4 hF => ?_) fun hc4 hF => ?_))
   ·refine reg (pz 1 hf fun a hf => ?_)
    refine wl0 rfl (bl hf H 3 ([0, 24, 25] : List Int) [(.int .i64 0), (.int .i64 24), (.int .i64 25)] (elI [0, 24, 25]) fun A18 a w hf H => ?_)
    have H := H.freeze 0 rfl
    obtain ⟨y8, hy8, hF⟩ := bs_ hF
    refine oc hf TF.cl57 (spec_l1Cur_among_ok (S := NB b0) (H.boxAt 3 rfl) ((L1CurP_mk (x := y7.2) (H.nb 3 rfl (H.get 1 rfl)))) (fun h => h rfl) (mk_list (H.nb 3 rfl (H.get 0 rfl))) hy8) fun v8 w a hp11 hf => ?_
    obtain ⟨hch8, cs10, hbx8, hr10, ⟨hx21, hx22⟩, hs8⟩ := hp11
    obtain rfl := VR_int hs8
    obtain ⟨A19, c17, rfl, hl13⟩ := L1CurP_cells hr10
    obtain ⟨rfl, rfl⟩ := fx_slice hx21 rfl rfl
    have hx23 := hx22.trans hx20
    have H := H.wroteBox 3 rfl hch8 hbx8
    have H := H.pX 1 rfl hx22
    refine pz 1 hf fun a hf => ?_
    refine sB 0 hf H TF.sz3 fun w H => ?_
    refine wl_end (blk_n (then_n (reg (pz 2 hf fun a hf => ?_))))
    refine lN 0 hf H TF.la89 fun a hf => ?_
    obtain ⟨e2, he2, hF⟩ := bs_ hF
    refine wl0 rfl (op_iaddrR hf H Try.underlying28 TF.sz89 0 rfl rfl rfl he2 (by decide) fun p2 o3 cs11 a hf hA2 hr11 hk2 => ?_)
    obtain ⟨A20, c18, rfl, hl14⟩ := Request_cells hr11
    have H := H.pT hl14
    refine wl0 rfl (op_storeR (e' := ({ Route := e.Route, Count := y8.1 } : Request)) (o := o3) (off := 0) hf H TF.sz89 0 rfl rfl rfl rfl rfl (nle rfl) rfl hA2 he2 (st_full (Request_mk (x := ({ Route := e.Route, Count := y8.1 } : Request)) (H.get 4 rfl))) fun w H => ?_)
    replace hf : Fr a 73 [(2, (.pointer (some ⟨b2, 0, none⟩))), (4, (.pointer (some ⟨b3, 0, none⟩))), (5, (.slice A13 l3.length c12)), (7, (.int .i64 y6.1)), (8, (.pointer (some ⟨b4, 0, none⟩))), (67, (.slice A13 l3.length c12)), (68, (.int .i64 y6.1)), (69, (.agg #[(.int .i64 e.Route.Start), (.slice A16 e.Route.Fibers.length c15), (.int .i64 y8.1)])), (70, (.pointer (some ⟨p2, o3 + 0, none⟩)))] := hf.prune [2, 4, 5, 7, 8, 67, 68, 69, 70] rfl
    replace hf : Fr a 73 [(2, (.pointer (some ⟨b2, 0, none⟩))), (4, (.pointer (some ⟨b3, 0, none⟩))), (5, (.slice A13 (l3.set (y6.1 : Int).toNat ({ Route := e.Route, Count := y8.1 } : Request)).length c12)), (7, (.int .i64 y6.1)), (8, (.pointer (some ⟨b4, 0, none⟩))), (67, (.slice A13 (l3.set (y6.1 : Int).toNat ({ Route := e.Route, Count := y8.1 } : Request)).length c12)), (68, (.int .i64 y6.1)), (69, (.agg #[(.int .i64 e.Route.Start), (.slice A16 e.Route.Fibers.length c15), (.int .i64 y8.1)])), (70, (.pointer (some ⟨p2, o3 + 0, none⟩)))] := by simpa only [List.length_set, Nat.add_zero] using hf
    refine wr (lN 1 hf H TF.la27 fun a hf => ?_)
    refine pz 1 hf fun a hf => ?_
    refine sB 2 hf H TF.sz27 fun w H => ?_
    refine pz 1 hf fun a hf => ?_
    refine wer ?_
    have H := H.freeze 0 rfl
    obtain rfl := oi hF
    refine ret_2 hf rfl (rv_cellN hf H 2 TF.la27 rfl rfl rfl) (rv_tmp hf rfl) ?_
    exact ⟨_, rfl, H.chg, _, H.boxAt 3 rfl, (L1CurP_mk (x := y8.2) (eB 3 (H.get 2 rfl))), ⟨fxc hx23, hx23⟩, _, _, rfl, (Network_mkv (x := y.1) (eB 3 (H.get 10 rfl)) (eB 3 (H.get 9 rfl))), (mk_list (eB 3 (H.get 0 rfl)))⟩
   ·refine sqz (pz 2 hf fun a hf => ?_)
    refine wl_end (then_n (ib hF hf (fun hc5 hF => ?_) fun hc5 hF => ?_))
    ·refine reg (pz 1 hf fun a hf => ?_)
     refine lN 1 hf H TF.la27 fun a hf => ?_
     obtain ⟨y9, hy9, hF⟩ := bs_ hF
     refine oc hf TF.cl37 (spec_l1Cur_anyRoute_ok (S := NB b0) (H.boxAt 3 rfl) ((L1CurP_mk (x := y7.2) (H.nb 3 rfl (H.get 0 rfl)))) (fun h => h rfl) (Network_mkv (x := y.1) (H.nb 3 rfl (H.get 6 rfl)) (H.nb 3 rfl (H.get 5 rfl))) hy9) fun v9 w a hp12 hf => ?_
     obtain ⟨hch9, cs12, hbx9, hr12, ⟨hx24, hx25⟩, hs9⟩ := hp12
     obtain ⟨F6, hp13, hN3⟩ := hs9
     obtain ⟨A21, c19, F7, rfl, rfl, hl15⟩ := Route_vo hp13
     obtain ⟨A22, c20, rfl, hl16⟩ := L1CurP_cells hr12
     obtain ⟨rfl, rfl⟩ := fx_slice hx24 rfl rfl
     have hx26 := hx25.trans hx20
     have H := H.bO1 3 rfl hch9 hbx9 hN3 hl15
     have H := H.pX 0 rfl hx25
     have H := H.lend 0 rfl
     refine pz 1 hf fun a hf => ?_
     refine sB 0 hf H TF.sz40 fun w H => ?_
     refine wl_end (blk_n (then_n (reg (pz 2 hf fun a hf => ?_))))
     refine lN 0 hf H TF.la89 fun a hf => ?_
     obtain ⟨e3, he3, hF⟩ := bs_ hF
     refine wl0 rfl (op_iaddrR hf H Try.underlying28 TF.sz89 0 rfl rfl rfl he3 (by decide) fun p3 o4 cs13 a hf hA3 hr13 hk3 => ?_)
     obtain ⟨A23, c21, rfl, hl17⟩ := Request_cells hr13
     have H := H.pT hl17
     refine wl0 rfl (op_storeR (e' := ({ Route := y9.1, Count := e.Count } : Request)) (o := o4) (off := 0) hf H TF.sz89 0 rfl rfl rfl rfl rfl (nle rfl) rfl hA3 he3 (st_full (Request_mk (x := ({ Route := y9.1, Count := e.Count } : Request)) (H.get 1 rfl))) fun w H => ?_)
     replace hf : Fr a 73 [(2, (.pointer (some ⟨b2, 0, none⟩))), (4, (.pointer (some ⟨b3, 0, none⟩))), (5, (.slice A13 l3.length c12)), (7, (.int .i64 y6.1)), (8, (.pointer (some ⟨b4, 0, none⟩))), (67, (.slice A13 l3.length c12)), (68, (.int .i64 y6.1)), (69, (.agg #[(.int .i64 y9.1.Start), (.slice A21 y9.1.Fibers.length c19), (.int .i64 e.Count)])), (70, (.pointer (some ⟨p3, o4 + 0, none⟩)))] := hf.prune [2, 4, 5, 7, 8, 67, 68, 69, 70] rfl
     replace hf : Fr a 73 [(2, (.pointer (some ⟨b2, 0, none⟩))), (4, (.pointer (some ⟨b3, 0, none⟩))), (5, (.slice A13 (l3.set (y6.1 : Int).toNat ({ Route := y9.1, Count := e.Count } : Request)).length c12)), (7, (.int .i64 y6.1)), (8, (.pointer (some ⟨b4, 0, none⟩))), (67, (.slice A13 (l3.set (y6.1 : Int).toNat ({ Route := y9.1, Count := e.Count } : Request)).length c12)), (68, (.int .i64 y6.1)), (69, (.agg #[(.int .i64 y9.1.Start), (.slice A21 y9.1.Fibers.length c19), (.int .i64 e.Count)])), (70, (.pointer (some ⟨p3, o4 + 0, none⟩)))] := by simpa only [List.length_set, Nat.add_zero] using hf
     refine wr (lN 1 hf H TF.la27 fun a hf => ?_)
     refine pz 1 hf fun a hf => ?_
     refine sB 2 hf H TF.sz27 fun w H => ?_
     refine pz 1 hf fun a hf => ?_
     refine wer ?_
     have H := H.freeze 0 rfl
     obtain rfl := oi hF
     refine ret_2 hf rfl (rv_cellN hf H 2 TF.la27 rfl rfl rfl) (rv_tmp hf rfl) ?_
     exact ⟨_, rfl, H.chg, _, H.boxAt 3 rfl, (L1CurP_mk (x := y9.2) (eB 3 (H.get 3 rfl))), ⟨fxc hx26, hx26⟩, _, _, rfl, (Network_mkv (x := y.1) (eB 3 (H.get 10 rfl)) (eB 3 (H.get 9 rfl))), (mk_list (eB 3 (H.get 0 rfl)))⟩
    ·obtain ⟨out2, hB1, hF⟩ := bs_ hF
     have hf := hf.pn [0, 2, 4, 5, 7, 8]
     have H := H.lt_ [true, true, true, true] [true] [true, true] [0, 1, 5, 6]
     refine loopC (fun (s : List Request × List By × Int × U64) (a : Act) (w : World) => match s with | (l4, m7, m8, m9) => ∃ (A24 : Option Addr) (c22 : Nat) (E4 : Go.TypeId), m7 = c.code ∧ Fr a 73 [(0, (.pointer (some ⟨b0, 0, none⟩))), (2, (.pointer (some ⟨b2, 0, none⟩))), (4, (.pointer (some ⟨b3, 0, none⟩))), (5, (.slice A24 l4.length c22)), (7, (.int .i64 y6.1)), (8, (.pointer (some ⟨b4, 0, none⟩)))] ∧ Mem ⟨w0, [b0]⟩ S [⟨b4, 89, [(.int .i64 e.Route.Start), (.slice A16 e.Route.Fibers.length c15), (.int .i64 e.Count)]⟩, ⟨b3, 27, [(.slice A2 y.1.Nodes.length c3), (.slice A3 y.1.Fibers.length c4)]⟩, ⟨b2, 27, [(.slice none 0 0), (.slice none 0 0)]⟩, ⟨b0, 57, [(.slice A m7.length c2), (.int .i64 m8), (.int .u64 m9.n)]⟩] [⟨.sh true, E4, A24, c22, (l4 : List Request)⟩] [⟨F2, MP.own F2 [(.slice A2 y.1.Nodes.length c3)] (y.1.Nodes : List ByteArray)⟩, ⟨F3, MP.own F3 [(.slice A3 y.1.Fibers.length c4)] (y.1.Fibers : List Fiber)⟩] [(false, MP.val [(.slice A m7.length c2)] (m7 : List By)), (true, MP.val [(.slice A16 e.Route.Fibers.length c15)] (e.Route.Fibers : List Int)), (true, MP.val [(.slice A3 y.1.Fibers.length c4)] (y.1.Fibers : List Fiber)), (true, MP.val [(.slice A2 y.1.Nodes.length c3)] (y.1.Nodes : List ByteArray))] w) (fun k (s : List Request × List By × Int × U64) => spec_l1Cur_requests_L2 fu e k s.1 s.2.1 s.2.2.1 s.2.2.2 = some out2) (fun s => out2 = s) (l3, y7.2.code, y7.2.at_, y7.2.seed) fu hB1 ⟨A13, c12, E3, hx20, hf, H⟩ (fun s h => by cases h) ?_ ?_
     ·rintro fk ⟨l4, m7, m8, m9⟩ a w hR1 hI
      replace hR1 : spec_l1Cur_requests_L2 fu e (fk + 1) l4 m7 m8 m9 = some out2 := hR1
      rw [spec_l1Cur_requests_L2] at hR1
      obtain ⟨A24, c22, E4, hsm2, hf, H⟩ := hI
      refine sq (sqz (pz 3 hf fun a hf => ?_))
      obtain ⟨y10, hy10, hR1⟩ := bs_ hR1
      refine oc hf TF.cl54 (spec_l1Cur_pick_ok (S := NB b0) (H.boxAt 3 rfl) ((L1CurP_mk (x := ({ code := m7, at_ := m8, seed := m9 } : L1CurP)) (H.nb 3 rfl (H.get 0 rfl)))) (fun h => h rfl) mk_int hy10) fun v10 w a hp14 hf => ?_
      obtain ⟨hch10, cs14, hbx10, hr14, ⟨hx27, hx28⟩, hs10⟩ := hp14
      obtain rfl := VR_int hs10
      obtain ⟨A25, c23, rfl, hl18⟩ := L1CurP_cells hr14
      obtain ⟨rfl, rfl⟩ := fx_slice hx27 rfl rfl
      have hx29 := hx28.trans hsm2
      have H := H.wroteBox 3 rfl hch10 hbx10
      have H := H.pX 0 rfl hx28
      refine pz 2 hf fun a hf => ?_
      refine wl_end (then_n (ib hR1 hf (fun hc6 hR1 => ?_) fun hc6 hR1 => ?_))
      ·refine wp_skip (then_n (wp_block (reg (pz 1 hf fun a hf => ?_))))
       refine lN 0 hf H TF.la89 fun a hf => ?_
       refine wl0 rfl (bl hf H 89 ([e] : List Request) [(.int .i64 e.Route.Start), (.slice A16 e.Route.Fibers.length c15), (.int .i64 e.Count)] (el1 (y := e) ((Request_mk (x := e) (H.get 2 rfl)))) fun A26 a w hf H => ?_)
       obtain ⟨l5, hl5_, hR1⟩ := bs_ hR1
       refine wl0 rfl (op_appR hf H Try.underlying28 TF.ai89 rfl (by decide) 1 0 rfl rfl rfl rfl (.inr rfl) hl5_ (by decide) fun E5 A27 c24 a w hf H => ?_)
       refine pz 1 hf fun a hf => ?_
       refine wl_end (blk_n ?_)
       have hf := hf.pn [0, 2, 4, 5, 7, 8]
       have H := H.lt_ [true, true, true, true] [false, true] [true, true] [0, 2, 3, 4]
       exact then_n ⟨(l5, y10.2.code, y10.2.at_, y10.2.seed), hR1, A27, c24, E5, hx29, hf, H⟩
      ·refine wp_exit (then_x (then_x (blk_e (?_))))
       have hf := hf.pn [0, 2, 4, 5, 7, 8]
       have H := H.lt_ [true, true, true, true] [true] [true, true] [0, 2, 3, 4]
       exact ⟨(l4, y10.2.code, y10.2.at_, y10.2.seed), (Option.some.inj hR1).symm, A24, c22, E4, hx29, hf, H⟩
     rintro a w ⟨⟨l6, m10, m11, m12⟩, rfl, A28, c25, E6, hsm2, hf, H⟩
     try dsimp only at hsm2
     try dsimp only at hF
     refine blk_n (then_n (reg (pz 2 hf fun a hf => ?_)))
     refine lN 0 hf H TF.la89 fun a hf => ?_
     obtain ⟨e4, he4, hF⟩ := bs_ hF
     refine wl0 rfl (op_iaddrR hf H Try.underlying28 TF.sz89 0 rfl rfl rfl he4 (by decide) fun p4 o5 cs15 a hf hA4 hr15 hk4 => ?_)
     obtain ⟨A29, c26, rfl, hl19⟩ := Request_cells hr15
     have H := H.pT hl19
     refine wl0 rfl (op_storeR (e' := e) (o := o5) (off := 0) hf H TF.sz89 0 rfl rfl rfl rfl rfl (nle rfl) rfl hA4 he4 (st_full (Request_mk (x := e) (H.get 2 rfl))) fun w H => ?_)
     replace hf : Fr a 73 [(2, (.pointer (some ⟨b2, 0, none⟩))), (4, (.pointer (some ⟨b3, 0, none⟩))), (5, (.slice A28 l6.length c25)), (7, (.int .i64 y6.1)), (8, (.pointer (some ⟨b4, 0, none⟩))), (67, (.slice A28 l6.length c25)), (68, (.int .i64 y6.1)), (69, (.agg #[(.int .i64 e.Route.Start), (.slice A16 e.Route.Fibers.length c15), (.int .i64 e.Count)])), (70, (.pointer (some ⟨p4, o5 + 0, none⟩)))] := hf.prune [2, 4, 5, 7, 8, 67, 68, 69, 70] rfl
     replace hf : Fr a 73 [(2, (.pointer (some ⟨b2, 0, none⟩))), (4, (.pointer (some ⟨b3, 0, none⟩))), (5, (.slice A28 (l6.set (y6.1 : Int).toNat e).length c25)), (7, (.int .i64 y6.1)), (8, (.pointer (some ⟨b4, 0, none⟩))), (67, (.slice A28 (l6.set (y6.1 : Int).toNat e).length c25)), (68, (.int .i64 y6.1)), (69, (.agg #[(.int .i64 e.Route.Start), (.slice A16 e.Route.Fibers.length c15), (.int .i64 e.Count)])), (70, (.pointer (some ⟨p4, o5 + 0, none⟩)))] := by simpa only [List.length_set, Nat.add_zero] using hf
     refine wr (lN 1 hf H TF.la27 fun a hf => ?_)
     refine pz 1 hf fun a hf => ?_
     refine sB 2 hf H TF.sz27 fun w H => ?_
     refine pz 1 hf fun a hf => ?_
     refine wer ?_
     have H := H.freeze 0 rfl
     obtain rfl := oi hF
     refine ret_2 hf rfl (rv_cellN hf H 2 TF.la27 rfl rfl rfl) (rv_tmp hf rfl) ?_
     exact ⟨_, rfl, H.chg, _, H.boxAt 3 rfl, (L1CurP_mk (x := ({ code := m10, at_ := m11, seed := m12 } : L1CurP)) (eB 3 (H.get 2 rfl))), ⟨fxc hsm2, hsm2⟩, _, _, rfl, (Network_mkv (x := y.1) (eB 3 (H.get 5 rfl)) (eB 3 (H.get 4 rfl))), (mk_list (eB 3 (H.get 0 rfl)))⟩
  ·refine wp_skip (then_n (sq (reg (lN 0 hf H TF.la27 fun a hf => ?_))))
   refine pz 1 hf fun a hf => ?_
   refine sB 1 hf H TF.sz27 fun w H => ?_
   refine pz 1 hf fun a hf => ?_
   have hf := hf.pn [2, 3]
   refine wer ?_
   have H := H.freeze 0 rfl
   obtain rfl := oi hF
   refine ret_2 hf rfl (rv_cellN hf H 1 TF.la27 rfl rfl rfl) (rv_tmp hf rfl) ?_
   exact ⟨_, rfl, H.chg, _, H.boxAt 2 rfl, (L1CurP_mk (x := y5.2) (eB 2 (H.get 1 rfl))), ⟨fxc hx14, hx14⟩, _, _, rfl, (Network_mkv (x := y.1) (eB 2 (H.get 4 rfl)) (eB 2 (H.get 3 rfl))), (mk_list (eB 2 (H.get 0 rfl)))⟩
 ·have hf := hf.lit 31 rfl hc2
  refine pz 3 hf fun a hf => ?_
  refine wl_end (then_n (cd_f hf rfl rfl (wp_skip (then_n (sq (reg (lN 0 hf H TF.la27 fun a hf => ?_)))))))
  refine pz 1 hf fun a hf => ?_
  refine sB 1 hf H TF.sz27 fun w H => ?_
  refine pz 1 hf fun a hf => ?_
  have hf := hf.pn [2, 3]
  refine wer ?_
  have H := H.freeze 0 rfl
  obtain rfl := oi hF
  refine ret_2 hf rfl (rv_cellN hf H 1 TF.la27 rfl rfl rfl) (rv_tmp hf rfl) ?_
  exact ⟨_, rfl, H.chg, _, H.boxAt 2 rfl, (L1CurP_mk (x := ({ code := m4, at_ := m5, seed := m6 } : L1CurP)) (eB 2 (H.get 1 rfl))), ⟨fxc hsm, hsm⟩, _, _, rfl, (Network_mkv (x := y.1) (eB 2 (H.get 3 rfl)) (eB 2 (H.get 2 rfl))), (mk_list (eB 2 (H.get 0 rfl)))⟩
theorem spec_DrawGreedyOrder_ok {S : Nat → Prop} {v0_ : Value} {code : List By} {r : Network × List Request} (h0 : VR w0 S v0_ code) (hF : spec_DrawGreedyOrder fu code = some r) :
    Calls Try.prog 6 [v0_].toArray w0 fun e w' => ∃ v, e = .returned v ∧ (∃ (A0_0 : Option Addr) (c0_0 : Nat) (A0_1 : Option Addr) (c0_1 : Nat) (A1_0 : Option Addr) (c1_0 : Nat), v = .tuple #[(.agg #[(.slice A0_0 r.1.Nodes.length c0_0), (.slice A0_1 r.1.Fibers.length c0_1)]), (.slice A1_0 r.2.length c1_0)] ∧ Mem ⟨w0, []⟩ S [] [] [] [(true, MP.val [(.slice A0_0 r.1.Nodes.length c0_0)] (r.1.Nodes : List ByteArray)), (true, MP.val [(.slice A0_1 r.1.Fibers.length c0_1)] (r.1.Fibers : List Fiber)), (true, MP.val [(.slice A1_0 r.2.length c1_0)] (r.2 : List Request))] w') := by
 obtain ⟨A, c, rfl, hl⟩ := VR_list h0
 have H := Mem.start ⟨w0, []⟩ S
 have H := H.pA hl
 refine en Try.func6 fun a hf => ?_
 rw [spec_DrawGreedyOrder] at hF
 refine sq (reg (aL hf H TF.zv27 fun b' a w hf H => ?_))
 refine pz 1 hf fun a hf => ?_
 refine wr (pz 1 hf fun a hf => ?_)
 refine oq hf (rq_build hf (cs := [(.slice A code.length c), (.int .i64 0), (.int .u64 0)]) rfl (fun w => by kernel_rfl)) fun a hf => ?_
 refine wl0 rfl (op_box hf H rfl rfl (by decide) fun b2 a w hf H => ?_)
 refine pz 1 hf fun a hf => ?_
 refine wr (pz 1 hf fun a hf => ?_)
 obtain ⟨y, hy, hF⟩ := bs_ hF
 refine oc hf TF.cl22 (spec_l1Cur_requests_ok (S := St ⟨w0, []⟩ S [⟨b2, 57, [(.slice A code.length c), (.int .i64 0), (.int .u64 0)]⟩, ⟨b', 27, [(.slice none 0 0), (.slice none 0 0)]⟩] [] [] false) (H.boxAt 0 rfl) ((L1CurP_mk (x := ({ code := code, at_ := 0, seed := (⟨0⟩ : U64) } : L1CurP)) (H.get 0 rfl))) (H.notSt 0 rfl _) hy) fun v w a hp hf => ?_
 obtain ⟨hch, cs, hbx, hr, ⟨hx, hx2⟩, hs⟩ := hp
 obtain ⟨v2, v3, rfl, hp2, hp3⟩ := hs
 obtain ⟨A2, c2, A3, c3, rfl, hl2, hl3⟩ := Network_open hp2
 replace hl2 := GoTy.mono (α := List ByteArray) hl2 (H.movesB (w' := w) 0 rfl true)
 replace hl3 := GoTy.mono (α := List Fiber) hl3 (H.movesB (w' := w) 0 rfl true)
 obtain ⟨A4, c4, rfl, hl4⟩ := VR_list hp3
 replace hl4 := GoTy.mono (α := List Request) hl4 (H.movesB (w' := w) 0 rfl true)
 obtain ⟨A5, c5, rfl, hl5⟩ := L1CurP_cells hr
 obtain ⟨rfl, rfl⟩ := fx_slice hx rfl rfl
 have H := H.wroteBox 0 rfl hch hbx
 have H := H.pX 0 rfl hx2
 have H := H.pT hl2
 have H := H.pT hl3
 have H := H.pT hl4
 refine pz 3 hf fun a hf => ?_
 refine aL hf H TF.zv27 fun b3 a w hf H => ?_
 refine sB 0 hf H TF.sz27 fun w H => ?_
 refine pz 1 hf fun a hf => ?_
 refine we (sqz (pz 3 hf fun a hf => ?_))
 have hf := hf.pn [2, 5, 6, 17]
 refine wl_end (then_n (ib hF hf (fun hc hF => ?_) fun hc hF => ?_))
 ·refine reg (pz 1 hf fun a hf => ?_)
  obtain ⟨l, hl_, hF⟩ := bs_ hF
  refine wl0 rfl (op_sliceI hf H Try.underlying28 TF.sz89 0 rfl rfl rfl rfl hl_ (by decide) fun A6 c6 a hf H => ?_)
  refine pz 1 hf fun a hf => ?_
  refine wr (lN 0 hf H TF.la27 fun a hf => ?_)
  refine pz 1 hf fun a hf => ?_
  refine sB 2 hf H TF.sz27 fun w H => ?_
  refine pz 1 hf fun a hf => ?_
  refine wer ?_
  obtain rfl := oi hF
  refine ret_2 hf rfl (rv_cellN hf H 2 TF.la27 rfl rfl rfl) (rv_tmp hf rfl) ?_
  have H := H.lt_ [false, false, false] [] [] [3, 2, 0]
  exact ⟨_, rfl, A2, c2, A3, c3, A6, c6, rfl, H⟩
 ·refine wp_skip (then_n (sq (reg (lN 0 hf H TF.la27 fun a hf => ?_))))
  refine pz 1 hf fun a hf => ?_
  refine sB 2 hf H TF.sz27 fun w H => ?_
  refine pz 1 hf fun a hf => ?_
  refine wer ?_
  obtain rfl := oi hF
  refine ret_2 hf rfl (rv_cellN hf H 2 TF.la27 rfl rfl rfl) (rv_tmp hf rfl) ?_
  have H := H.lt_ [false, false, false] [] [] [2, 1, 0]
  exact ⟨_, rfl, A2, c2, A3, c3, A4, c4, rfl, H⟩
theorem impl_IsValidRequests_c1_ok {S : Nat → Prop} {v0_ : Value} {b1 o1 : Nat} {cs1 : List Value} {x1 : Request} {cap : Network} {r : Bool} (h0 : VR w0 S v0_ x1) (hp1 : (MP.cells ⟨b1, o1, none⟩ cs1).pred w0 S) (hr1 : GoTy.rep w0 S cs1 cap) (hF : impl_IsValidRequests_c1 fu x1 cap = some r) :
    Calls Try.prog 68 [v0_, (.pointer (some ⟨b1, o1, none⟩))].toArray w0 fun e w' => ∃ v, e = .returned v ∧ (Below w0.heap.size w0 w' ∧ VR w' (St ⟨w0, []⟩ S [] [] [] true) v r) := by
 obtain ⟨A, c, rfl, hl⟩ := Request_open h0
 obtain ⟨A2, c2, A3, c3, rfl, hl2, hl3⟩ := Network_cells hr1
 have H := Mem.start ⟨w0, []⟩ S
 have H := H.pA hl
 have H := H.pA hl2
 have H := H.pA hl3
 have H := H.pushArg (MP.cells ⟨b1, o1, none⟩ [(.slice A2 cap.Nodes.length c2), (.slice A3 cap.Fibers.length c3)]) hp1
 refine en Try.func68 fun a hf => ?_
 rw [impl_IsValidRequests_c1] at hF
 refine bx hf H fun b3 a w hf H => ?_
 refine pz 1 hf fun a hf => ?_
 refine wr (oq hf (rq_loadIN hf H TF.la27 0 0 rfl rfl rfl rfl) fun a hf => ?_)
 refine pz 1 hf fun a hf => ?_
 refine lN 0 hf H TF.la40 fun a hf => ?_
 obtain ⟨y, hy, hF⟩ := bs_ hF
 refine oc hf TF.cl69 (impl_visited_ok (S := TT) (Network_mkv (x := cap) (H.rt 2 rfl) (H.rt 1 rfl)) (Route_mkv (x := x1.Route) (H.rt 3 rfl)) hy) fun v w a hp3 hf => ?_
 obtain ⟨hb, F, v2, v3, rfl, hp4, hp5, hN⟩ := hp3
 obtain ⟨A4, c4, rfl, hl4⟩ := VO_list hp4
 obtain rfl := VR_bool hp5
 have H := H.aO1 hb hN hl4
 have H := H.lend 0 rfl
 refine pz 5 hf fun a hf => ?_
 refine wl_end (then_n (sq ?_))
 obtain ⟨c5, hGc5, hF⟩ := bs_ hF
 have fh := hf.prune [] rfl
 have Hm := H.lt_ [false] [] [false] []
 refine midF 3 (.bool c5) fh Hm ?_ fun a w hf H => ?_
 ·refine reg (pz 3 hf fun a hf => ?_)
  refine iteB hGc5 (fun hc hGc5 => ?_) fun hc hGc5 => ?_
  ·have hf := hf.lit 15 rfl hc
   refine pz 6 hf fun a hf => ?_
   obtain rfl := oi hGc5
   have hf := hf.pn [3]
   have H := H.lt_ [false] [] [false] []
   exact wl_end ⟨hf, H⟩
  ·have hf := hf.lit 15 rfl hc
   refine pz 1 hf fun a hf => ?_
   refine wlg hf rfl rfl rfl (op_q hf (rq_loadB hf H TF.ls3 0 rfl rfl rfl) rfl (by decide) fun a hf => ?_)
   obtain ⟨y2, hy2, hGc5⟩ := bs_ hGc5
   refine wlg hf rfl rfl rfl (oC hf TF.cl40 (impl_within_ok (S := TT) mk_int mk_int mk_int hy2) fun v4 w a hp6 hf => ?_)
   obtain ⟨hb2, hp6⟩ := hp6
   obtain rfl := VR_bool hp6
   have H := H.keep hb2
   refine pz 3 hf fun a hf => ?_
   obtain rfl := oi hGc5
   have hf := hf.pn [3]
   have H := H.lt_ [false] [] [false] []
   exact wl_end ⟨hf, H⟩
 refine then_n (wp_ret (?_))
 obtain rfl := oi hF
 refine rT hf ?_
 exact ⟨_, rfl, H.bel, mk_bool⟩
theorem slices_IndexFunc_impl_Request_impl_Request_of_IsValidRequests_c1_ok {S : Nat → Prop} {v0_ : Value} {b1_0 o1_0 : Nat} {cs1_0 : List Value} {s' : List Request} {cap : Network} {r : Int} (h0 : VR w0 S v0_ s') (hp1_0 : (MP.cells ⟨b1_0, o1_0, none⟩ cs1_0).pred w0 S) (hr1_0 : GoTy.rep w0 S cs1_0 cap) (hF : slices_IndexFunc_impl_Request_impl_Request_of_IsValidRequests_c1 fu s' cap = some r) :
    Calls Try.prog 97 [v0_, (.func (.func 68) #[] #[(.pointer (some ⟨b1_0, o1_0, none⟩))])].toArray w0 fun e w' => ∃ v, e = .returned v ∧ (Below w0.heap.size w0 w' ∧ VR w' (St ⟨w0, []⟩ S [] [] [] true) v r) := by
 obtain ⟨A, c, rfl, hl⟩ := VR_list h0
 obtain ⟨A2, c2, A3, c3, rfl, hl2, hl3⟩ := Network_cells hr1_0
 have H := Mem.start ⟨w0, []⟩ S
 have H := H.pA hl
 have H := H.pA hl2
 have H := H.pA hl3
 have H := H.pushArg (MP.cells ⟨b1_0, o1_0, none⟩ [(.slice A2 cap.Nodes.length c2), (.slice A3 cap.Fibers.length c3)]) hp1_0
 refine en Try.func97 fun a hf => ?_
 rw [slices_IndexFunc_impl_Request_impl_Request_of_IsValidRequests_c1] at hF
 refine sqz (pz 1 hf fun a hf => ?_)
 refine we (sqz (pz 3 hf fun a hf => ?_))
 refine wl_end (then_n ?_)
 obtain ⟨out', hB1, hF⟩ := bs_ hF
 have hf := hf.pn [0, 1, 7, 8]
 have H := H.lt_ [] [] [] [0, 1, 2, 3]
 refine loopC (fun (s : Int) (a : Act) (w : World) => match s with | i => Fr a 19 [(0, (.slice A s'.length c)), (1, (.func (.func 68) #[] #[(.pointer (some ⟨b1_0, o1_0 + 0, none⟩))])), (7, (.int .i64 (s'.length : Int))), (8, (.int .i64 i))] ∧ Mem ⟨w0, []⟩ S [] [] [] [(false, MP.cells ⟨b1_0, o1_0, none⟩ [(.slice A2 cap.Nodes.length c2), (.slice A3 cap.Fibers.length c3)]), (false, MP.val [(.slice A3 cap.Fibers.length c3)] (cap.Fibers : List Fiber)), (false, MP.val [(.slice A2 cap.Nodes.length c2)] (cap.Nodes : List ByteArray)), (false, MP.val [(.slice A s'.length c)] (s' : List Request))] w) (fun k (s : Int) => slices_IndexFunc_impl_Request_impl_Request_of_IsValidRequests_c1_L1 fu s' cap k s = some out') (fun s => out' = Out.next s) 0 fu hB1 ⟨hf, H⟩ (fun s h => by cases h) ?_ ?_
 ·rintro fk i a w hR1 hI
  replace hR1 : slices_IndexFunc_impl_Request_impl_Request_of_IsValidRequests_c1_L1 fu s' cap (fk + 1) i = some out' := hR1
  rw [slices_IndexFunc_impl_Request_impl_Request_of_IsValidRequests_c1_L1] at hR1
  obtain ⟨hf, H⟩ := hI
  refine sqz (pz 1 hf fun a hf => ?_)
  refine wl_end (then_n (sq (ib hR1 hf (fun hc hR1 => ?_) fun hc hR1 => ?_)))
  ·refine ws (pz 2 hf fun a hf => ?_)
   refine wr (pz 3 hf fun a hf => ?_)
   obtain ⟨e, he, hR1⟩ := bs_ hR1
   refine wl0 rfl (op_iaddr hf H Try.underlying28 TF.sz89 3 rfl rfl rfl he (by decide) fun p o3 cs3 a hf hr3 H => ?_)
   obtain ⟨A4, c4, rfl, hl4⟩ := Request_cells hr3
   have H := H.pF hl4
   refine oq hf (rq_loadIN hf H TF.la89 1 0 rfl rfl rfl rfl) fun a hf => ?_
   obtain ⟨y, hy, hR1⟩ := bs_ hR1
   refine wl0 rfl (op_callV hf TF.cl68 rfl rfl (by decide) (impl_IsValidRequests_c1_ok (S := TT) (Request_mkv (x := e) (H.rt 0 rfl)) (mp_true (H.get 2 rfl)) ((Network_mk (x := cap) (H.rt 4 rfl) (H.rt 3 rfl))) hy) fun v w a hp3 hf => ?_)
   obtain ⟨hb, hp3⟩ := hp3
   obtain rfl := VR_bool hp3
   have H := H.keep hb
   refine wl_end (then_n (ib hR1 hf (fun hc2 hR1 => ?_) fun hc2 hR1 => ?_))
   ·refine sqz (pz 2 hf fun a hf => ?_)
    have hf := hf.pn [4]
    refine wl_end (then_n (wp_ret (blk_r (then_r (then_r (blk_r (then_r (then_r (?_)))))))))
    obtain rfl := oi hR1
    replace hF := on_ret hF
    obtain rfl := oi hF
    refine rT hf ?_
    exact ⟨_, rfl, H.bel, mk_int⟩
   ·refine wp_skip (blk_n (then_n (reg (pz 2 hf fun a hf => ?_))))
    refine wl_end ?_
    have hf := hf.pn [0, 1, 7, 8]
    have H := H.lt_ [] [] [] [2, 3, 4, 5]
    exact then_n ⟨w64 (i + 1), hR1, hf, H⟩
  ·refine wp_exit (then_x (then_x (blk_e (?_))))
   have hf := hf.pn [0, 1, 7, 8]
   have H := H.lt_ [] [] [] [0, 1, 2, 3]
   exact ⟨i, (Option.some.inj hR1).symm, hf, H⟩
 rintro a w ⟨i2, rfl, hf, H⟩
 replace hF := on_next hF
 refine then_n (sqz (pz 1 hf fun a hf => ?_))
 refine wer ?_
 obtain rfl := oi hF
 refine rT hf ?_
 exact ⟨_, rfl, H.bel, mk_int⟩
theorem slices_ContainsFunc_impl_Request_impl_Request_of_IsValidRequests_c1_ok {S : Nat → Prop} {v0_ : Value} {b1_0 o1_0 : Nat} {cs1_0 : List Value} {s' : List Request} {cap : Network} {r : Bool} (h0 : VR w0 S v0_ s') (hp1_0 : (MP.cells ⟨b1_0, o1_0, none⟩ cs1_0).pred w0 S) (hr1_0 : GoTy.rep w0 S cs1_0 cap) (hF : slices_ContainsFunc_impl_Request_impl_Request_of_IsValidRequests_c1 fu s' cap = some r) :
    Calls Try.prog 67 [v0_, (.func (.func 68) #[] #[(.pointer (some ⟨b1_0, o1_0, none⟩))])].toArray w0 fun e w' => ∃ v, e = .returned v ∧ (Below w0.heap.size w0 w' ∧ VR w' (St ⟨w0, []⟩ S [] [] [] true) v r) := by
 obtain ⟨A, c, rfl, hl⟩ := VR_list h0
 obtain ⟨A2, c2, A3, c3, rfl, hl2, hl3⟩ := Network_cells hr1_0
 have H := Mem.start ⟨w0, []⟩ S
 have H := H.pA hl
 have H := H.pA hl2
 have H := H.pA hl3
 have H := H.pushArg (MP.cells ⟨b1_0, o1_0, none⟩ [(.slice A2 cap.Nodes.length c2), (.slice A3 cap.Fibers.length c3)]) hp1_0
 refine en Try.func67 fun a hf => ?_
 rw [slices_ContainsFunc_impl_Request_impl_Request_of_IsValidRequests_c1] at hF
 refine sqz (pz 1 hf fun a hf => ?_)
 refine wr (pz 2 hf fun a hf => ?_)
 obtain ⟨y, hy, hF⟩ := bs_ hF
 refine oc hf TF.cl97 (slices_IndexFunc_impl_Request_impl_Request_of_IsValidRequests_c1_ok (S := TT) (mk_list (H.rt 3 rfl)) (mp_true (H.get 0 rfl)) ((Network_mk (x := cap) (H.rt 2 rfl) (H.rt 1 rfl))) hy) fun v w a hp3 hf => ?_
 obtain ⟨hb, hp3⟩ := hp3
 obtain rfl := VR_int hp3
 have H := H.keep hb
 refine pz 2 hf fun a hf => ?_
 refine wer ?_
 obtain rfl := oi hF
 refine rT hf ?_
 exact ⟨_, rfl, H.bel, mk_bool⟩
theorem impl_IsValidRequests_ok {S : Nat → Prop} {v0_ : Value} {v1_ : Value} {n' : Network} {list : List Request} {r : Bool} (h0 : VR w0 S v0_ n') (h1 : VR w0 S v1_ list) (hF : impl_IsValidRequests fu n' list = some r) :
    Calls Try.prog 30 [v0_, v1_].toArray w0 fun e w' => ∃ v, e = .returned v ∧ (Below w0.heap.size w0 w' ∧ VR w' (St ⟨w0, []⟩ S [] [] [] true) v r) := by
 obtain ⟨A, c, A2, c2, rfl, hl, hl2⟩ := Network_open h0
 obtain ⟨A3, c3, rfl, hl3⟩ := VR_list h1
 have H := Mem.start ⟨w0, []⟩ S
 have H := H.pA hl
 have H := H.pA hl2
 have H := H.pA hl3
 refine en Try.func30 fun a hf => ?_
 rw [impl_IsValidRequests] at hF
 refine bx hf H fun b' a w hf H => ?_
 refine pz 1 hf fun a hf => ?_
 refine wl_end (then_n (sq ?_))
 obtain ⟨c4, hGc4, hF⟩ := bs_ hF
 have fh := hf.prune [] rfl
 have Hm := H.lt_ [false] [] [] []
 refine midF 4 (.bool c4) fh Hm ?_ fun a w hf H => ?_
 ·refine reg (lN 0 hf H TF.la27 fun a hf => ?_)
  obtain ⟨y, hy, hGc4⟩ := bs_ hGc4
  refine oc hf TF.cl47 (impl_IsValidNetwork_ok (S := TT) (Network_mkv (x := n') (H.rt 2 rfl) (H.rt 1 rfl)) hy) fun v w a hp hf => ?_
  obtain ⟨hb, hp⟩ := hp
  obtain rfl := VR_bool hp
  have H := H.keep hb
  refine pz 1 hf fun a hf => ?_
  refine iteB hGc4 (fun hc hGc4 => ?_) fun hc hGc4 => ?_
  ·have hf := hf.lit 7 rfl hc
   refine pz 5 hf fun a hf => ?_
   refine iteB hGc4 (fun hc2 hGc4 => ?_) fun hc2 hGc4 => ?_
   ·have hf := hf.lit 12 rfl hc2
    refine pz 1 hf fun a hf => ?_
    refine wlg hf rfl rfl rfl (op_q hf (rq_makeFunc hf rfl) rfl (by decide) fun a hf => ?_)
    obtain ⟨y2, hy2, hGc4⟩ := bs_ hGc4
    refine wlg hf rfl rfl rfl (oC hf TF.cl67 (slices_ContainsFunc_impl_Request_impl_Request_of_IsValidRequests_c1_ok (S := TT) (mk_list (H.rt 0 rfl)) (H.boxTrue 0 rfl) ((Network_mk (x := n') (H.rt 2 rfl) (H.rt 1 rfl))) hy2) fun v2 w a hp2 hf => ?_)
    obtain ⟨hb2, hp2⟩ := hp2
    obtain rfl := VR_bool hp2
    have H := H.keep hb2
    refine pz 3 hf fun a hf => ?_
    obtain rfl := oi hGc4
    have hf := hf.pn [4]
    have H := H.lt_ [false] [] [] []
    exact wl_end ⟨hf, H⟩
   ·have hf := hf.lit 12 rfl hc2
    refine pz 6 hf fun a hf => ?_
    obtain rfl := oi hGc4
    have hf := hf.pn [4]
    have H := H.lt_ [false] [] [] []
    exact wl_end ⟨hf, H⟩
  ·have hf := hf.lit 7 rfl hc
   refine pz 11 hf fun a hf => ?_
   obtain rfl := oi hGc4
   have hf := hf.pn [4]
   have H := H.lt_ [false] [] [] []
   exact wl_end ⟨hf, H⟩
 refine then_n (wp_ret (?_))
 obtain rfl := oi hF
 refine rT hf ?_
 exact ⟨_, rfl, H.bel, mk_bool⟩
theorem math_bits_Len64_ok {S : Nat → Prop} {v0_ : Value} {x1 : U64} {r : Int} (h0 : VR w0 S v0_ x1) (hF : math_bits_Len64 fu x1 = some r) :
    Calls Try.prog 109 [v0_].toArray w0 fun e w' => ∃ v, e = .returned v ∧ (Below w0.heap.size w0 w' ∧ VR w' (St ⟨w0, []⟩ S [] [] [] true) v r) := by
 obtain rfl := VR_u64 h0
 have H := Mem.start ⟨w0, []⟩ S
 refine en Try.func109 fun a hf => ?_
 rw [math_bits_Len64] at hF
 refine sqz (pz 1 hf fun a hf => ?_)
 refine we (sqz (pz 1 hf fun a hf => ?_))
 refine oq hf (rq_geK hf rfl rfl) fun a hf => ?_
 refine wl_end (then_n (ib hF hf (fun hc hF => ?_) fun hc hF => ?_))
 ·cases hF
 ·refine wp_skip (then_n (sq (sqz (pz 1 hf fun a hf => ?_))))
  refine oq hf (rq_geK hf rfl rfl) fun a hf => ?_
  refine wl_end (then_n (ib hF hf (fun hc2 hF => ?_) fun hc2 hF => ?_))
  ·cases hF
  ·refine wp_skip (then_n (sq (sqz (pz 1 hf fun a hf => ?_))))
   refine oq hf (rq_geK hf rfl rfl) fun a hf => ?_
   refine wl_end (then_n (ib hF hf (fun hc3 hF => ?_) fun hc3 hF => ?_))
   ·cases hF
   ·refine wp_skip (then_n (sqz (pz 2 hf fun a hf => ?_)))
    refine oq hf (rq_conv u8w Try.underlying55 Try.underlying5 hf rfl) fun a hf => ?_
    obtain ⟨e, he, hF⟩ := bs_ hF
    refine oq hf (rq_indexS hf Try.underlying9 rfl rfl he) fun a hf => ?_
    refine oq hf (rq_conv i64w Try.underlying5 Try.underlying3 hf rfl) fun a hf => ?_
    refine pz 2 hf fun a hf => ?_
    have hf := hf.pn [2]
    refine wer ?_
    obtain rfl := oi hF
    refine rT hf ?_
    exact ⟨_, rfl, H.bel, mk_int⟩
theorem math_bits_Len_ok {S : Nat → Prop} {v0_ : Value} {x1 : U64} {r : Int} (h0 : VR w0 S v0_ x1) (hF : math_bits_Len fu x1 = some r) :
    Calls Try.prog 74 [v0_].toArray w0 fun e w' => ∃ v, e = .returned v ∧ (Below w0.heap.size w0 w' ∧ VR w' (St ⟨w0, []⟩ S [] [] [] true) v r) := by
 obtain rfl := VR_u64 h0
 have H := Mem.start ⟨w0, []⟩ S
 refine en Try.func74 fun a hf => ?_
 rw [math_bits_Len] at hF
 refine sqz (pz 1 hf fun a hf => ?_)
 refine wl_end (then_n (sq (cd_f hf rfl rfl (wp_skip (then_n (sqz (pz 1 hf fun a hf => ?_)))))))
 obtain ⟨y, hy, hF⟩ := bs_ hF
 refine oc hf TF.cl109 (math_bits_Len64_ok (S := TT) mk_u64 hy) fun v w a hp hf => ?_
 obtain ⟨hb, hp⟩ := hp
 obtain rfl := VR_int hp
 have H := H.keep hb
 refine pz 1 hf fun a hf => ?_
 refine wer ?_
 obtain rfl := oi hF
 refine rT hf ?_
 exact ⟨_, rfl, H.bel, mk_int⟩
theorem cmp_Less_int_ok {S : Nat → Prop} {v0_ : Value} {v1_ : Value} {x1 : Int} {y : Int} {r : Bool} (h0 : VR w0 S v0_ x1) (h1 : VR w0 S v1_ y) (hF : cmp_Less_int fu x1 y = some r) :
    Calls Try.prog 105 [v0_, v1_].toArray w0 fun e w' => ∃ v, e = .returned v ∧ (Below w0.heap.size w0 w' ∧ VR w' (St ⟨w0, []⟩ S [] [] [] true) v r) := by
 obtain rfl := VR_int h0
 obtain rfl := VR_int h1
 have H := Mem.start ⟨w0, []⟩ S
 refine en Try.func105 fun a hf => ?_
 rw [cmp_Less_int] at hF
 refine sqz (pz 1 hf fun a hf => ?_)
 refine wl_end (then_n (sq ?_))
 obtain ⟨c, hGc, hF⟩ := bs_ hF
 have fh := hf.prune [] rfl
 have Hm := H.lt_ [] [] [] []
 refine midF 4 (.bool c) fh Hm ?_ fun a w hf H => ?_
 ·refine reg (pz 1 hf fun a hf => ?_)
  obtain ⟨y2, hy2, hGc⟩ := bs_ hGc
  refine oc hf TF.cl128 (cmp_isNaN_int_ok (S := TT) mk_int hy2) fun v w a hp hf => ?_
  obtain ⟨hb, hp⟩ := hp
  obtain rfl := VR_bool hp
  have H := H.keep hb
  refine pz 1 hf fun a hf => ?_
  refine iteB hGc (fun hc hGc => ?_) fun hc hGc => ?_
  ·have hf := hf.lit 7 rfl hc
   refine pz 1 hf fun a hf => ?_
   obtain ⟨y3, hy3, hGc⟩ := bs_ hGc
   refine wlg hf rfl rfl rfl (oC hf TF.cl128 (cmp_isNaN_int_ok (S := TT) mk_int hy3) fun v2 w a hp2 hf => ?_)
   obtain ⟨hb2, hp2⟩ := hp2
   obtain rfl := VR_bool hp2
   have H := H.keep hb2
   refine pz 3 hf fun a hf => ?_
   refine iteB hGc (fun hc2 hGc => ?_) fun hc2 hGc => ?_
   ·have hf := hf.lit 12 rfl hc2
    refine pz 5 hf fun a hf => ?_
    obtain rfl := oi hGc
    have hf := hf.pn [4]
    have H := H.lt_ [] [] [] []
    exact wl_end ⟨hf, H⟩
   ·have hf := hf.lit 12 rfl hc2
    refine pz 5 hf fun a hf => ?_
    obtain rfl := oi hGc
    have hf := hf.pn [4]
    have H := H.lt_ [] [] [] []
    exact wl_end ⟨hf, H⟩
  ·have hf := hf.lit 7 rfl hc
   refine pz 10 hf fun a hf => ?_
   obtain rfl := oi hGc
   have hf := hf.pn [4]
   have H := H.lt_ [] [] [] []
   exact wl_end ⟨hf, H⟩
 refine then_n (wp_ret (?_))
 obtain rfl := oi hF
 refine rT hf ?_
 exact ⟨_, rfl, H.bel, mk_bool⟩
theorem slices_insertionSortOrdered_int_ok {S : Nat → Prop} {F : List Nat} {cs : List Value} {v1_ : Value} {v2_ : Value} {data : List Int} {a' : Int} {b' : Int} {r : List Int} (hO : GoTy.own w0 F cs data) (hn : F.Nodup) (h1 : VR w0 S v1_ a') (h2 : VR w0 S v2_ b') (hF : slices_insertionSortOrdered_int fu data a' b' = some r) :
    Calls Try.prog 99 [(bif GoTy.agg (List Int) then .agg cs.toArray else cs.headD undef), v1_, v2_].toArray w0 fun e w' => ∃ v, e = .returned v ∧ (Chg w0 w' F ∧ v = .tuple #[] ∧ ∃ F', GoTy.own w' F' cs r ∧ Back w0 w' F F') := by
 obtain rfl := VR_int h1
 obtain rfl := VR_int h2
 obtain ⟨A, c, rfl, hO⟩ := own_list hO
 have H := Mem.startG S hO hn
 obtain ⟨Fs, E, H, -⟩ := H.thaw rfl
 have H := H.rowSh 0 rfl
 refine en Try.func99 fun a hf => ?_
 rw [slices_insertionSortOrdered_int] at hF
 refine sqz (pz 3 hf fun a hf => ?_)
 refine wl_end (then_n ?_)
 obtain ⟨out', hB1, hF⟩ := bs_ hF
 have hf := hf.pn [0, 1, 2, 6]
 have hf : Fr a 49 [(0, (.slice A data.length c)), (1, (.int .i64 a')), (2, (.int .i64 b')), (6, (.int .i64 (w64 (a' + 1))))] := by first | exact hf | (simp only [List.length_set] at hf; exact hf)
 have H := H.lt_ [] [true] [] []
 refine loopC (fun (s : List Int × Int) (a : Act) (w : World) => match s with | (data2, i) => data2.length = data.length ∧ Fr a 49 [(0, (.slice A data.length c)), (1, (.int .i64 a')), (2, (.int .i64 b')), (6, (.int .i64 i))] ∧ Mem ⟨w0, F⟩ S [] [⟨.sh true, E, A, c, (data2 : List Int)⟩] [] [] w) (fun k (s : List Int × Int) => slices_insertionSortOrdered_int_L1 fu a' b' k s.1 s.2 = some out') (fun s => out' = s) (data, w64 (a' + 1)) fu hB1 ⟨rfl, hf, H⟩ (fun s h => by cases h) ?_ ?_
 ·rintro fk ⟨data2, i⟩ a w hR1 hI
  replace hR1 : slices_insertionSortOrdered_int_L1 fu a' b' (fk + 1) data2 i = some out' := hR1
  rw [slices_insertionSortOrdered_int_L1] at hR1
  obtain ⟨hlen, hf, H⟩ := hI
  have hf : Fr a 49 [(0, (.slice A data2.length c)), (1, (.int .i64 a')), (2, (.int .i64 b')), (6, (.int .i64 i))] := by rw [hlen]; exact hf
  refine sq (sqz (pz 3 hf fun a hf => ?_))
  refine wl_end (then_n (ib hR1 hf (fun hc hR1 => ?_) fun hc hR1 => ?_))
  ·refine ws (pz 2 hf fun a hf => ?_)
   refine wl_end (then_n ?_)
   obtain ⟨out2, hB2, hR1⟩ := bs_ hR1
   have hf := hf.pn [0, 1, 2, 6, 7]
   have hf : Fr a 49 [(0, (.slice A data2.length c)), (1, (.int .i64 a')), (2, (.int .i64 b')), (6, (.int .i64 i)), (7, (.int .i64 i))] := by first | exact hf | (simp only [List.length_set] at hf; exact hf)
   have H := H.lt_ [] [true] [] []
   refine loopC (fun (s : List Int × Int) (a : Act) (w : World) => match s with | (data3, j) => data3.length = data2.length ∧ Fr a 49 [(0, (.slice A data2.length c)), (1, (.int .i64 a')), (2, (.int .i64 b')), (6, (.int .i64 i)), (7, (.int .i64 j))] ∧ Mem ⟨w0, F⟩ S [] [⟨.sh true, E, A, c, (data3 : List Int)⟩] [] [] w) (fun k (s : List Int × Int) => slices_insertionSortOrdered_int_L2 fu a' k s.1 s.2 = some out2) (fun s => out2 = s) (data2, i) fu hB2 ⟨rfl, hf, H⟩ (fun s h => by cases h) ?_ ?_
   ·rintro fk ⟨data3, j⟩ a w hR2 hI
    replace hR2 : slices_insertionSortOrdered_int_L2 fu a' (fk + 1) data3 j = some out2 := hR2
    rw [slices_insertionSortOrdered_int_L2] at hR2
    obtain ⟨hlen2, hf, H⟩ := hI
    have hf : Fr a 49 [(0, (.slice A data3.length c)), (1, (.int .i64 a')), (2, (.int .i64 b')), (6, (.int .i64 i)), (7, (.int .i64 j))] := by rw [hlen2]; exact hf
    refine sq (sq ?_)
    obtain ⟨c2, hGc2, hR2⟩ := bs_ hR2
    have fh := hf.prune [0, 1, 2, 6, 7] rfl
    have Hm := H.lt_ [] [true] [] []
    refine midF 30 (.bool c2) fh Hm ?_ fun a w hf H => ?_
    ·refine dw [] 15 fun w hb => ?_
     have H := H.keep hb
     refine zp 0 hf trivial fun a hf => ?_
     refine zp 1 hf trivial fun a hf => ?_
     refine zp 2 hf trivial fun a hf => ?_
     refine zp 3 hf trivial fun a hf => ?_
     refine iteB hGc2 (fun hc2 hGc2 => ?_) fun hc2 hGc2 => ?_
     ·have hf := hf.lit 19 rfl hc2
      refine zg 4 hf trivial fun a hf => ?_
      refine zg 5 hf trivial fun a hf => ?_
      obtain ⟨e, he, hGc2⟩ := bs_ hGc2
      obtain ⟨p, o, hA, hx⟩ := pre_iaddrR H Try.underlying31 TF.sz3 0 rfl he
      refine tPg 6 rfl rfl rfl rfl rfl rfl hf (by kernel_rfl) (fun _ => trivial) (fun w => rq_iaddrE hf rfl rfl rfl hx w) fun a hf => ?_
      refine strT H (fun w H => trivial) fun hS => ?_
      refine tSg 7 [] rfl rfl rfl rfl rfl rfl hf (by kernel_rfl) (by kernel_rfl) hS (fun w H => rq_loadRow (off := 0) hf H TF.ls3 0 rfl rfl hA he (fun w T cs h => by obtain rfl := h; rfl)) fun a hf => ?_
      refine zg 8 hf hS fun a hf => ?_
      refine zg 9 hf hS fun a hf => ?_
      refine zg 10 hf hS fun a hf => ?_
      obtain ⟨e2, he2, hGc2⟩ := bs_ hGc2
      obtain ⟨p2, o2, hA2, hx2⟩ := pre_iaddrR H Try.underlying31 TF.sz3 0 rfl he2
      refine tPg 11 rfl rfl rfl rfl rfl rfl hf (by kernel_rfl) (fun _ => hS) (fun w => rq_iaddrE hf rfl rfl rfl hx2 w) fun a hf => ?_
      refine tSg 12 [] rfl rfl rfl rfl rfl rfl hf (by kernel_rfl) (by kernel_rfl) hS (fun w H => rq_loadRow (off := 0) hf H TF.ls3 0 rfl rfl hA2 he2 (fun w T cs h => by obtain rfl := h; rfl)) fun a hf => ?_
      obtain ⟨y, hy, hGc2⟩ := bs_ hGc2
      refine n1g 13 (by kernel_rfl) rfl rfl rfl rfl hf (oC hf TF.cl105 (cmp_Less_int_ok (S := TT) mk_int mk_int hy) fun v w a hp hf => ?_)
      obtain ⟨hb, hp⟩ := hp
      obtain rfl := VR_bool hp
      have H := H.keep hb
      have hS := H
      refine aS hS ?_
      refine zp 14 hf hS fun a hf => ?_
      refine dk ?_
      obtain rfl := oi hGc2
      have hf := hf.pn [30, 0, 1, 2, 6, 7]
      have H := H.lt_ [] [true] [] []
      exact ⟨hf, H⟩
     ·have hf := hf.lit 19 rfl hc2
      refine zU 4 hf trivial fun a hf => ?_
      refine zU 5 hf trivial fun a hf => ?_
      refine zU 6 hf trivial fun a hf => ?_
      refine zU 7 hf trivial fun a hf => ?_
      refine zU 8 hf trivial fun a hf => ?_
      refine zU 9 hf trivial fun a hf => ?_
      refine zU 10 hf trivial fun a hf => ?_
      refine zU 11 hf trivial fun a hf => ?_
      refine zU 12 hf trivial fun a hf => ?_
      refine zU 13 hf trivial fun a hf => ?_
      refine zp 14 hf trivial fun a hf => ?_
      refine dk ?_
      obtain rfl := oi hGc2
      have hf := hf.pn [30, 0, 1, 2, 6, 7]
      have H := H.lt_ [] [true] [] []
      exact ⟨hf, H⟩
    refine then_n (ib hR2 hf (fun hc3 hR2 => ?_) fun hc3 hR2 => ?_)
    ·refine wp_skip (then_n (sq (wp_block (dw [15, 17] 18 fun w hb => ?_))))
     have H := H.keep hb
     refine zp 0 hf trivial fun a hf => ?_
     refine zp 1 hf trivial fun a hf => ?_
     refine zp 2 hf trivial fun a hf => ?_
     refine zp 3 hf trivial fun a hf => ?_
     refine zp 4 hf trivial fun a hf => ?_
     refine zp 5 hf trivial fun a hf => ?_
     refine zp 6 hf trivial fun a hf => ?_
     refine zp 7 hf trivial fun a hf => ?_
     obtain ⟨e3, he3, hR2⟩ := bs_ hR2
     obtain ⟨p3, o3, hA3, hx3⟩ := pre_iaddrR H Try.underlying31 TF.sz3 0 rfl he3
     refine tP 8 rfl rfl rfl rfl hf (by kernel_rfl) (fun _ => trivial) (fun w => rq_iaddrE hf rfl rfl rfl hx3 w) fun a hf => ?_
     refine strT H (fun w H => trivial) fun hS => ?_
     refine zS 9 [9, 14, 15, 16, 17] rfl rfl rfl rfl hf hS (fun w H => rq_loadRow (off := 0) hf H TF.ls3 0 rfl rfl hA3 he3 (fun w T cs h => by obtain rfl := h; rfl)) fun a hf => ?_
     refine zp 10 hf hS fun a hf => ?_
     refine zp 11 hf hS fun a hf => ?_
     obtain ⟨e4, he4, hR2⟩ := bs_ hR2
     obtain ⟨p4, o4, hA4, hx4⟩ := pre_iaddrR H Try.underlying31 TF.sz3 0 rfl he4
     refine zP 12 rfl rfl rfl rfl hf hS (fun w => rq_iaddrE hf rfl rfl rfl hx4 w) fun a hf => ?_
     refine zS 13 [13, 14, 15, 16, 17] rfl rfl rfl rfl hf hS (fun w H => rq_loadRow (off := 0) hf H TF.ls3 0 rfl rfl hA4 he4 (fun w T cs h => by obtain rfl := h; rfl)) fun a hf => ?_
     obtain ⟨e5, he5, hR2⟩ := bs_ hR2
     refine nn 14 rfl (op_iaddrR hf H Try.underlying31 TF.sz3 0 rfl rfl rfl he5 (by decide) fun p5 o5 cs a hf hA5 hr hk => ?_)
     obtain rfl := hr
     have hS := H
     refine aS hS ?_
     refine nn 15 rfl (op_storeR (e' := e3) (o := o5) (off := 0) hf H TF.sz3 0 rfl rfl rfl rfl rfl (nle rfl) rfl hA5 he5 (st_full rfl) fun w H => ?_)
     replace hf : Fr a 49 [(0, (.slice A data3.length c)), (1, (.int .i64 a')), (2, (.int .i64 b')), (6, (.int .i64 i)), (7, (.int .i64 j)), (33, (.slice A data3.length c)), (34, (.int .i64 j)), (35, (.slice A data3.length c)), (36, (.int .i64 j)), (37, (.int .i64 (w64 (j - 1)))), (38, (.slice A data3.length c)), (39, (.int .i64 j)), (40, (.int .i64 (w64 (j - 1)))), (41, (.pointer (some ⟨p3, o3 + 0, none⟩))), (42, (.int .i64 e3)), (43, (.slice A data3.length c)), (44, (.int .i64 j)), (45, (.pointer (some ⟨p4, o4 + 0, none⟩))), (46, (.int .i64 e4)), (47, (.pointer (some ⟨p5, o5 + 0, none⟩)))] := hf.prune [0, 1, 2, 6, 7, 33, 34, 35, 36, 37, 38, 39, 40, 41, 42, 43, 44, 45, 46, 47] rfl
     replace hf : Fr a 49 [(0, (.slice A (data3.set (j : Int).toNat e3).length c)), (1, (.int .i64 a')), (2, (.int .i64 b')), (6, (.int .i64 i)), (7, (.int .i64 j)), (33, (.slice A (data3.set (j : Int).toNat e3).length c)), (34, (.int .i64 j)), (35, (.slice A (data3.set (j : Int).toNat e3).length c)), (36, (.int .i64 j)), (37, (.int .i64 (w64 (j - 1)))), (38, (.slice A (data3.set (j : Int).toNat e3).length c)), (39, (.int .i64 j)), (40, (.int .i64 (w64 (j - 1)))), (41, (.pointer (some ⟨p3, o3 + 0, none⟩))), (42, (.int .i64 e3)), (43, (.slice A (data3.set (j : Int).toNat e3).length c)), (44, (.int .i64 j)), (45, (.pointer (some ⟨p4, o4 + 0, none⟩))), (46, (.int .i64 e4)), (47, (.pointer (some ⟨p5, o5 + 0, none⟩)))] := by simpa only [List.length_set, Nat.add_zero] using hf
     refine ⟨fun h => absurd h (by decide), ?_⟩
     obtain ⟨e6, he6, hR2⟩ := bs_ hR2
     refine nn 16 rfl (op_iaddrR hf H Try.underlying31 TF.sz3 0 rfl rfl rfl he6 (by decide) fun p6 o6 cs2 a hf hA6 hr2 hk2 => ?_)
     obtain rfl := hr2
     refine ⟨fun h => absurd h (by decide), ?_⟩
     refine nn 17 rfl (op_storeR (e' := e4) (o := o6) (off := 0) hf H TF.sz3 0 rfl rfl rfl rfl rfl (nle rfl) rfl hA6 he6 (st_full rfl) fun w H => ?_)
     replace hf : Fr a 49 [(0, (.slice A (data3.set (j : Int).toNat e3).length c)), (1, (.int .i64 a')), (2, (.int .i64 b')), (6, (.int .i64 i)), (7, (.int .i64 j)), (33, (.slice A (data3.set (j : Int).toNat e3).length c)), (34, (.int .i64 j)), (35, (.slice A (data3.set (j : Int).toNat e3).length c)), (36, (.int .i64 j)), (37, (.int .i64 (w64 (j - 1)))), (38, (.slice A (data3.set (j : Int).toNat e3).length c)), (39, (.int .i64 j)), (40, (.int .i64 (w64 (j - 1)))), (41, (.pointer (some ⟨p3, o3 + 0, none⟩))), (42, (.int .i64 e3)), (43, (.slice A (data3.set (j : Int).toNat e3).length c)), (44, (.int .i64 j)), (45, (.pointer (some ⟨p4, o4 + 0, none⟩))), (46, (.int .i64 e4)), (47, (.pointer (some ⟨p5, o5 + 0, none⟩))), (48, (.pointer (some ⟨p6, o6 + 0, none⟩)))] := hf.prune [0, 1, 2, 6, 7, 33, 34, 35, 36, 37, 38, 39, 40, 41, 42, 43, 44, 45, 46, 47, 48] rfl
     replace hf : Fr a 49 [(0, (.slice A ((data3.set (j : Int).toNat e3).set (w64 (j - 1) : Int).toNat e4).length c)), (1, (.int .i64 a')), (2, (.int .i64 b')), (6, (.int .i64 i)), (7, (.int .i64 j)), (33, (.slice A ((data3.set (j : Int).toNat e3).set (w64 (j - 1) : Int).toNat e4).length c)), (34, (.int .i64 j)), (35, (.slice A ((data3.set (j : Int).toNat e3).set (w64 (j - 1) : Int).toNat e4).length c)), (36, (.int .i64 j)), (37, (.int .i64 (w64 (j - 1)))), (38, (.slice A ((data3.set (j : Int).toNat e3).set (w64 (j - 1) : Int).toNat e4).length c)), (39, (.int .i64 j)), (40, (.int .i64 (w64 (j - 1)))), (41, (.pointer (some ⟨p3, o3 + 0, none⟩))), (42, (.int .i64 e3)), (43, (.slice A ((data3.set (j : Int).toNat e3).set (w64 (j - 1) : Int).toNat e4).length c)), (44, (.int .i64 j)), (45, (.pointer (some ⟨p4, o4 + 0, none⟩))), (46, (.int .i64 e4)), (47, (.pointer (some ⟨p5, o5 + 0, none⟩))), (48, (.pointer (some ⟨p6, o6 + 0, none⟩)))] := by simpa only [List.length_set, Nat.add_zero] using hf
     refine ⟨fun h => absurd h (by decide), ?_⟩
     refine dk ?_
     have hf := hf.pn [0, 1, 2, 6, 7]
     refine blk_n (then_n (reg (pz 3 hf fun a hf => ?_)))
     refine wl_end ?_
     have hf := hf.pn [0, 1, 2, 6, 7]
     have hf : Fr a 49 [(0, (.slice A data2.length c)), (1, (.int .i64 a')), (2, (.int .i64 b')), (6, (.int .i64 i)), (7, (.int .i64 (w64 (j - 1))))] := by first | exact hf | (simp only [List.length_set, hlen2] at hf; exact hf)
     have H := H.lt_ [] [true] [] []
     exact then_n ⟨((data3.set (j : Int).toNat e3).set (w64 (j - 1) : Int).toNat e4, w64 (j - 1)), hR2, (by simp only [List.length_set, hlen2]), hf, H⟩
    ·refine wp_exit (then_x (then_x (blk_e (?_))))
     have hf := hf.pn [0, 1, 2, 6, 7]
     have hf : Fr a 49 [(0, (.slice A data2.length c)), (1, (.int .i64 a')), (2, (.int .i64 b')), (6, (.int .i64 i)), (7, (.int .i64 j))] := by first | exact hf | (simp only [List.length_set, hlen2] at hf; exact hf)
     have H := H.lt_ [] [true] [] []
     exact ⟨(data3, j), (Option.some.inj hR2).symm, (by simp only [List.length_set, hlen2]), hf, H⟩
   rintro a w ⟨⟨data4, j2⟩, rfl, hlen2, hf, H⟩
   try dsimp only at hlen2
   have hf : Fr a 49 [(0, (.slice A data4.length c)), (1, (.int .i64 a')), (2, (.int .i64 b')), (6, (.int .i64 i)), (7, (.int .i64 j2))] := by rw [hlen2]; exact hf
   try dsimp only at hR1
   refine blk_n (then_n (reg (pz 3 hf fun a hf => ?_)))
   refine wl_end ?_
   have hf := hf.pn [0, 1, 2, 6]
   have hf : Fr a 49 [(0, (.slice A data.length c)), (1, (.int .i64 a')), (2, (.int .i64 b')), (6, (.int .i64 (w64 (i + 1))))] := by first | exact hf | (simp only [List.length_set, hlen, hlen2] at hf; exact hf)
   have H := H.lt_ [] [true] [] []
   exact then_n ⟨(data4, w64 (i + 1)), hR1, (by simp only [List.length_set, hlen, hlen2]), hf, H⟩
  ·refine wp_exit (then_x (then_x (blk_e (?_))))
   have hf := hf.pn [0, 1, 2, 6]
   have hf : Fr a 49 [(0, (.slice A data.length c)), (1, (.int .i64 a')), (2, (.int .i64 b')), (6, (.int .i64 i))] := by first | exact hf | (simp only [List.length_set, hlen] at hf; exact hf)
   have H := H.lt_ [] [true] [] []
   exact ⟨(data2, i), (Option.some.inj hR1).symm, (by simp only [List.length_set, hlen]), hf, H⟩
 rintro a w ⟨⟨data5, i2⟩, rfl, hlen, hf, H⟩
 try dsimp only at hlen
 have hf : Fr a 49 [(0, (.slice A data5.length c)), (1, (.int .i64 a')), (2, (.int .i64 b')), (6, (.int .i64 i2))] := by rw [hlen]; exact hf
 try dsimp only at hF
 have H := H.rowOwn 0 rfl rfl
 obtain ⟨F', H⟩ := H.freezeOwn 0 rfl
 simp only [List.length_set, hlen] at H
 obtain rfl := oi hF
 refine ret_0 hf rfl ?_
 exact ⟨_, rfl, H.chg, rfl, _, H.ownAt 0 rfl, H.back⟩
theorem slices_pdqsortOrdered_int_ok {S : Nat → Prop} {F : List Nat} {cs : List Value} {v1_ : Value} {v2_ : Value} {v3_ : Value} {data : List Int} {a' : Int} {b' : Int} {limit : Int} {r : List Int} (hO : GoTy.own w0 F cs data) (hn : F.Nodup) (h1 : VR w0 S v1_ a') (h2 : VR w0 S v2_ b') (h3 : VR w0 S v3_ limit) (hF : slices_pdqsortOrdered_int fu data a' b' limit = some r) :
    Calls Try.prog 73 [(bif GoTy.agg (List Int) then .agg cs.toArray else cs.headD undef), v1_, v2_, v3_].toArray w0 fun e w' => ∃ v, e = .returned v ∧ (Chg w0 w' F ∧ v = .tuple #[] ∧ ∃ F', GoTy.own w' F' cs r ∧ Back w0 w' F F') := by
 obtain rfl := VR_int h1
 obtain rfl := VR_int h2
 obtain rfl := VR_int h3
 obtain ⟨A, c, rfl, hO⟩ := own_list hO
 have H := Mem.startG S hO hn
 obtain ⟨Fs, E, H, -⟩ := H.thaw rfl
 have H := H.rowSh 0 rfl
 refine en Try.func73 fun a hf => ?_
 rw [slices_pdqsortOrdered_int] at hF
 refine sqz (pz 1 hf fun a hf => ?_)
 refine wr (pz 1 hf fun a hf => ?_)
 refine wl_end (then_n ?_)
 obtain ⟨out', hB1, hF⟩ := bs_ hF
 have hf := hf.pn [0, 1, 2, 3, 8, 9]
 have H := H.lt_ [] [true] [] []
 refine loopC (fun (s : Unit) (a : Act) (w : World) => match s with | _ => Fr a 134 [(0, (.slice A data.length c)), (1, (.int .i64 a')), (2, (.int .i64 b')), (3, (.int .i64 limit)), (8, (.bool true)), (9, (.bool true))] ∧ Mem ⟨w0, F⟩ S [] [⟨.sh true, E, A, c, (data : List Int)⟩] [] [] w) (fun k (s : Unit) => slices_pdqsortOrdered_int_L1 fu data a' b' k = some out') (fun s => out' = Out.next s) () fu hB1 ⟨hf, H⟩ (fun s h => by cases h) ?_ ?_
 ·rintro fk _ a w hR1 hI
  replace hR1 : slices_pdqsortOrdered_int_L1 fu data a' b' (fk + 1) = some out' := hR1
  rw [slices_pdqsortOrdered_int_L1] at hR1
  obtain ⟨hf, H⟩ := hI
  refine wp_block (sqz (pz 4 hf fun a hf => ?_))
  refine we (sqz (pz 2 hf fun a hf => ?_))
  refine wl_end (then_n (ib hR1 hf (fun hc hR1 => ?_) fun hc hR1 => ?_))
  ·refine sqz (pz 3 hf fun a hf => ?_)
   have H := H.rowOwn 0 rfl rfl
   obtain ⟨F2, H⟩ := H.freezeOwn 0 rfl
   have H := H.lend 0 rfl
   obtain ⟨y, hy, hR1⟩ := bs_ hR1
   refine oc hf TF.cl99 (slices_insertionSortOrdered_int_ok (S := TT) (F := F2) (cs := [(.slice A data.length c)]) (H.ownAt 0 rfl) H.diNd.1 mk_int mk_int hy) fun v w a hp hf => ?_
   obtain ⟨hch, hv, F3, ho, hbk⟩ := hp
   subst hv
   have H := H.wrote rfl hch ho hbk
   have H := H.lend 0 rfl
   have hf := hf.pn []
   refine wl_end (then_n (wp_ret (then_r (blk_r (then_r (blk_r (then_r (?_))))))))
   obtain rfl := oi hR1
   replace hF := on_ret hF
   obtain rfl := oi hF
   refine ret_0r (fn := Try.f73) hf rfl ?_
   exact ⟨_, rfl, H.chg, rfl, _, H.ownAt 0 rfl, H.back⟩
  ·refine wp_skip (then_n (sq (sqz (pz 2 hf fun a hf => ?_))))
   refine wl_end (then_n ?_)
   cases hR1
 rintro a w ⟨_, rfl, hf, H⟩
 replace hF := on_next hF
 have H := H.rowOwn 0 rfl rfl
 obtain ⟨F', H⟩ := H.freezeOwn 0 rfl
 obtain rfl := oi hF
 refine ret_0 hf rfl ?_
 exact ⟨_, rfl, H.chg, rfl, _, H.ownAt 0 rfl, H.back⟩
theorem slices_Sort_int_int_ok {S : Nat → Prop} {F : List Nat} {cs : List Value} {x1 : List Int} {r : List Int} (hO : GoTy.own w0 F cs x1) (hn : F.Nodup) (hF : slices_Sort_int_int fu x1 = some r) :
    Calls Try.prog 34 [(bif GoTy.agg (List Int) then .agg cs.toArray else cs.headD undef)].toArray w0 fun e w' => ∃ v, e = .returned v ∧ (Chg w0 w' F ∧ v = .tuple #[] ∧ ∃ F', GoTy.own w' F' cs r ∧ Back w0 w' F F') := by
 obtain ⟨A, c, rfl, hO⟩ := own_list hO
 have H := Mem.startG S hO hn
 obtain ⟨Fs, E, H, -⟩ := H.thaw rfl
 have H := H.rowSh 0 rfl
 refine en Try.func34 fun a hf => ?_
 rw [slices_Sort_int_int] at hF
 refine sqz (pz 3 hf fun a hf => ?_)
 refine wl_end (then_n (reg (pz 3 hf fun a hf => ?_)))
 refine oq hf (rq_conv u64w Try.underlying3 Try.underlying105 hf rfl) fun a hf => ?_
 obtain ⟨y, hy, hF⟩ := bs_ hF
 refine oc hf TF.cl74 (math_bits_Len_ok (S := TT) (mk_u64 (x := (⟨wu64 (x1.length : Int)⟩ : U64))) hy) fun v w a hp hf => ?_
 obtain ⟨hb, hp⟩ := hp
 obtain rfl := VR_int hp
 have H := H.keep hb
 have H := H.rowOwn 0 rfl rfl
 obtain ⟨F2, H⟩ := H.freezeOwn 0 rfl
 have H := H.lend 0 rfl
 obtain ⟨y2, hy2, hF⟩ := bs_ hF
 refine oc hf TF.cl73 (slices_pdqsortOrdered_int_ok (S := TT) (F := F2) (cs := [(.slice A x1.length c)]) (H.ownAt 0 rfl) H.diNd.1 mk_int mk_int mk_int hy2) fun v2 w a hp2 hf => ?_
 obtain ⟨hch, hv, F3, ho, hbk⟩ := hp2
 subst hv
 have H := H.wrote rfl hch ho hbk
 have H := H.lend 0 rfl
 refine wl_end ?_
 obtain rfl := oi hF
 refine ret_0 hf rfl ?_
 exact ⟨_, rfl, H.chg, rfl, _, H.ownAt 0 rfl, H.back⟩
theorem slices_Compact_int_int_ok {S : Nat → Prop} {v0_ : Value} {s' : List Int} {r : List Int} (h0 : VR w0 S v0_ s') (hF : slices_Compact_int_int fu s' = some r) :
    Calls Try.prog 130 [v0_].toArray w0 fun e w' => ∃ v, e = .returned v ∧ (Below w0.heap.size w0 w' ∧ VR w' (St ⟨w0, []⟩ S [] [] [] false) v r) := by
 obtain ⟨A, c, rfl, hl⟩ := VR_list h0
 have H := Mem.start ⟨w0, []⟩ S
 have H := H.pA hl
 refine en Try.func130 fun a hf => ?_
 rw [slices_Compact_int_int] at hF
 refine sqz (pz 1 hf fun a hf => ?_)
 refine we (sqz (pz 3 hf fun a hf => ?_))
 refine wl_end (then_n (ib hF hf (fun hc hF => ?_) fun hc hF => ?_))
 ·refine sqz (pz 2 hf fun a hf => ?_)
  refine wl_end (then_n (wp_ret (then_r (?_))))
  obtain rfl := oi hF
  refine rT hf ?_
  exact ⟨_, rfl, H.bel, (mk_list (rep_end (α := List Int) (H.get 0 rfl)))⟩
 ·refine wp_skip (then_n (sq (sqz (pz 1 hf fun a hf => ?_))))
  refine wl_end (then_n ?_)
  obtain ⟨out', hB1, hF⟩ := bs_ hF
  have hf := hf.pn [0, 3]
  have H := H.lt_ [] [] [] [0]
  refine loopC (fun (s : Int) (a : Act) (w : World) => match s with | k' => Fr a 61 [(0, (.slice A s'.length c)), (3, (.int .i64 k'))] ∧ Mem ⟨w0, []⟩ S [] [] [] [(false, MP.val [(.slice A s'.length c)] (s' : List Int))] w) (fun k (s : Int) => slices_Compact_int_int_L1 fu s' k s = some out') (fun s => out' = Out.next s) 1 fu hB1 ⟨hf, H⟩ (fun s h => by cases h) ?_ ?_
  ·rintro fk k' a w hR1 hI
   replace hR1 : slices_Compact_int_int_L1 fu s' (fk + 1) k' = some out' := hR1
   rw [slices_Compact_int_int_L1] at hR1
   obtain ⟨hf, H⟩ := hI
   refine sq (sqz (pz 4 hf fun a hf => ?_))
   refine wl_end (then_n (ib hR1 hf (fun hc2 hR1 => ?_) fun hc2 hR1 => ?_))
   ·refine wp_skip (then_n (sq (wp_block (sq (dw [] 10 fun w hb => ?_)))))
    have H := H.keep hb
    refine zp 0 hf trivial fun a hf => ?_
    refine zp 1 hf trivial fun a hf => ?_
    obtain ⟨e, he, hR1⟩ := bs_ hR1
    obtain ⟨p, o, cs, hx, hr, H⟩ := pre_iaddr H Try.underlying31 TF.sz3 0 rfl he
    refine tP 2 rfl rfl rfl rfl hf (by kernel_rfl) (fun _ => trivial) (fun w => rq_iaddrE hf rfl rfl rfl hx w) fun a hf => ?_
    obtain rfl := hr
    refine strT (H.lt_ [] [] [] [0]) (fun w H => trivial) fun hS => ?_
    refine zS 3 [] rfl rfl rfl rfl hf hS (fun w H => rq_loadI hf H TF.ls3 0 0 rfl rfl rfl) fun a hf => ?_
    refine zp 4 hf hS fun a hf => ?_
    refine zp 5 hf hS fun a hf => ?_
    refine zp 6 hf hS fun a hf => ?_
    obtain ⟨e2, he2, hR1⟩ := bs_ hR1
    obtain ⟨p2, o2, cs2, hx2, hr2, H⟩ := pre_iaddr H Try.underlying31 TF.sz3 1 rfl he2
    refine zP 7 rfl rfl rfl rfl hf hS (fun w => rq_iaddrE hf rfl rfl rfl hx2 w) fun a hf => ?_
    obtain rfl := hr2
    refine strT (H.lt_ [] [] [] [0, 1]) (fun w H => H.lt_ [] [] [] [1]) fun hS => ?_
    refine zS 8 [] rfl rfl rfl rfl hf hS (fun w H => rq_loadI hf H TF.ls3 0 0 rfl rfl rfl) fun a hf => ?_
    refine zp 9 hf hS fun a hf => ?_
    refine dk ?_
    have hf := hf.pn [0, 3, 25]
    refine then_n (ib hR1 hf (fun hc3 hR1 => ?_) fun hc3 hR1 => ?_)
    ·cases hR1
    ·refine wp_skip (blk_n (then_n (reg (pz 3 hf fun a hf => ?_))))
     refine wl_end ?_
     have hf := hf.pn [0, 3]
     have H := H.lt_ [] [] [] [2]
     exact then_n ⟨w64 (k' + 1), hR1, hf, H⟩
   ·refine wp_exit (then_x (then_x (blk_e (?_))))
    have hf := hf.pn [0, 3]
    have H := H.lt_ [] [] [] [0]
    exact ⟨k', (Option.some.inj hR1).symm, hf, H⟩
  rintro a w ⟨k2, rfl, hf, H⟩
  replace hF := on_next hF
  refine then_n (sqz (pz 2 hf fun a hf => ?_))
  refine wer ?_
  obtain rfl := oi hF
  refine rT hf ?_
  exact ⟨_, rfl, H.bel, (mk_list (rep_end (α := List Int) (H.get 0 rfl)))⟩
theorem impl_common_ok {S : Nat → Prop} {v0_ : Value} {v1_ : Value} {a' : List Int} {b' : List Int} {r : List Int} (h0 : VR w0 S v0_ a') (h1 : VR w0 S v1_ b') (hF : impl_common fu a' b' = some r) :
    Calls Try.prog 120 [v0_, v1_].toArray w0 fun e w' => ∃ v, e = .returned v ∧ (Below w0.heap.size w0 w' ∧ VR w' (St ⟨w0, []⟩ S [] [] [] true) v r) := by
 obtain ⟨A, c, rfl, hl⟩ := VR_list h0
 obtain ⟨A2, c2, rfl, hl2⟩ := VR_list h1
 have H := Mem.start ⟨w0, []⟩ S
 have H := H.pA hl
 have H := H.pA hl2
 refine en Try.func120 fun a hf => ?_
 rw [impl_common] at hF
 refine sqz (pz 1 hf fun a hf => ?_)
 refine wr (wl0 rfl (bl hf H 3 ([] : List Int) [] el0 fun A3 a w hf H => ?_))
 refine pz 1 hf fun a hf => ?_
 refine we (sqz (pz 3 hf fun a hf => ?_))
 refine wl_end (then_n ?_)
 obtain ⟨out2, hB1, hF⟩ := bs_ hF
 have hf := hf.pn [1, 5, 9, 10, 11]
 have H := H.lt_ [] [true] [] [0, 1]
 refine loopC (fun (s : List Int × Int) (a : Act) (w : World) => match s with | (out', i) => ∃ (A4 : Option Addr) (c3 : Nat) (E : Go.TypeId), Fr a 27 [(1, (.slice A2 b'.length c2)), (5, (.slice A4 out'.length c3)), (9, (.slice A a'.length c)), (10, (.int .i64 (a'.length : Int))), (11, (.int .i64 i))] ∧ Mem ⟨w0, []⟩ S [] [⟨.sh true, E, A4, c3, (out' : List Int)⟩] [] [(false, MP.val [(.slice A2 b'.length c2)] (b' : List Int)), (false, MP.val [(.slice A a'.length c)] (a' : List Int))] w) (fun k (s : List Int × Int) => impl_common_L1 fu a' b' k s.1 s.2 = some out2) (fun s => out2 = s) (([] : List Int), 0) fu hB1 ⟨A3, 0, 3, hf, H⟩ (fun s h => by cases h) ?_ ?_
 ·rintro fk ⟨out', i⟩ a w hR1 hI
  replace hR1 : impl_common_L1 fu a' b' (fk + 1) out' i = some out2 := hR1
  rw [impl_common_L1] at hR1
  obtain ⟨A4, c3, E, hf, H⟩ := hI
  refine sqz (pz 1 hf fun a hf => ?_)
  refine wl_end (then_n (sq (ib hR1 hf (fun hc hR1 => ?_) fun hc hR1 => ?_)))
  ·refine wp_skip (then_n (sq (wp_block (sq (reg ?_)))))
   obtain ⟨e, he, hR1⟩ := bs_ hR1
   refine wl0 rfl (op_iaddr hf H Try.underlying31 TF.sz3 1 rfl rfl rfl he (by decide) fun p o cs a hf hr H => ?_)
   obtain rfl := hr
   refine oq hf (rq_loadI hf H TF.ls3 0 0 rfl rfl rfl) fun a hf => ?_
   refine pz 1 hf fun a hf => ?_
   refine wr (pz 2 hf fun a hf => ?_)
   obtain ⟨y, hy, hR1⟩ := bs_ hR1
   refine oc hf TF.cl26 (slices_Contains_int_int_ok (S := TT) (mk_list (H.rt 1 rfl)) mk_int hy) fun v w a hp hf => ?_
   obtain ⟨hb, hp⟩ := hp
   obtain rfl := VR_bool hp
   have H := H.keep hb
   refine wl_end (then_n (ib hR1 hf (fun hc2 hR1 => ?_) fun hc2 hR1 => ?_))
   ·refine reg (pz 2 hf fun a hf => ?_)
    refine wl0 rfl (bl hf H 3 ([e] : List Int) [(.int .i64 e)] (el1 (y := e) (rfl)) fun A5 a w hf H => ?_)
    obtain ⟨l, hl_, hR1⟩ := bs_ hR1
    refine wl0 rfl (op_appR hf H Try.underlying31 TF.ai3 rfl (by decide) 1 0 rfl rfl rfl rfl (.inr rfl) hl_ (by decide) fun E2 A6 c4 a w hf H => ?_)
    refine pz 1 hf fun a hf => ?_
    refine wl_end (blk_n (then_n (reg (pz 2 hf fun a hf => ?_))))
    refine wl_end ?_
    have hf := hf.pn [1, 5, 9, 10, 11]
    have H := H.lt_ [] [false, true] [] [1, 2]
    exact then_n ⟨(l, w64 (i + 1)), hR1, A6, c4, E2, hf, H⟩
   ·refine wp_skip (blk_n (then_n (reg (pz 2 hf fun a hf => ?_))))
    refine wl_end ?_
    have hf := hf.pn [1, 5, 9, 10, 11]
    have H := H.lt_ [] [true] [] [1, 2]
    exact then_n ⟨(out', w64 (i + 1)), hR1, A4, c3, E, hf, H⟩
  ·refine wp_exit (then_x (then_x (blk_e (?_))))
   have hf := hf.pn [1, 5, 9, 10, 11]
   have H := H.lt_ [] [true] [] [0, 1]
   exact ⟨(out', i), (Option.some.inj hR1).symm, A4, c3, E, hf, H⟩
 rintro a w ⟨⟨out3, i2⟩, rfl, A7, c5, E3, hf, H⟩
 try dsimp only at hF
 refine then_n (sqz (pz 1 hf fun a hf => ?_))
 have H := H.rowOwn 0 rfl rfl
 obtain ⟨F, H⟩ := H.freezeOwn 0 rfl
 have H := H.lend 0 rfl
 obtain ⟨y2, hy2, hF⟩ := bs_ hF
 refine oc hf TF.cl34 (slices_Sort_int_int_ok (S := TT) (F := F) (cs := [(.slice A7 out3.length c5)]) (H.ownAt 0 rfl) H.diNd.1 hy2) fun v2 w a hp2 hf => ?_
 obtain ⟨hch, hv, F2, ho, hbk⟩ := hp2
 subst hv
 have H := H.wrote rfl hch ho hbk
 have H := H.pA hl
 have H := H.pA hl2
 have H := H.lend 0 rfl
 refine wr (pz 1 hf fun a hf => ?_)
 obtain ⟨y3, hy3, hF⟩ := bs_ hF
 refine oc hf TF.cl130 (slices_Compact_int_int_ok (mk_list (H.get 0 rfl)) hy3) fun v3 w a hp3 hf => ?_
 obtain ⟨hb2, hp3⟩ := hp3
 obtain ⟨A8, c6, rfl, hl3⟩ := VR_list hp3
 replace hl3 := H.res (f := MP.val [(.slice A8 y3.length c6)] y3) hl3
 have H := H.keep hb2
 have H := H.pT hl3
 refine pz 1 hf fun a hf => ?_
 refine wer ?_
 obtain rfl := oi hF
 refine rT hf ?_
 exact ⟨_, rfl, H.bel, (mk_list (rep_end (α := List Int) (H.get 0 rfl)))⟩
theorem impl_conflict_ok {S : Nat → Prop} {v0_ : Value} {v1_ : Value} {a' : Request} {b' : Request} {r : Bool} (h0 : VR w0 S v0_ a') (h1 : VR w0 S v1_ b') (hF : impl_conflict fu a' b' = some r) :
    Calls Try.prog 91 [v0_, v1_].toArray w0 fun e w' => ∃ v, e = .returned v ∧ (Below w0.heap.size w0 w' ∧ VR w' (St ⟨w0, []⟩ S [] [] [] true) v r) := by
 obtain ⟨A, c, rfl, hl⟩ := Request_open h0
 obtain ⟨A2, c2, rfl, hl2⟩ := Request_open h1
 have H := Mem.start ⟨w0, []⟩ S
 have H := H.pA hl
 have H := H.pA hl2
 refine en Try.func91 fun a hf => ?_
 rw [impl_conflict] at hF
 refine bx hf H fun b2 a w hf H => ?_
 refine wl0 rfl (op_box hf H rfl rfl (by decide) fun b3 a w hf H => ?_)
 refine pz 1 hf fun a hf => ?_
 refine wr (pz 2 hf fun a hf => ?_)
 refine lB 1 hf H TF.ls31 fun a hf => ?_
 refine pz 2 hf fun a hf => ?_
 refine lB 0 hf H TF.ls31 fun a hf => ?_
 obtain ⟨y, hy, hF⟩ := bs_ hF
 refine oc hf TF.cl120 (impl_common_ok (S := TT) (mk_list (H.rt 1 rfl)) (mk_list (H.rt 0 rfl)) hy) fun v w a hp hf => ?_
 obtain ⟨hb, hp⟩ := hp
 obtain ⟨A3, c3, rfl, hl3⟩ := VR_list hp
 replace hl3 := H.rF hl3
 have H := H.keep hb
 have H := H.pT hl3
 refine pz 3 hf fun a hf => ?_
 have hf := hf.pn [4]
 refine wer ?_
 obtain rfl := oi hF
 refine rT hf ?_
 exact ⟨_, rfl, H.bel, mk_bool⟩
theorem impl_isClique_ok {S : Nat → Prop} {v0_ : Value} {v1_ : Value} {list : List Request} {set : Int} {r : Bool} (h0 : VR w0 S v0_ list) (h1 : VR w0 S v1_ set) (hF : impl_isClique fu list set = some r) :
    Calls Try.prog 70 [v0_, v1_].toArray w0 fun e w' => ∃ v, e = .returned v ∧ (Below w0.heap.size w0 w' ∧ VR w' (St ⟨w0, []⟩ S [] [] [] true) v r) := by
 obtain ⟨A, c, rfl, hl⟩ := VR_list h0
 obtain rfl := VR_int h1
 have H := Mem.start ⟨w0, []⟩ S
 have H := H.pA hl
 refine en Try.func70 fun a hf => ?_
 rw [impl_isClique] at hF
 refine sqz (pz 1 hf fun a hf => ?_)
 refine we (sqz (pz 3 hf fun a hf => ?_))
 refine wl_end (then_n ?_)
 obtain ⟨out', hB1, hF⟩ := bs_ hF
 have hf := hf.pn [0, 1, 8, 9]
 have H := H.lt_ [] [] [] [0]
 refine loopC (fun (s : Int) (a : Act) (w : World) => match s with | i => Fr a 42 [(0, (.slice A list.length c)), (1, (.int .i64 set)), (8, (.int .i64 (list.length : Int))), (9, (.int .i64 i))] ∧ Mem ⟨w0, []⟩ S [] [] [] [(false, MP.val [(.slice A list.length c)] (list : List Request))] w) (fun k (s : Int) => impl_isClique_L1 fu list set k s = some out') (fun s => out' = Out.next s) 0 fu hB1 ⟨hf, H⟩ (fun s h => by cases h) ?_ ?_
 ·rintro fk i a w hR1 hI
  replace hR1 : impl_isClique_L1 fu list set (fk + 1) i = some out' := hR1
  rw [impl_isClique_L1] at hR1
  obtain ⟨hf, H⟩ := hI
  refine sqz (pz 1 hf fun a hf => ?_)
  refine wl_end (then_n (sq (ib hR1 hf (fun hc hR1 => ?_) fun hc hR1 => ?_)))
  ·refine ws (pz 2 hf fun a hf => ?_)
   refine wr (pz 2 hf fun a hf => ?_)
   refine wl_end (then_n ?_)
   obtain ⟨out2, hB2, hR1⟩ := bs_ hR1
   have hf := hf.pn [0, 1, 5, 8, 9, 12, 13]
   have H := H.lt_ [] [] [] [0]
   refine loopC (fun (s : Int) (a : Act) (w : World) => match s with | i2 => Fr a 42 [(0, (.slice A list.length c)), (1, (.int .i64 set)), (5, (.int .i64 i)), (8, (.int .i64 (list.length : Int))), (9, (.int .i64 i)), (12, (.int .i64 i)), (13, (.int .i64 i2))] ∧ Mem ⟨w0, []⟩ S [] [] [] [(false, MP.val [(.slice A list.length c)] (list : List Request))] w) (fun k (s : Int) => impl_isClique_L2 fu list set i k s = some out2) (fun s => out2 = Out.next s) 0 fu hB2 ⟨hf, H⟩ (fun s h => by cases h) ?_ ?_
   ·rintro fk i2 a w hR2 hI
    replace hR2 : impl_isClique_L2 fu list set i (fk + 1) i2 = some out2 := hR2
    rw [impl_isClique_L2] at hR2
    obtain ⟨hf, H⟩ := hI
    refine sqz (pz 1 hf fun a hf => ?_)
    refine wl_end (then_n (sq (ib hR2 hf (fun hc2 hR2 => ?_) fun hc2 hR2 => ?_)))
    ·refine ws (pz 2 hf fun a hf => ?_)
     refine wl_end (then_n (sq ?_))
     obtain ⟨c2, hGc2, hR2⟩ := bs_ hR2
     have fh := hf.prune [0, 1, 5, 8, 9, 12, 13] rfl
     have Hm := H.lt_ [] [] [] [0]
     refine midF 39 (.bool c2) fh Hm ?_ fun a w hf H => ?_
     ·refine dw [] 24 fun w hb => ?_
      have H := H.keep hb
      refine zp 0 hf trivial fun a hf => ?_
      refine zp 1 hf trivial fun a hf => ?_
      obtain ⟨q, hq, hGc2⟩ := bs_ hGc2
      refine tP 2 rfl rfl rfl rfl hf (by kernel_rfl) (fun _ => trivial) (fun w => rq_shr hf rfl rfl hq) fun a hf => ?_
      refine zp 3 hf trivial fun a hf => ?_
      refine zp 4 hf trivial fun a hf => ?_
      refine zp 5 hf trivial fun a hf => ?_
      refine iteB hGc2 (fun hc3 hGc2 => ?_) fun hc3 hGc2 => ?_
      ·have hf := hf.lit 21 rfl hc3
       refine zg 6 hf trivial fun a hf => ?_
       refine zg 7 hf trivial fun a hf => ?_
       obtain ⟨q2, hq2, hGc2⟩ := bs_ hGc2
       refine tPg 8 rfl rfl rfl rfl rfl rfl hf (by kernel_rfl) (fun _ => trivial) (fun w => rq_shr hf rfl rfl hq2) fun a hf => ?_
       refine zg 9 hf trivial fun a hf => ?_
       refine zg 10 hf trivial fun a hf => ?_
       refine zp 11 hf trivial fun a hf => ?_
       refine zp 12 hf trivial fun a hf => ?_
       refine iteB hGc2 (fun hc4 hGc2 => ?_) fun hc4 hGc2 => ?_
       ·have hf := hf.lit 28 rfl hc4
        refine zg 13 hf trivial fun a hf => ?_
        refine zg 14 hf trivial fun a hf => ?_
        obtain ⟨e, he, hGc2⟩ := bs_ hGc2
        obtain ⟨p, o, cs, hx, hr, H⟩ := pre_iaddr H Try.underlying28 TF.sz89 0 rfl he
        refine tPg 15 rfl rfl rfl rfl rfl rfl hf (by kernel_rfl) (fun _ => trivial) (fun w => rq_iaddrE hf rfl rfl rfl hx w) fun a hf => ?_
        obtain ⟨A2, c3, rfl, hl2⟩ := Request_cells hr
        have H := H.pF hl2
        refine strT (H.lt_ [] [] [] [1]) (fun w H => trivial) fun hS => ?_
        refine tSg 16 [] rfl rfl rfl rfl rfl rfl hf (by kernel_rfl) (by kernel_rfl) hS (fun w H => rq_loadIN hf H TF.la89 0 0 rfl rfl rfl rfl) fun a hf => ?_
        refine zg 17 hf hS fun a hf => ?_
        refine zg 18 hf hS fun a hf => ?_
        obtain ⟨e2, he2, hGc2⟩ := bs_ hGc2
        obtain ⟨p2, o2, cs2, hx2, hr2, H⟩ := pre_iaddr H Try.underlying28 TF.sz89 2 rfl he2
        refine tPg 19 rfl rfl rfl rfl rfl rfl hf (by kernel_rfl) (fun _ => hS) (fun w => rq_iaddrE hf rfl rfl rfl hx2 w) fun a hf => ?_
        obtain ⟨A3, c4, rfl, hl3⟩ := Request_cells hr2
        have H := H.pF hl3
        refine strT (H.lt_ [] [] [] [1, 3]) (fun w H => H.lt_ [] [] [] [1]) fun hS => ?_
        refine tSg 20 [] rfl rfl rfl rfl rfl rfl hf (by kernel_rfl) (by kernel_rfl) hS (fun w H => rq_loadIN hf H TF.la89 0 0 rfl rfl rfl rfl) fun a hf => ?_
        obtain ⟨y, hy, hGc2⟩ := bs_ hGc2
        refine n1g 21 (by kernel_rfl) rfl rfl rfl rfl hf (oC hf TF.cl91 (impl_conflict_ok (S := TT) (Request_mkv (x := e) (H.rt 2 rfl)) (Request_mkv (x := e2) (H.rt 0 rfl)) hy) fun v w a hp hf => ?_)
        obtain ⟨hb, hp⟩ := hp
        obtain rfl := VR_bool hp
        have H := H.keep hb
        have hS := H.lt_ [] [] [] [1, 3]
        refine aS hS ?_
        refine zg 22 hf hS fun a hf => ?_
        refine zp 23 hf hS fun a hf => ?_
        refine dk ?_
        obtain rfl := oi hGc2
        have hf := hf.pn [39, 0, 1, 5, 8, 9, 12, 13]
        have H := H.lt_ [] [] [] [4]
        exact ⟨hf, H⟩
       ·have hf := hf.lit 28 rfl hc4
        refine zU 13 hf trivial fun a hf => ?_
        refine zU 14 hf trivial fun a hf => ?_
        refine zU 15 hf trivial fun a hf => ?_
        refine zU 16 hf trivial fun a hf => ?_
        refine zU 17 hf trivial fun a hf => ?_
        refine zU 18 hf trivial fun a hf => ?_
        refine zU 19 hf trivial fun a hf => ?_
        refine zU 20 hf trivial fun a hf => ?_
        refine zU 21 hf trivial fun a hf => ?_
        refine zU 22 hf trivial fun a hf => ?_
        refine zp 23 hf trivial fun a hf => ?_
        refine dk ?_
        obtain rfl := oi hGc2
        have hf := hf.pn [39, 0, 1, 5, 8, 9, 12, 13]
        have H := H.lt_ [] [] [] [0]
        exact ⟨hf, H⟩
      ·have hf := hf.lit 21 rfl hc3
       refine zU 6 hf trivial fun a hf => ?_
       refine zU 7 hf trivial fun a hf => ?_
       refine zU 8 hf trivial fun a hf => ?_
       refine zU 9 hf trivial fun a hf => ?_
       refine zU 10 hf trivial fun a hf => ?_
       refine zp 11 hf trivial fun a hf => ?_
       refine zp 12 hf trivial fun a hf => ?_
       refine zU 13 hf trivial fun a hf => ?_
       refine zU 14 hf trivial fun a hf => ?_
       refine zU 15 hf trivial fun a hf => ?_
       refine zU 16 hf trivial fun a hf => ?_
       refine zU 17 hf trivial fun a hf => ?_
       refine zU 18 hf trivial fun a hf => ?_
       refine zU 19 hf trivial fun a hf => ?_
       refine zU 20 hf trivial fun a hf => ?_
       refine zU 21 hf trivial fun a hf => ?_
       refine zU 22 hf trivial fun a hf => ?_
       refine zp 23 hf trivial fun a hf => ?_
       refine dk ?_
       obtain rfl := oi hGc2
       have hf := hf.pn [39, 0, 1, 5, 8, 9, 12, 13]
       have H := H.lt_ [] [] [] [0]
       exact ⟨hf, H⟩
     refine then_n (ib hR2 hf (fun hc5 hR2 => ?_) fun hc5 hR2 => ?_)
     ·refine sqz (pz 1 hf fun a hf => ?_)
      refine wl_end (then_n (wp_ret (blk_r (then_r (then_r (blk_r (then_r (blk_r (then_r (then_r (blk_r (then_r (then_r (?_))))))))))))))
      obtain rfl := oi hR2
      replace hR1 := on_ret hR1
      obtain rfl := oi hR1
      replace hF := on_ret hF
      obtain rfl := oi hF
      refine rT hf ?_
      exact ⟨_, rfl, H.bel, mk_bool⟩
     ·refine wp_skip (blk_n (then_n (reg (pz 2 hf fun a hf => ?_))))
      refine wl_end ?_
      have hf := hf.pn [0, 1, 5, 8, 9, 12, 13]
      have H := H.lt_ [] [] [] [0]
      exact then_n ⟨w64 (i2 + 1), hR2, hf, H⟩
    ·refine wp_exit (then_x (then_x (blk_e (?_))))
     have hf := hf.pn [0, 1, 5, 8, 9, 12, 13]
     have H := H.lt_ [] [] [] [0]
     exact ⟨i2, (Option.some.inj hR2).symm, hf, H⟩
   rintro a w ⟨i3, rfl, hf, H⟩
   replace hR1 := on_next hR1
   refine blk_n (then_n (reg (pz 2 hf fun a hf => ?_)))
   refine wl_end ?_
   have hf := hf.pn [0, 1, 8, 9]
   have H := H.lt_ [] [] [] [0]
   exact then_n ⟨w64 (i + 1), hR1, hf, H⟩
  ·refine wp_exit (then_x (then_x (blk_e (?_))))
   have hf := hf.pn [0, 1, 8, 9]
   have H := H.lt_ [] [] [] [0]
   exact ⟨i, (Option.some.inj hR1).symm, hf, H⟩
 rintro a w ⟨i4, rfl, hf, H⟩
 replace hF := on_next hF
 refine then_n (sqz (pz 1 hf fun a hf => ?_))
 refine wer ?_
 obtain rfl := oi hF
 refine rT hf ?_
 exact ⟨_, rfl, H.bel, mk_bool⟩
theorem impl_cliqueBound_ok {S : Nat → Prop} {v0_ : Value} {list : List Request} {r : Int × Int} (h0 : VR w0 S v0_ list) (hF : impl_cliqueBound fu list = some r) :
    Calls Try.prog 31 [v0_].toArray w0 fun e w' => ∃ v, e = .returned v ∧ (Below w0.heap.size w0 w' ∧ ∃ u0 u1, v = .tuple #[u0, u1] ∧ VR w' (St ⟨w0, []⟩ S [] [] [] true) u0 r.1 ∧ VR w' (St ⟨w0, []⟩ S [] [] [] true) u1 r.2) := by
 obtain ⟨A, c, rfl, hl⟩ := VR_list h0
 have H := Mem.start ⟨w0, []⟩ S
 have H := H.pA hl
 refine en Try.func31 fun a hf => ?_
 rw [impl_cliqueBound] at hF
 refine sqz (pz 2 hf fun a hf => ?_)
 refine wr (pz 2 hf fun a hf => ?_)
 refine we (sqz (pz 2 hf fun a hf => ?_))
 obtain ⟨q, hq, hF⟩ := bs_ hF
 refine oq hf (rq_shl hf rfl rfl hq) fun a hf => ?_
 refine pz 1 hf fun a hf => ?_
 refine wl_end (then_n ?_)
 obtain ⟨out', hB1, hF⟩ := bs_ hF
 have hf := hf.pn [0, 4, 5, 12, 13]
 have H := H.lt_ [] [] [] [0]
 refine loopC (fun (s : Int × Int × Int) (a : Act) (w : World) => match s with | (most, i, best) => Fr a 46 [(0, (.slice A list.length c)), (4, (.int .i64 most)), (5, (.int .i64 best)), (12, (.int .i64 q)), (13, (.int .i64 i))] ∧ Mem ⟨w0, []⟩ S [] [] [] [(false, MP.val [(.slice A list.length c)] (list : List Request))] w) (fun k (s : Int × Int × Int) => impl_cliqueBound_L1 fu list q k s.1 s.2.1 s.2.2 = some out') (fun s => out' = s) (0, 0, 0) fu hB1 ⟨hf, H⟩ (fun s h => by cases h) ?_ ?_
 ·rintro fk ⟨most, i, best⟩ a w hR1 hI
  replace hR1 : impl_cliqueBound_L1 fu list q (fk + 1) most i best = some out' := hR1
  rw [impl_cliqueBound_L1] at hR1
  obtain ⟨hf, H⟩ := hI
  refine sqz (pz 1 hf fun a hf => ?_)
  refine wl_end (then_n (sq (ib hR1 hf (fun hc hR1 => ?_) fun hc hR1 => ?_)))
  ·refine ws (pz 2 hf fun a hf => ?_)
   refine wr (pz 1 hf fun a hf => ?_)
   refine we (sqz (pz 3 hf fun a hf => ?_))
   refine wl_end (then_n ?_)
   obtain ⟨out2, hB2, hR1⟩ := bs_ hR1
   have hf := hf.pn [0, 4, 5, 6, 7, 12, 13, 16, 17, 18]
   have H := H.lt_ [] [] [] [0]
   refine loopC (fun (s : Int × Int) (a : Act) (w : World) => match s with | (sum, i2) => Fr a 46 [(0, (.slice A list.length c)), (4, (.int .i64 most)), (5, (.int .i64 best)), (6, (.int .i64 i)), (7, (.int .i64 sum)), (12, (.int .i64 q)), (13, (.int .i64 i)), (16, (.slice A list.length c)), (17, (.int .i64 (list.length : Int))), (18, (.int .i64 i2))] ∧ Mem ⟨w0, []⟩ S [] [] [] [(false, MP.val [(.slice A list.length c)] (list : List Request))] w) (fun k (s : Int × Int) => impl_cliqueBound_L2 fu list i k s.1 s.2 = some out2) (fun s => out2 = s) (0, 0) fu hB2 ⟨hf, H⟩ (fun s h => by cases h) ?_ ?_
   ·rintro fk ⟨sum, i2⟩ a w hR2 hI
    replace hR2 : impl_cliqueBound_L2 fu list i (fk + 1) sum i2 = some out2 := hR2
    rw [impl_cliqueBound_L2] at hR2
    obtain ⟨hf, H⟩ := hI
    refine sqz (pz 1 hf fun a hf => ?_)
    refine wl_end (then_n (sq (ib hR2 hf (fun hc2 hR2 => ?_) fun hc2 hR2 => ?_)))
    ·refine ws (pz 1 hf fun a hf => ?_)
     obtain ⟨e, he, hR2⟩ := bs_ hR2
     refine wl0 rfl (op_iaddr hf H Try.underlying28 TF.sz89 0 rfl rfl rfl he (by decide) fun p o cs a hf hr H => ?_)
     obtain ⟨A2, c2, rfl, hl2⟩ := Request_cells hr
     have H := H.pF hl2
     refine oq hf (rq_loadIN hf H TF.la89 1 0 rfl rfl rfl rfl) fun a hf => ?_
     refine aL hf H TF.zv89 fun b' a w hf H => ?_
     refine pz 1 hf fun a hf => ?_
     refine sB 0 hf H TF.sz89 fun w H => ?_
     refine wr (pz 2 hf fun a hf => ?_)
     obtain ⟨q2, hq2, hR2⟩ := bs_ hR2
     refine oq hf (rq_shr hf rfl rfl hq2) fun a hf => ?_
     refine pz 2 hf fun a hf => ?_
     refine wl_end (then_n (ib hR2 hf (fun hc3 hR2 => ?_) fun hc3 hR2 => ?_))
     ·refine reg (pz 2 hf fun a hf => ?_)
      refine lB 0 hf H TF.ls3 fun a hf => ?_
      refine pz 2 hf fun a hf => ?_
      have hf := hf.pn [0, 4, 5, 6, 7, 12, 13, 16, 17, 18]
      refine wl_end (blk_n (then_n (reg (pz 2 hf fun a hf => ?_))))
      refine wl_end ?_
      have hf := hf.pn [0, 4, 5, 6, 7, 12, 13, 16, 17, 18]
      have H := H.lt_ [false] [] [] [2]
      exact then_n ⟨(w64 (sum + e.Count), w64 (i2 + 1)), hR2, hf, H⟩
     ·refine wp_skip (blk_n (then_n (reg (pz 2 hf fun a hf => ?_))))
      refine wl_end ?_
      have hf := hf.pn [0, 4, 5, 6, 7, 12, 13, 16, 17, 18]
      have H := H.lt_ [false] [] [] [2]
      exact then_n ⟨(sum, w64 (i2 + 1)), hR2, hf, H⟩
    ·refine wp_exit (then_x (then_x (blk_e (?_))))
     have hf := hf.pn [0, 4, 5, 6, 7, 12, 13, 16, 17, 18]
     have H := H.lt_ [] [] [] [0]
     exact ⟨(sum, i2), (Option.some.inj hR2).symm, hf, H⟩
   rintro a w ⟨⟨sum2, i3⟩, rfl, hf, H⟩
   try dsimp only at hR1
   refine then_n (sq ?_)
   obtain ⟨c3, hGc3, hR1⟩ := bs_ hR1
   have fh := hf.prune [0, 4, 5, 6, 7, 12, 13] rfl
   have Hm := H.lt_ [] [] [] [0]
   refine midF 40 (.bool c3) fh Hm ?_ fun a w hf H => ?_
   ·refine reg (pz 4 hf fun a hf => ?_)
    refine iteB hGc3 (fun hc4 hGc3 => ?_) fun hc4 hGc3 => ?_
    ·have hf := hf.lit 36 rfl hc4
     refine pz 2 hf fun a hf => ?_
     obtain ⟨y, hy, hGc3⟩ := bs_ hGc3
     refine wlg hf rfl rfl rfl (oC hf TF.cl70 (impl_isClique_ok (S := TT) (mk_list (H.rt 0 rfl)) mk_int hy) fun v w a hp hf => ?_)
     obtain ⟨hb, hp⟩ := hp
     obtain rfl := VR_bool hp
     have H := H.keep hb
     refine pz 1 hf fun a hf => ?_
     obtain rfl := oi hGc3
     have hf := hf.pn [40, 0, 4, 5, 6, 7, 12, 13]
     have H := H.lt_ [] [] [] [0]
     exact wl_end ⟨hf, H⟩
    ·have hf := hf.lit 36 rfl hc4
     refine pz 4 hf fun a hf => ?_
     obtain rfl := oi hGc3
     have hf := hf.pn [40, 0, 4, 5, 6, 7, 12, 13]
     have H := H.lt_ [] [] [] [0]
     exact wl_end ⟨hf, H⟩
   refine then_n (ib hR1 hf (fun hc5 hR1 => ?_) fun hc5 hR1 => ?_)
   ·refine reg (pz 4 hf fun a hf => ?_)
    refine wl_end (blk_n (then_n (reg (pz 2 hf fun a hf => ?_))))
    refine wl_end ?_
    have hf := hf.pn [0, 4, 5, 12, 13]
    have H := H.lt_ [] [] [] [0]
    exact then_n ⟨(sum2, w64 (i + 1), i), hR1, hf, H⟩
   ·refine wp_skip (blk_n (then_n (reg (pz 2 hf fun a hf => ?_))))
    refine wl_end ?_
    have hf := hf.pn [0, 4, 5, 12, 13]
    have H := H.lt_ [] [] [] [0]
    exact then_n ⟨(most, w64 (i + 1), best), hR1, hf, H⟩
  ·refine wp_exit (then_x (then_x (blk_e (?_))))
   have hf := hf.pn [0, 4, 5, 12, 13]
   have H := H.lt_ [] [] [] [0]
   exact ⟨(most, i, best), (Option.some.inj hR1).symm, hf, H⟩
 rintro a w ⟨⟨most2, i4, best2⟩, rfl, hf, H⟩
 try dsimp only at hF
 refine then_n (sqz (pz 4 hf fun a hf => ?_))
 refine wer ?_
 obtain rfl := oi hF
 refine ret_2 hf rfl (rv_tmp hf rfl) (rv_tmp hf rfl) ?_
 exact ⟨_, rfl, H.bel, _, _, rfl, mk_int, mk_int⟩
theorem impl_assignedTo_c1c1_ok {S : Nat → Prop} {v0_ : Value} {b1 o1 : Nat} {cs1 : List Value} {k' : Int} {cap : Int} {r : Bool} (h0 : VR w0 S v0_ k') (hp1 : (MP.cells ⟨b1, o1, none⟩ cs1).pred w0 S) (hr1 : GoTy.rep w0 S cs1 cap) (hF : impl_assignedTo_c1c1 fu k' cap = some r) :
    Calls Try.prog 72 [v0_, (.pointer (some ⟨b1, o1, none⟩))].toArray w0 fun e w' => ∃ v, e = .returned v ∧ (Below w0.heap.size w0 w' ∧ VR w' (St ⟨w0, []⟩ S [] [] [] true) v r) := by
 obtain rfl := VR_int h0
 obtain rfl := hr1
 have H := Mem.start ⟨w0, []⟩ S
 have H := H.pushArg (MP.cells ⟨b1, o1, none⟩ [(.int .i64 cap)]) hp1
 refine en Try.func72 fun a hf => ?_
 rw [impl_assignedTo_c1c1] at hF
 refine sqz (pz 1 hf fun a hf => ?_)
 refine wr (pz 1 hf fun a hf => ?_)
 refine oq hf (rq_loadI hf H TF.ls3 0 0 rfl rfl rfl) fun a hf => ?_
 refine pz 2 hf fun a hf => ?_
 refine wer ?_
 obtain rfl := oi hF
 refine rT hf ?_
 exact ⟨_, rfl, H.bel, mk_bool⟩
theorem impl_maskOf_ok {S : Nat → Prop} {v0_ : Value} {b' : Block} {r : Int} (h0 : VR w0 S v0_ b') (hF : impl_maskOf fu b' = some r) :
    Calls Try.prog 92 [v0_].toArray w0 fun e w' => ∃ v, e = .returned v ∧ (Below w0.heap.size w0 w' ∧ VR w' (St ⟨w0, []⟩ S [] [] [] true) v r) := by
 obtain rfl := Block_open h0
 have H := Mem.start ⟨w0, []⟩ S
 refine en Try.func92 fun a hf => ?_
 rw [impl_maskOf] at hF
 refine bx hf H fun b2 a w hf H => ?_
 refine pz 1 hf fun a hf => ?_
 refine wl_end (then_n (sq (dw [] 8 fun w hb => ?_)))
 have H := H.keep hb
 refine zp 0 hf trivial fun a hf => ?_
 refine strT H (fun w H => trivial) fun hS => ?_
 refine zS 1 [] rfl rfl rfl rfl hf hS (fun w H => rq_loadB hf H TF.ls3 0 rfl rfl rfl) fun a hf => ?_
 obtain ⟨q, hq, hF⟩ := bs_ hF
 refine zP 2 rfl rfl rfl rfl hf hS (fun w => rq_shl hf rfl rfl hq) fun a hf => ?_
 refine zp 3 hf hS fun a hf => ?_
 refine zp 4 hf hS fun a hf => ?_
 refine zS 5 [] rfl rfl rfl rfl hf hS (fun w H => rq_loadB hf H TF.ls3 0 rfl rfl rfl) fun a hf => ?_
 obtain ⟨q2, hq2, hF⟩ := bs_ hF
 refine zP 6 rfl rfl rfl rfl hf hS (fun w => rq_shl hf rfl rfl hq2) fun a hf => ?_
 refine zp 7 hf hS fun a hf => ?_
 refine dk ?_
 refine then_n (wp_ret (?_))
 obtain rfl := oi hF
 refine rT hf ?_
 exact ⟨_, rfl, H.bel, mk_int⟩
theorem impl_isFree_of_assignedTo_c1c1_ok {S : Nat → Prop} {v0_ : Value} {v1_ : Value} {v2_ : Value} {v3_ : Value} {b4_0 o4_0 : Nat} {cs4_0 : List Value} {list : List Request} {blocks : List Block} {i : Int} {b6 : Block} {cap : Int} {r : Bool} (h0 : VR w0 S v0_ list) (h1 : VR w0 S v1_ blocks) (h2 : VR w0 S v2_ i) (h3 : VR w0 S v3_ b6) (hp4_0 : (MP.cells ⟨b4_0, o4_0, none⟩ cs4_0).pred w0 S) (hr4_0 : GoTy.rep w0 S cs4_0 cap) (hF : impl_isFree_of_assignedTo_c1c1 fu list blocks i b6 cap = some r) :
    Calls Try.prog 59 [v0_, v1_, v2_, v3_, (.func (.func 72) #[] #[(.pointer (some ⟨b4_0, o4_0, none⟩))])].toArray w0 fun e w' => ∃ v, e = .returned v ∧ (Below w0.heap.size w0 w' ∧ VR w' (St ⟨w0, []⟩ S [] [] [] true) v r) := by
 obtain ⟨A, c, rfl, hl⟩ := VR_list h0
 obtain ⟨A2, c2, rfl, hl2⟩ := VR_list h1
 obtain rfl := VR_int h2
 obtain rfl := Block_open h3
 obtain rfl := hr4_0
 have H := Mem.start ⟨w0, []⟩ S
 have H := H.pA hl
 have H := H.pA hl2
 have H := H.pushArg (MP.cells ⟨b4_0, o4_0, none⟩ [(.int .i64 cap)]) hp4_0
 refine en Try.func59 fun a hf => ?_
 rw [impl_isFree_of_assignedTo_c1c1] at hF
 refine bx hf H fun b7 a w hf H => ?_
 refine pz 1 hf fun a hf => ?_
 refine we (sqz (pz 3 hf fun a hf => ?_))
 refine wl_end (then_n ?_)
 obtain ⟨out', hB1, hF⟩ := bs_ hF
 have hf := hf.pn [0, 1, 2, 4, 8, 13, 14]
 have H := H.lt_ [true] [] [] [0, 1, 2]
 refine loopC (fun (s : Int) (a : Act) (w : World) => match s with | i2 => Fr a 48 [(0, (.slice A list.length c)), (1, (.slice A2 blocks.length c2)), (2, (.int .i64 i)), (4, (.func (.func 72) #[] #[(.pointer (some ⟨b4_0, o4_0 + 0, none⟩))])), (8, (.pointer (some ⟨b7, 0, none⟩))), (13, (.int .i64 (list.length : Int))), (14, (.int .i64 i2))] ∧ Mem ⟨w0, []⟩ S [⟨b7, 94, [(.int .i64 b6.First), (.int .i64 b6.Count)]⟩] [] [] [(false, MP.cells ⟨b4_0, o4_0, none⟩ [(.int .i64 cap)]), (false, MP.val [(.slice A2 blocks.length c2)] (blocks : List Block)), (false, MP.val [(.slice A list.length c)] (list : List Request))] w) (fun k (s : Int) => impl_isFree_of_assignedTo_c1c1_L1 fu list blocks i b6 cap k s = some out') (fun s => out' = Out.next s) 0 fu hB1 ⟨hf, H⟩ (fun s h => by cases h) ?_ ?_
 ·rintro fk i2 a w hR1 hI
  replace hR1 : impl_isFree_of_assignedTo_c1c1_L1 fu list blocks i b6 cap (fk + 1) i2 = some out' := hR1
  rw [impl_isFree_of_assignedTo_c1c1_L1] at hR1
  obtain ⟨hf, H⟩ := hI
  refine sqz (pz 1 hf fun a hf => ?_)
  refine wl_end (then_n (sq (ib hR1 hf (fun hc hR1 => ?_) fun hc hR1 => ?_)))
  ·refine ws (pz 2 hf fun a hf => ?_)
   refine wl_end (then_n (sq ?_))
   obtain ⟨c3, hGc3, hR1⟩ := bs_ hR1
   have fh := hf.prune [0, 1, 2, 4, 8, 13, 14] rfl
   have Hm := H.lt_ [true] [] [] [0, 1, 2]
   refine midF 46 (.bool c3) fh Hm ?_ fun a w hf H => ?_
   ·refine dw [] 30 fun w hb => ?_
    have H := H.keep hb
    refine zp 0 hf trivial fun a hf => ?_
    refine zp 1 hf trivial fun a hf => ?_
    refine zp 2 hf trivial fun a hf => ?_
    refine zp 3 hf trivial fun a hf => ?_
    refine iteB hGc3 (fun hc2 hGc3 => ?_) fun hc2 hGc3 => ?_
    ·have hf := hf.lit 20 rfl hc2
     refine zg 4 hf trivial fun a hf => ?_
     refine zg 5 hf trivial fun a hf => ?_
     obtain ⟨y, hy, hGc3⟩ := bs_ hGc3
     refine n1g 6 (by kernel_rfl) rfl rfl rfl rfl hf (op_callV hf TF.cl72 rfl rfl (by decide) (impl_assignedTo_c1c1_ok (S := TT) mk_int (mp_true (H.get 0 rfl)) (rfl) hy) fun v w a hp6 hf => ?_)
     obtain ⟨hb, hp6⟩ := hp6
     obtain rfl := VR_bool hp6
     have H := H.keep hb
     refine ⟨fun _ => trivial, ?_⟩
     refine zp 7 hf trivial fun a hf => ?_
     refine zp 8 hf trivial fun a hf => ?_
     refine iteB hGc3 (fun hc3 hGc3 => ?_) fun hc3 hGc3 => ?_
     ·have hf := hf.lit 25 rfl hc3
      refine zg 9 hf trivial fun a hf => ?_
      refine zg 10 hf trivial fun a hf => ?_
      obtain ⟨e, he, hGc3⟩ := bs_ hGc3
      obtain ⟨p, o6, cs6, hx, hr6, H⟩ := pre_iaddr H Try.underlying28 TF.sz89 2 rfl he
      refine tPg 11 rfl rfl rfl rfl rfl rfl hf (by kernel_rfl) (fun _ => trivial) (fun w => rq_iaddrE hf rfl rfl rfl hx w) fun a hf => ?_
      obtain ⟨A3, c4, rfl, hl3⟩ := Request_cells hr6
      have H := H.pF hl3
      refine strT (H.lt_ [false] [] [] [1]) (fun w H => trivial) fun hS => ?_
      refine tSg 12 [] rfl rfl rfl rfl rfl rfl hf (by kernel_rfl) (by kernel_rfl) hS (fun w H => rq_loadIN hf H TF.la89 0 0 rfl rfl rfl rfl) fun a hf => ?_
      refine zg 13 hf hS fun a hf => ?_
      refine zg 14 hf hS fun a hf => ?_
      obtain ⟨e2, he2, hGc3⟩ := bs_ hGc3
      obtain ⟨p2, o7, cs7, hx2, hr7, H⟩ := pre_iaddr H Try.underlying28 TF.sz89 4 rfl he2
      refine tPg 15 rfl rfl rfl rfl rfl rfl hf (by kernel_rfl) (fun _ => hS) (fun w => rq_iaddrE hf rfl rfl rfl hx2 w) fun a hf => ?_
      obtain ⟨A4, c5, rfl, hl4⟩ := Request_cells hr7
      have H := H.pF hl4
      refine strT (H.lt_ [false] [] [] [1, 3]) (fun w H => H.lt_ [] [] [] [1]) fun hS => ?_
      refine tSg 16 [] rfl rfl rfl rfl rfl rfl hf (by kernel_rfl) (by kernel_rfl) hS (fun w H => rq_loadIN hf H TF.la89 0 0 rfl rfl rfl rfl) fun a hf => ?_
      obtain ⟨y2, hy2, hGc3⟩ := bs_ hGc3
      refine n1g 17 (by kernel_rfl) rfl rfl rfl rfl hf (oC hf TF.cl91 (impl_conflict_ok (S := TT) (Request_mkv (x := e) (H.rt 2 rfl)) (Request_mkv (x := e2) (H.rt 0 rfl)) hy2) fun v2 w a hp7 hf => ?_)
      obtain ⟨hb2, hp7⟩ := hp7
      obtain rfl := VR_bool hp7
      have H := H.keep hb2
      have hS := H.lt_ [false] [] [] [1, 3]
      refine aS hS ?_
      refine zp 18 hf hS fun a hf => ?_
      refine zp 19 hf hS fun a hf => ?_
      refine iteB hGc3 (fun hc4 hGc3 => ?_) fun hc4 hGc3 => ?_
      ·have hf := hf.lit 36 rfl hc4
       refine strT (H.lt_ [true] [] [] [1, 3]) (fun w H => H.lt_ [false] [] [] [0, 1]) fun hS => ?_
       refine tSg 20 [] rfl rfl rfl rfl rfl rfl hf (by kernel_rfl) (by kernel_rfl) hS (fun w H => rq_loadBN hf H TF.la94 0 rfl rfl rfl rfl) fun a hf => ?_
       refine zg 22 hf hS fun a hf => ?_
       refine zg 23 hf hS fun a hf => ?_
       obtain ⟨e3, he3, hGc3⟩ := bs_ hGc3
       obtain ⟨p3, o8, cs8, hx3, hr8, H⟩ := pre_iaddr H Try.underlying35 TF.sz94 5 rfl he3
       refine tPg 24 rfl rfl rfl rfl rfl rfl hf (by kernel_rfl) (fun _ => hS) (fun w => rq_iaddrE hf rfl rfl rfl hx3 w) fun a hf => ?_
       obtain rfl := Block_cells hr8
       refine strT (H.lt_ [true] [] [] [0, 2, 4]) (fun w H => H.lt_ [true] [] [] [1, 2]) fun hS => ?_
       refine tSg 25 [] rfl rfl rfl rfl rfl rfl hf (by kernel_rfl) (by kernel_rfl) hS (fun w H => rq_loadIN hf H TF.la94 0 0 rfl rfl rfl rfl) fun a hf => ?_
       obtain ⟨y3, hy3, hGc3⟩ := bs_ hGc3
       refine n1g 21 (by kernel_rfl) rfl rfl rfl rfl hf (oC hf TF.cl92 (impl_maskOf_ok (S := TT) Block_mkv hy3) fun v3 w a hp8 hf => ?_)
       obtain ⟨hb3, hp8⟩ := hp8
       obtain rfl := VR_int hp8
       have H := H.keep hb3
       have hS := H.lt_ [true] [] [] [0, 2, 4]
       refine aS hS ?_
       obtain ⟨y4, hy4, hGc3⟩ := bs_ hGc3
       refine n1g 26 (by kernel_rfl) rfl rfl rfl rfl hf (oC hf TF.cl92 (impl_maskOf_ok (S := TT) Block_mkv hy4) fun v4 w a hp9 hf => ?_)
       obtain ⟨hb4, hp9⟩ := hp9
       obtain rfl := VR_int hp9
       have H := H.keep hb4
       have hS := H.lt_ [true] [] [] [0, 2, 4]
       refine aS hS ?_
       refine zg 27 hf hS fun a hf => ?_
       refine zg 28 hf hS fun a hf => ?_
       refine zp 29 hf hS fun a hf => ?_
       refine dk ?_
       obtain rfl := oi hGc3
       have hf := hf.pn [46, 0, 1, 2, 4, 8, 13, 14]
       have H := H.lt_ [true] [] [] [5, 6, 7]
       exact ⟨hf, H⟩
      ·have hf := hf.lit 36 rfl hc4
       refine zU 20 hf hS fun a hf => ?_
       refine zU 21 hf hS fun a hf => ?_
       refine zU 22 hf hS fun a hf => ?_
       refine zU 23 hf hS fun a hf => ?_
       refine zU 24 hf hS fun a hf => ?_
       refine zU 25 hf hS fun a hf => ?_
       refine zU 26 hf hS fun a hf => ?_
       refine zU 27 hf hS fun a hf => ?_
       refine zU 28 hf hS fun a hf => ?_
       refine zp 29 hf hS fun a hf => ?_
       refine dk ?_
       obtain rfl := oi hGc3
       have hf := hf.pn [46, 0, 1, 2, 4, 8, 13, 14]
       have H := H.lt_ [true] [] [] [4, 5, 6]
       exact ⟨hf, H⟩
     ·have hf := hf.lit 25 rfl hc3
      refine zU 9 hf trivial fun a hf => ?_
      refine zU 10 hf trivial fun a hf => ?_
      refine zU 11 hf trivial fun a hf => ?_
      refine zU 12 hf trivial fun a hf => ?_
      refine zU 13 hf trivial fun a hf => ?_
      refine zU 14 hf trivial fun a hf => ?_
      refine zU 15 hf trivial fun a hf => ?_
      refine zU 16 hf trivial fun a hf => ?_
      refine zU 17 hf trivial fun a hf => ?_
      refine zp 18 hf trivial fun a hf => ?_
      refine zp 19 hf trivial fun a hf => ?_
      refine zU 20 hf trivial fun a hf => ?_
      refine zU 21 hf trivial fun a hf => ?_
      refine zU 22 hf trivial fun a hf => ?_
      refine zU 23 hf trivial fun a hf => ?_
      refine zU 24 hf trivial fun a hf => ?_
      refine zU 25 hf trivial fun a hf => ?_
      refine zU 26 hf trivial fun a hf => ?_
      refine zU 27 hf trivial fun a hf => ?_
      refine zU 28 hf trivial fun a hf => ?_
      refine zp 29 hf trivial fun a hf => ?_
      refine dk ?_
      obtain rfl := oi hGc3
      have hf := hf.pn [46, 0, 1, 2, 4, 8, 13, 14]
      have H := H.lt_ [true] [] [] [0, 1, 2]
      exact ⟨hf, H⟩
    ·have hf := hf.lit 20 rfl hc2
     refine zU 4 hf trivial fun a hf => ?_
     refine zU 5 hf trivial fun a hf => ?_
     refine zU 6 hf trivial fun a hf => ?_
     refine zp 7 hf trivial fun a hf => ?_
     refine zp 8 hf trivial fun a hf => ?_
     refine zU 9 hf trivial fun a hf => ?_
     refine zU 10 hf trivial fun a hf => ?_
     refine zU 11 hf trivial fun a hf => ?_
     refine zU 12 hf trivial fun a hf => ?_
     refine zU 13 hf trivial fun a hf => ?_
     refine zU 14 hf trivial fun a hf => ?_
     refine zU 15 hf trivial fun a hf => ?_
     refine zU 16 hf trivial fun a hf => ?_
     refine zU 17 hf trivial fun a hf => ?_
     refine zp 18 hf trivial fun a hf => ?_
     refine zp 19 hf trivial fun a hf => ?_
     refine zU 20 hf trivial fun a hf => ?_
     refine zU 21 hf trivial fun a hf => ?_
     refine zU 22 hf trivial fun a hf => ?_
     refine zU 23 hf trivial fun a hf => ?_
     refine zU 24 hf trivial fun a hf => ?_
     refine zU 25 hf trivial fun a hf => ?_
     refine zU 26 hf trivial fun a hf => ?_
     refine zU 27 hf trivial fun a hf => ?_
     refine zU 28 hf trivial fun a hf => ?_
     refine zp 29 hf trivial fun a hf => ?_
     refine dk ?_
     obtain rfl := oi hGc3
     have hf := hf.pn [46, 0, 1, 2, 4, 8, 13, 14]
     have H := H.lt_ [true] [] [] [0, 1, 2]
     exact ⟨hf, H⟩
   refine then_n (ib hR1 hf (fun hc5 hR1 => ?_) fun hc5 hR1 => ?_)
   ·refine sqz (pz 1 hf fun a hf => ?_)
    refine wl_end (then_n (wp_ret (blk_r (then_r (then_r (blk_r (then_r (then_r (?_)))))))))
    obtain rfl := oi hR1
    replace hF := on_ret hF
    obtain rfl := oi hF
    refine rT hf ?_
    exact ⟨_, rfl, H.bel, mk_bool⟩
   ·refine wp_skip (blk_n (then_n (reg (pz 2 hf fun a hf => ?_))))
    refine wl_end ?_
    have hf := hf.pn [0, 1, 2, 4, 8, 13, 14]
    have H := H.lt_ [true] [] [] [0, 1, 2]
    exact then_n ⟨w64 (i2 + 1), hR1, hf, H⟩
  ·refine wp_exit (then_x (then_x (blk_e (?_))))
   have hf := hf.pn [0, 1, 2, 4, 8, 13, 14]
   have H := H.lt_ [true] [] [] [0, 1, 2]
   exact ⟨i2, (Option.some.inj hR1).symm, hf, H⟩
 rintro a w ⟨i3, rfl, hf, H⟩
 replace hF := on_next hF
 refine then_n (sqz (pz 1 hf fun a hf => ?_))
 refine wer ?_
 obtain rfl := oi hF
 refine rT hf ?_
 exact ⟨_, rfl, H.bel, mk_bool⟩
theorem impl_assignedTo_c1_B_ok {fu : Nat} {rec_ : (List Block) → (List Request) → (Int) → Option (Bool × List Block)} (ih : ∀ {w0 : World} {S : Nat → Prop} {b0 : Nat} {cs0 : List Value} {F0 : List Nat} {b1 o1 : Nat} {cs1 : List Value} {b2 o2 : Nat} {cs2 : List Value} {b3 o3 : Nat} {cap : List Block} {cap2 : List Request} {cap3 : Int} {r : Bool × List Block} (hp0 : w0.heap[b0]? = some (.cells cs0.toArray 35 (0, 0))) (hr0 : GoTy.own w0 F0 cs0 cap) (hn0 : List.Nodup (List.cons b0 F0)) (hS0 : ∀ c ∈ List.cons b0 F0, ¬ S c) (hp1 : (MP.cells ⟨b1, o1, none⟩ cs1).pred w0 S) (hr1 : GoTy.rep w0 S cs1 cap2) (hp2 : (MP.cells ⟨b2, o2, none⟩ cs2).pred w0 S) (hr2 : GoTy.rep w0 S cs2 cap3) (hp3 : (MP.cells ⟨b3, o3, none⟩ [.func (.func 71) #[] #[(.pointer (some ⟨b0, 0, none⟩)), (.pointer (some ⟨b1, o1, none⟩)), (.pointer (some ⟨b2, o2, none⟩)), (.pointer (some ⟨b3, o3, none⟩))]]).pred w0 S) (hF : rec_ cap cap2 cap3 = some r), Calls Try.prog 71 [(.pointer (some ⟨b0, 0, none⟩)), (.pointer (some ⟨b1, o1, none⟩)), (.pointer (some ⟨b2, o2, none⟩)), (.pointer (some ⟨b3, o3, none⟩))].toArray w0 fun e w' => ∃ v, e = .returned v ∧ (Chg w0 w' (b0 :: F0) ∧ ∃ cs' F', w'.heap[b0]? = some (.cells cs'.toArray 35 (0, 0)) ∧ GoTy.own w' F' cs' r.2 ∧ Back w0 w' F0 F' ∧ b0 ∉ F' ∧ VR w' (fun _ => True) v r.1)) {w0 : World} {S : Nat → Prop} {b0 : Nat} {cs0 : List Value} {F0 : List Nat} {b1 o1 : Nat} {cs1 : List Value} {b2 o2 : Nat} {cs2 : List Value} {b3 o3 : Nat} {cap : List Block} {cap2 : List Request} {cap3 : Int} {r : Bool × List Block} (hp0 : w0.heap[b0]? = some (.cells cs0.toArray 35 (0, 0))) (hr0 : GoTy.own w0 F0 cs0 cap) (hn0 : List.Nodup (List.cons b0 F0)) (hS0 : ∀ c ∈ List.cons b0 F0, ¬ S c) (hp1 : (MP.cells ⟨b1, o1, none⟩ cs1).pred w0 S) (hr1 : GoTy.rep w0 S cs1 cap2) (hp2 : (MP.cells ⟨b2, o2, none⟩ cs2).pred w0 S) (hr2 : GoTy.rep w0 S cs2 cap3) (hp3 : (MP.cells ⟨b3, o3, none⟩ [.func (.func 71) #[] #[(.pointer (some ⟨b0, 0, none⟩)), (.pointer (some ⟨b1, o1, none⟩)), (.pointer (some ⟨b2, o2, none⟩)), (.pointer (some ⟨b3, o3, none⟩))]]).pred w0 S) (hF : impl_assignedTo_c1_B fu rec_ cap cap2 cap3 = some r) :
    Calls Try.prog 71 [(.pointer (some ⟨b0, 0, none⟩)), (.pointer (some ⟨b1, o1, none⟩)), (.pointer (some ⟨b2, o2, none⟩)), (.pointer (some ⟨b3, o3, none⟩))].toArray w0 fun e w' => ∃ v, e = .returned v ∧ (Chg w0 w' (b0 :: F0) ∧ ∃ cs' F', w'.heap[b0]? = some (.cells cs'.toArray 35 (0, 0)) ∧ GoTy.own w' F' cs' r.2 ∧ Back w0 w' F0 F' ∧ b0 ∉ F' ∧ VR w' (fun _ => True) v r.1) := by
 obtain ⟨A, c, rfl, hl⟩ := list_cells hr1
 obtain rfl := hr2
 obtain ⟨A2, c2, rfl, hr0⟩ := own_list hr0
 have H := Mem.startBO S hp0 (show GoTy.own w0 F0 [.slice A2 cap.length c2] cap from hr0) hn0
 have H := H.lend 0 rfl
 have H := H.argB hS0 (p := MP.val [(.slice A cap2.length c)] cap2) hl
 have H := H.argB hS0 (p := MP.cells ⟨b1, o1, none⟩ [(.slice A cap2.length c)]) hp1
 have H := H.argB hS0 (p := MP.cells ⟨b2, o2, none⟩ [(.int .i64 cap3)]) hp2
 have H := H.argB hS0 (p := MP.cells ⟨b3, o3, none⟩ [(.func (.func 71) #[] #[(.pointer (some ⟨b0, 0, none⟩)), (.pointer (some ⟨b1, o1 + 0, none⟩)), (.pointer (some ⟨b2, o2 + 0, none⟩)), (.pointer (some ⟨b3, o3 + 0, none⟩))])]) hp3
 refine en Try.func71 fun a hf => ?_
 rw [impl_assignedTo_c1_B] at hF
 refine sqz (pz 1 hf fun a hf => ?_)
 refine wr (lB 0 hf H TF.ls35 fun a hf => ?_)
 refine pz 1 hf fun a hf => ?_
 refine aL hf H TF.zv3 fun b5 a w hf H => ?_
 refine sB 0 hf H TF.sz3 fun w H => ?_
 refine wl_end (then_n (sq (sq (reg (lB 0 hf H TF.ls3 fun a hf => ?_)))))
 refine oq hf (rq_loadI hf H TF.ls28 2 0 rfl rfl rfl) fun a hf => ?_
 refine pz 2 hf fun a hf => ?_
 refine wl_end (then_n (ib hF hf (fun hc hF => ?_) fun hc hF => ?_))
 ·refine sqz (pz 1 hf fun a hf => ?_)
  refine wl_end (then_n (wp_ret (then_r (?_))))
  obtain rfl := oi hF
  refine rT hf ?_
  exact ⟨_, rfl, H.chg, _, _, H.boxAt 1 rfl, H.ownAt 0 rfl, (H.endBO 1 rfl).1, (H.endBO 1 rfl).2, mk_bool⟩
 ·refine wp_skip (then_n (sq (sqz (pz 1 hf fun a hf => ?_))))
  refine wl_end (then_n ?_)
  obtain ⟨Fs, E2, H, -⟩ := H.thaw rfl
  have H := H.rowSh 0 rfl
  have H := H.argB hS0 (p := MP.val [(.slice A cap2.length c)] cap2) hl
  have H := H.argB hS0 (p := MP.cells ⟨b1, o1, none⟩ [(.slice A cap2.length c)]) hp1
  have H := H.argB hS0 (p := MP.cells ⟨b2, o2, none⟩ [(.int .i64 cap3)]) hp2
  have H := H.argB hS0 (p := MP.cells ⟨b3, o3, none⟩ [(.func (.func 71) #[] #[(.pointer (some ⟨b0, 0, none⟩)), (.pointer (some ⟨b1, o1 + 0, none⟩)), (.pointer (some ⟨b2, o2 + 0, none⟩)), (.pointer (some ⟨b3, o3 + 0, none⟩))])]) hp3
  obtain ⟨out', hB1, hF⟩ := bs_ hF
  have hf := hf.pn [0, 1, 2, 3, 5, 6]
  have H := H.lt_ [true, true] [true] [] [0, 1, 2, 3]
  refine loopC (fun (s : Int × List Block) (a : Act) (w : World) => match s with | (first, m) => ∃ (A3 : Option Addr) (c3 : Nat) (E : Go.TypeId), Fr a 48 [(0, (.pointer (some ⟨b0, 0, none⟩))), (1, (.pointer (some ⟨b1, o1 + 0, none⟩))), (2, (.pointer (some ⟨b2, o2 + 0, none⟩))), (3, (.pointer (some ⟨b3, o3 + 0, none⟩))), (5, (.pointer (some ⟨b5, 0, none⟩))), (6, (.int .i64 first))] ∧ Mem ⟨w0, b0 :: F0⟩ S [⟨b5, 3, [(.int .i64 (cap.length : Int))]⟩, ⟨b0, 35, [(.slice A3 m.length c3)]⟩] [⟨.sh true, E, A3, c3, (m : List Block)⟩] [] [(false, MP.cells ⟨b3, o3, none⟩ [(.func (.func 71) #[] #[(.pointer (some ⟨b0, 0, none⟩)), (.pointer (some ⟨b1, o1 + 0, none⟩)), (.pointer (some ⟨b2, o2 + 0, none⟩)), (.pointer (some ⟨b3, o3 + 0, none⟩))])]), (false, MP.cells ⟨b2, o2, none⟩ [(.int .i64 cap3)]), (false, MP.cells ⟨b1, o1, none⟩ [(.slice A cap2.length c)]), (false, MP.val [(.slice A cap2.length c)] (cap2 : List Request))] w) (fun k (s : Int × List Block) => impl_assignedTo_c1_L1 fu cap cap2 cap3 rec_ k s.1 s.2 = some out') (fun s => out' = Out.next s) (0, cap) fu hB1 ⟨A2, c2, E2, hf, H⟩ (fun s h => by cases h) ?_ ?_
  ·rintro fk ⟨first, m⟩ a w hR1 hI
   replace hR1 : impl_assignedTo_c1_L1 fu cap cap2 cap3 rec_ (fk + 1) first m = some out' := hR1
   rw [impl_assignedTo_c1_L1] at hR1
   obtain ⟨A3, c3, E, hf, H⟩ := hI
   refine sq (sq (dw [] 9 fun w hb => ?_))
   have H := H.keep hb
   refine zp 0 hf trivial fun a hf => ?_
   refine strT (H.lt_ [false, false] [false] [] [2]) (fun w H => trivial) fun hS => ?_
   refine zS 1 [] rfl rfl rfl rfl hf hS (fun w H => rq_loadI hf H TF.ls28 0 0 rfl rfl rfl) fun a hf => ?_
   refine strT (H.lt_ [true, false] [false] [] [2]) (fun w H => H.lt_ [false] [] [] [0]) fun hS => ?_
   refine zS 2 [] rfl rfl rfl rfl hf hS (fun w H => rq_loadB hf H TF.ls3 0 rfl rfl rfl) fun a hf => ?_
   obtain ⟨e, he, hR1⟩ := bs_ hR1
   obtain ⟨p, o5, cs5, hx, hr5, H⟩ := pre_iaddr H Try.underlying28 TF.sz89 3 rfl he
   refine zP 3 rfl rfl rfl rfl hf hS (fun w => rq_iaddrE hf rfl rfl rfl hx w) fun a hf => ?_
   obtain ⟨A4, c4, rfl, hl2⟩ := Request_cells hr5
   have H := H.pF hl2
   refine zp 4 hf hS fun a hf => ?_
   refine strT (H.lt_ [true, false] [false] [] [1, 4]) (fun w H => H.lt_ [true] [] [] [1]) fun hS => ?_
   refine zS 5 [] rfl rfl rfl rfl hf hS (fun w H => rq_loadI hf H TF.ls3 0 2 rfl rfl rfl) fun a hf => ?_
   refine zp 6 hf hS fun a hf => ?_
   refine strT (H.lt_ [true, false] [false] [] [1, 3, 4]) (fun w H => H.lt_ [true] [] [] [0, 2]) fun hS => ?_
   refine zS 7 [] rfl rfl rfl rfl hf hS (fun w H => rq_loadI hf H TF.ls3 1 0 rfl rfl rfl) fun a hf => ?_
   refine zp 8 hf hS fun a hf => ?_
   refine dk ?_
   refine then_n (ib hR1 hf (fun hc2 hR1 => ?_) fun hc2 hR1 => ?_)
   ·refine ws (pz 1 hf fun a hf => ?_)
    refine oq hf (rq_loadI hf H TF.ls28 4 0 rfl rfl rfl) fun a hf => ?_
    refine lB 0 hf H TF.ls3 fun a hf => ?_
    obtain ⟨e2, he2, hR1⟩ := bs_ hR1
    refine wl0 rfl (op_iaddr hf H Try.underlying28 TF.sz89 5 rfl rfl rfl he2 (by decide) fun p2 o6 cs6 a hf hr6 H => ?_)
    obtain ⟨A5, c5, rfl, hl3⟩ := Request_cells hr6
    have H := H.pF hl3
    refine pz 1 hf fun a hf => ?_
    refine oq hf (rq_loadI hf H TF.ls3 1 2 rfl rfl rfl) fun a hf => ?_
    refine oq hf (rq_build hf (cs := [(.int .i64 first), (.int .i64 e2.Count)]) rfl (fun w => by kernel_rfl)) fun a hf => ?_
    refine aL hf H TF.zv94 fun b6 a w hf H => ?_
    refine sB 0 hf H TF.sz94 fun w H => ?_
    have hf := hf.pn [0, 1, 2, 3, 5, 6, 7]
    refine wl_end (then_n (sq (sq (reg (oq hf (rq_loadI hf H TF.ls28 6 0 rfl rfl rfl) fun a hf => ?_)))))
    refine lB 2 hf H TF.ls35 fun a hf => ?_
    refine lB 1 hf H TF.ls3 fun a hf => ?_
    refine lN 0 hf H TF.la94 fun a hf => ?_
    refine oq hf (rq_makeFunc hf rfl) fun a hf => ?_
    obtain ⟨y, hy, hR1⟩ := bs_ hR1
    refine oc hf TF.cl59 (impl_isFree_of_assignedTo_c1c1_ok (S := TT) (mk_list (H.rt 7 rfl)) (mk_list (H.rowTrue 0 rfl)) mk_int Block_mkv (H.boxTrue 1 rfl) (rfl) hy) fun v w a hp5 hf => ?_
    obtain ⟨hb, hp5⟩ := hp5
    obtain rfl := VR_bool hp5
    have H := H.keep hb
    refine pz 1 hf fun a hf => ?_
    refine wl_end (then_n (ib hR1 hf (fun hc3 hR1 => ?_) fun hc3 hR1 => ?_))
    ·refine wp_exit (then_x (blk_e (?_)))
     refine then_n (reg (pz 3 hf fun a hf => ?_))
     refine wl_end ?_
     have hf := hf.pn [0, 1, 2, 3, 5, 6]
     have H := H.lt_ [false, true, true] [true] [] [4, 5, 6, 7]
     exact then_n ⟨(w64 (first + 1), m), hR1, A3, c3, E, hf, H⟩
    ·refine wp_skip (then_n (sq (reg (lB 2 hf H TF.ls35 fun a hf => ?_))))
     refine lN 0 hf H TF.la94 fun a hf => ?_
     refine wl0 rfl (bl hf H 94 ([({ First := first, Count := e2.Count } : Block)] : List Block) [(.int .i64 first), (.int .i64 e2.Count)] (el1 (y := ({ First := first, Count := e2.Count } : Block)) ((Block_mk (x := ({ First := first, Count := e2.Count } : Block))))) fun A6 a w hf H => ?_)
     obtain ⟨l, hl_, hR1⟩ := bs_ hR1
     refine wl0 rfl (op_appR hf H Try.underlying35 TF.ai94 rfl (by decide) 1 0 rfl rfl rfl rfl (.inr rfl) hl_ (by decide) fun E3 A7 c6 a w hf H => ?_)
     refine sB 2 hf H TF.sz35 fun w H => ?_
     refine wl_end (then_n (sq (sq (reg (oq hf (rq_loadI hf H TF.ls59 4 0 rfl rfl rfl) fun a hf => ?_)))))
     have H := H.rowOwn 1 rfl rfl
     obtain ⟨F2, H⟩ := H.freezeOwn 1 rfl
     have H := H.lend 0 rfl
     obtain ⟨y2, hy2, hR1⟩ := bs_ hR1
     refine wl0 rfl (op_callV hf TF.cl71 rfl rfl (by decide) (ih (S := NF b0 F2) (H.boxAt 2 rfl) (H.ownAt 0 rfl) (H.boNd 2 rfl) (fun _ h1 h2 => h2 h1) (H.argN 2 rfl hS0 hp1) (H.argNv 2 rfl hS0 (α := List Request) hl) (H.argN 2 rfl hS0 hp2) (rfl) (H.argN 2 rfl hS0 hp3) hy2) fun v2 w a hp6 hf => ?_)
     obtain ⟨hch, cs7, F3, hbx, ho, hbk, hbF, hv⟩ := hp6
     obtain ⟨A8, c7, rfl, ho⟩ := own_list ho
     have H := H.wroteBO 2 rfl rfl hch hbx ho hbk hbF
     have H := H.argB hS0 (p := MP.val [(.slice A cap2.length c)] cap2) hl
     have H := H.argB hS0 (p := MP.cells ⟨b1, o1, none⟩ [(.slice A cap2.length c)]) hp1
     have H := H.argB hS0 (p := MP.cells ⟨b2, o2, none⟩ [(.int .i64 cap3)]) hp2
     have H := H.argB hS0 (p := MP.cells ⟨b3, o3, none⟩ [(.func (.func 71) #[] #[(.pointer (some ⟨b0, 0, none⟩)), (.pointer (some ⟨b1, o1 + 0, none⟩)), (.pointer (some ⟨b2, o2 + 0, none⟩)), (.pointer (some ⟨b3, o3 + 0, none⟩))])]) hp3
     have H := H.lend 0 rfl
     obtain rfl := VR_bool hv
     have hf := hf.pn [0, 1, 2, 3, 5, 6, 44]
     refine wl_end (then_n (ib hR1 hf (fun hc4 hR1 => ?_) fun hc4 hR1 => ?_))
     ·refine sqz (pz 1 hf fun a hf => ?_)
      refine wl_end (then_n (wp_ret (then_r (blk_r (then_r (then_r (blk_r (then_r (then_r (?_))))))))))
      obtain rfl := oi hR1
      replace hF := on_ret hF
      obtain rfl := oi hF
      refine rT hf ?_
      exact ⟨_, rfl, H.chg, _, _, H.boxAt 2 rfl, H.ownAt 0 rfl, (H.endBO 2 rfl).1, (H.endBO 2 rfl).2, mk_bool⟩
     ·refine wp_skip (then_n (reg (lB 2 hf H TF.ls35 fun a hf => ?_)))
      refine lB 1 hf H TF.ls3 fun a hf => ?_
      obtain ⟨Fs2, E4, H, -⟩ := H.thaw rfl
      have H := H.rowSh 0 rfl
      have H := H.argB hS0 (p := MP.val [(.slice A cap2.length c)] cap2) hl
      have H := H.argB hS0 (p := MP.cells ⟨b1, o1, none⟩ [(.slice A cap2.length c)]) hp1
      have H := H.argB hS0 (p := MP.cells ⟨b2, o2, none⟩ [(.int .i64 cap3)]) hp2
      have H := H.argB hS0 (p := MP.cells ⟨b3, o3, none⟩ [(.func (.func 71) #[] #[(.pointer (some ⟨b0, 0, none⟩)), (.pointer (some ⟨b1, o1 + 0, none⟩)), (.pointer (some ⟨b2, o2 + 0, none⟩)), (.pointer (some ⟨b3, o3 + 0, none⟩))])]) hp3
      obtain ⟨l2, hl2_, hR1⟩ := bs_ hR1
      refine wl0 rfl (op_sliceR hf H Try.underlying35 TF.sz94 0 rfl rfl rfl (.inl rfl) (.inr rfl) rfl hl2_ (by decide) fun a hf H => ?_)
      refine sB 2 hf H TF.sz35 fun w H => ?_
      refine wl_end (blk_n (then_n (reg (pz 3 hf fun a hf => ?_))))
      refine wl_end ?_
      have hf := hf.pn [0, 1, 2, 3, 5, 6]
      have H := H.lt_ [false, true, true] [true, false] [] [0, 1, 2, 3]
      exact then_n ⟨(w64 (first + 1), l2), hR1, A8, c7, E4, hf, H⟩
   ·refine wp_exit (then_x (then_x (blk_e (?_))))
    have hf := hf.pn [0, 1, 2, 3, 5, 6]
    have H := H.lt_ [true, true] [true] [] [2, 3, 4, 5]
    exact ⟨(first, m), (Option.some.inj hR1).symm, A3, c3, E, hf, H⟩
  rintro a w ⟨⟨first2, m2⟩, rfl, A9, c8, E5, hf, H⟩
  replace hF := on_next hF
  try dsimp only at hF
  refine then_n (sqz (pz 1 hf fun a hf => ?_))
  refine wer ?_
  have H := H.rowOwn 0 rfl rfl
  obtain ⟨F4, H⟩ := H.freezeOwn 0 rfl
  have H := H.lend 0 rfl
  obtain rfl := oi hF
  refine rT hf ?_
  exact ⟨_, rfl, H.chg, _, _, H.boxAt 1 rfl, H.ownAt 0 rfl, (H.endBO 1 rfl).1, (H.endBO 1 rfl).2, mk_bool⟩
theorem impl_assignedTo_c1_ok {fu : Nat} : ∀ {w0 : World} {S : Nat → Prop} {b0 : Nat} {cs0 : List Value} {F0 : List Nat} {b1 o1 : Nat} {cs1 : List Value} {b2 o2 : Nat} {cs2 : List Value} {b3 o3 : Nat} {cap : List Block} {cap2 : List Request} {cap3 : Int} {r : Bool × List Block} (hp0 : w0.heap[b0]? = some (.cells cs0.toArray 35 (0, 0))) (hr0 : GoTy.own w0 F0 cs0 cap) (hn0 : List.Nodup (List.cons b0 F0)) (hS0 : ∀ c ∈ List.cons b0 F0, ¬ S c) (hp1 : (MP.cells ⟨b1, o1, none⟩ cs1).pred w0 S) (hr1 : GoTy.rep w0 S cs1 cap2) (hp2 : (MP.cells ⟨b2, o2, none⟩ cs2).pred w0 S) (hr2 : GoTy.rep w0 S cs2 cap3) (hp3 : (MP.cells ⟨b3, o3, none⟩ [.func (.func 71) #[] #[(.pointer (some ⟨b0, 0, none⟩)), (.pointer (some ⟨b1, o1, none⟩)), (.pointer (some ⟨b2, o2, none⟩)), (.pointer (some ⟨b3, o3, none⟩))]]).pred w0 S) (hF : impl_assignedTo_c1 fu cap cap2 cap3 = some r), Calls Try.prog 71 [(.pointer (some ⟨b0, 0, none⟩)), (.pointer (some ⟨b1, o1, none⟩)), (.pointer (some ⟨b2, o2, none⟩)), (.pointer (some ⟨b3, o3, none⟩))].toArray w0 fun e w' => ∃ v, e = .returned v ∧ (Chg w0 w' (b0 :: F0) ∧ ∃ cs' F', w'.heap[b0]? = some (.cells cs'.toArray 35 (0, 0)) ∧ GoTy.own w' F' cs' r.2 ∧ Back w0 w' F0 F' ∧ b0 ∉ F' ∧ VR w' (fun _ => True) v r.1) := by
  induction fu with
  | zero => intro w0 S b0 cs0 F0 b1 o1 cs1 b2 o2 cs2 b3 o3 cap cap2 cap3 r hp0 hr0 hn0 hS0 hp1 hr1 hp2 hr2 hp3 hF; rw [impl_assignedTo_c1] at hF; cases hF
  | succ fu ih => intro w0 S b0 cs0 F0 b1 o1 cs1 b2 o2 cs2 b3 o3 cap cap2 cap3 r hp0 hr0 hn0 hS0 hp1 hr1 hp2 hr2 hp3 hF; rw [impl_assignedTo_c1] at hF; exact impl_assignedTo_c1_B_ok (rec_ := fun cap cap2 cap3 => impl_assignedTo_c1 fu cap cap2 cap3) (fun hp0 hr0 hn0 hS0 hp1 hr1 hp2 hr2 hp3 hF => ih hp0 hr0 hn0 hS0 hp1 hr1 hp2 hr2 hp3 hF) hp0 hr0 hn0 hS0 hp1 hr1 hp2 hr2 hp3 hF
theorem impl_assignedTo_ok {S : Nat → Prop} {v0_ : Value} {v1_ : Value} {list : List Request} {height : Int} {r : List Block × Bool} (h0 : VR w0 S v0_ list) (h1 : VR w0 S v1_ height) (hF : impl_assignedTo fu list height = some r) :
    Calls Try.prog 32 [v0_, v1_].toArray w0 fun e w' => ∃ v, e = .returned v ∧ (Below w0.heap.size w0 w' ∧ ∃ F0, ∃ u0 u1, v = .tuple #[u0, u1] ∧ VO w' F0 u0 r.1 ∧ VR w' (St ⟨w0, []⟩ S [] [] [] true) u1 r.2 ∧ New w0 w' F0) := by
 obtain ⟨A, c, rfl, hl⟩ := VR_list h0
 obtain rfl := VR_int h1
 have H := Mem.start ⟨w0, []⟩ S
 have H := H.pA hl
 refine en Try.func32 fun a hf => ?_
 rw [impl_assignedTo] at hF
 refine bx hf H fun b' a w hf H => ?_
 refine wl0 rfl (op_box hf H rfl rfl (by decide) fun b2 a w hf H => ?_)
 refine pz 2 hf fun a hf => ?_
 refine wr (wl0 rfl (bl hf H 94 ([] : List Block) [] el0 fun A2 a w hf H => ?_))
 refine aL hf H TF.zv35 fun b3 a w hf H => ?_
 refine sB 0 hf H TF.sz35 fun w H => ?_
 refine wr (aL hf H TF.zv59 fun b4 a w hf H => ?_)
 refine wr (oq hf (rq_makeFunc hf rfl) fun a hf => ?_)
 refine sB 0 hf H TF.sz59 fun w H => ?_
 refine wr (lB 0 hf H TF.ls59 fun a hf => ?_)
 have H := H.rowOwn 0 rfl rfl
 obtain ⟨F, H⟩ := H.freezeOwn 0 rfl
 have H := H.lend 0 rfl
 obtain ⟨y, hy, hF⟩ := bs_ hF
 refine wl0 rfl (op_callV hf TF.cl71 rfl rfl (by decide) (impl_assignedTo_c1_ok (S := NF b3 F) (H.boxAt 1 rfl) (H.ownAt 0 rfl) (H.boNd 1 rfl) (fun _ h1 h2 => h2 h1) (H.boxN 1 rfl 3 rfl rfl) (H.argNv 1 rfl (fun _ h => by cases h) (α := List Request) hl) (H.boxN 1 rfl 2 rfl rfl) (rfl) (H.boxN 1 rfl 0 rfl rfl) hy) fun v w a hp hf => ?_)
 obtain ⟨hch, cs, F2, hbx, ho, hbk, hbF, hv⟩ := hp
 obtain ⟨A3, c2, rfl, ho⟩ := own_list ho
 have H := H.wroteBO 1 rfl rfl hch hbx ho hbk hbF
 have H := H.pA hl
 have H := H.lend 0 rfl
 obtain rfl := VR_bool hv
 refine pz 1 hf fun a hf => ?_
 refine wr (lB 1 hf H TF.ls35 fun a hf => ?_)
 refine pz 3 hf fun a hf => ?_
 have hf := hf.pn [4, 5]
 refine wer ?_
 obtain rfl := oi hF
 refine ret_2 hf rfl (rv_tmp hf rfl) (rv_tmp hf rfl) ?_
 have hN := H.ends1
 exact ⟨_, rfl, H.bel, F2, _, _, rfl, (mko_list (H.ownAt 0 rfl)), mk_bool, by first | exact hN | simpa using hN⟩
theorem impl_AssignExact_ok {S : Nat → Prop} {v0_ : Value} {v1_ : Value} {n' : Network} {list : List Request} {r : List Block × Int × Bool} (h0 : VR w0 S v0_ n') (h1 : VR w0 S v1_ list) (hF : impl_AssignExact fu n' list = some r) :
    Calls Try.prog 10 [v0_, v1_].toArray w0 fun e w' => ∃ v, e = .returned v ∧ (Below w0.heap.size w0 w' ∧ ∃ F0, ∃ u0 u1 u2, v = .tuple #[u0, u1, u2] ∧ VO w' F0 u0 r.1 ∧ VR w' (St ⟨w0, []⟩ S [] [] [] true) u1 r.2.1 ∧ VR w' (St ⟨w0, []⟩ S [] [] [] true) u2 r.2.2 ∧ New w0 w' F0) := by
 obtain ⟨A, c, A2, c2, rfl, hl, hl2⟩ := Network_open h0
 obtain ⟨A3, c3, rfl, hl3⟩ := VR_list h1
 have H := Mem.start ⟨w0, []⟩ S
 have H := H.pA hl
 have H := H.pA hl2
 have H := H.pA hl3
 refine en Try.func10 fun a hf => ?_
 rw [impl_AssignExact] at hF
 refine bx hf H fun b' a w hf H => ?_
 refine pz 3 hf fun a hf => ?_
 refine wl_end (then_n (sq (sq (reg (lN 0 hf H TF.la27 fun a hf => ?_)))))
 refine pz 1 hf fun a hf => ?_
 obtain ⟨y, hy, hF⟩ := bs_ hF
 refine oc hf TF.cl30 (impl_IsValidRequests_ok (S := TT) (Network_mkv (x := n') (H.rt 2 rfl) (H.rt 1 rfl)) (mk_list (H.rt 0 rfl)) hy) fun v w a hp hf => ?_
 obtain ⟨hb, hp⟩ := hp
 obtain rfl := VR_bool hp
 have H := H.keep hb
 refine pz 1 hf fun a hf => ?_
 refine wl_end (then_n (ib hF hf (fun hc hF => ?_) fun hc hF => ?_))
 ·refine sqz (pz 3 hf fun a hf => ?_)
  refine wl_end (then_n (wp_ret (then_r (?_))))
  have H := H.ownNil (Block)
  have H := H.lend 0 rfl
  obtain rfl := oi hF
  refine ret_3 hf rfl (rv_tmp hf rfl) (rv_tmp hf rfl) (rv_tmp hf rfl) ?_
  have hN := H.ends1
  exact ⟨_, rfl, H.bel, [], _, _, _, rfl, (mko_list (H.ownAt 0 rfl)), mk_int, mk_bool, by first | exact hN | simpa using hN⟩
 ·refine wp_skip (then_n (sqz (pz 1 hf fun a hf => ?_)))
  obtain ⟨y2, hy2, hF⟩ := bs_ hF
  refine oc hf TF.cl31 (impl_cliqueBound_ok (S := TT) (mk_list (H.rt 0 rfl)) hy2) fun v2 w a hp2 hf => ?_
  obtain ⟨hb2, v3, v4, rfl, hp3, hp4⟩ := hp2
  obtain rfl := VR_int hp3
  obtain rfl := VR_int hp4
  have H := H.keep hb2
  refine pz 5 hf fun a hf => ?_
  have hf := hf.pn [1, 7]
  refine we (sqz (pz 2 hf fun a hf => ?_))
  refine wl_end (then_n ?_)
  obtain ⟨out', hB1, hF⟩ := bs_ hF
  have hf := hf.pn [1, 9]
  have H := H.lt_ [false] [] [] [0]
  refine loopC (fun (s : Int) (a : Act) (w : World) => match s with | height => Fr a 35 [(1, (.slice A3 list.length c3)), (9, (.int .i64 height))] ∧ Mem ⟨w0, []⟩ S [] [] [] [(false, MP.val [(.slice A3 list.length c3)] (list : List Request))] w) (fun k (s : Int) => impl_AssignExact_L1 fu list k s = some out') (fun s => out' = Out.next s) y2.1 fu hB1 ⟨hf, H⟩ (fun s h => by cases h) ?_ ?_
  ·rintro fk height a w hR1 hI
   replace hR1 : impl_AssignExact_L1 fu list (fk + 1) height = some out' := hR1
   rw [impl_AssignExact_L1] at hR1
   obtain ⟨hf, H⟩ := hI
   refine sq (sqz (pz 2 hf fun a hf => ?_))
   refine wl_end (then_n (ib hR1 hf (fun hc2 hR1 => ?_) fun hc2 hR1 => ?_))
   ·refine ws (pz 2 hf fun a hf => ?_)
    obtain ⟨y3, hy3, hR1⟩ := bs_ hR1
    refine oc hf TF.cl32 (impl_assignedTo_ok (S := TT) (mk_list (H.rt 0 rfl)) mk_int hy3) fun v5 w a hp5 hf => ?_
    obtain ⟨hb3, F, v6, v7, rfl, hp6, hp7, hN⟩ := hp5
    obtain ⟨A4, c4, rfl, hl4⟩ := VO_list hp6
    obtain rfl := VR_bool hp7
    have H := H.aO1 hb3 hN hl4
    have H := H.lend 0 rfl
    refine pz 5 hf fun a hf => ?_
    refine wr (pz 1 hf fun a hf => ?_)
    refine wl_end (then_n (ib hR1 hf (fun hc3 hR1 => ?_) fun hc3 hR1 => ?_))
    ·refine sqz (pz 5 hf fun a hf => ?_)
     have hf := hf.pn [4, 5, 6]
     refine wl_end (then_n (wp_ret (blk_r (then_r (then_r (blk_r (then_r (then_r (?_)))))))))
     obtain rfl := oi hR1
     replace hF := on_ret hF
     obtain rfl := oi hF
     refine ret_3 hf rfl (rv_tmp hf rfl) (rv_tmp hf rfl) (rv_tmp hf rfl) ?_
     have hN := H.ends1
     exact ⟨_, rfl, H.bel, F, _, _, _, rfl, (mko_list (H.ownAt 0 rfl)), mk_int, mk_bool, by first | exact hN | simpa using hN⟩
    ·refine wp_skip (blk_n (then_n (reg (pz 3 hf fun a hf => ?_))))
     have hf := hf.pn [1, 9]
     refine wl_end ?_
     have hf := hf.pn [1, 9]
     have H := H.lt_ [] [] [false] [1]
     exact then_n ⟨w64 (height + 1), hR1, hf, H⟩
   ·refine wp_exit (then_x (then_x (blk_e (?_))))
    have hf := hf.pn [1, 9]
    have H := H.lt_ [] [] [] [0]
    exact ⟨height, (Option.some.inj hR1).symm, hf, H⟩
  rintro a w ⟨height2, rfl, hf, H⟩
  replace hF := on_next hF
  refine then_n (sqz (pz 3 hf fun a hf => ?_))
  refine wer ?_
  have H := H.ownNil (Block)
  have H := H.lend 0 rfl
  obtain rfl := oi hF
  refine ret_3 hf rfl (rv_tmp hf rfl) (rv_tmp hf rfl) (rv_tmp hf rfl) ?_
  have hN := H.ends1
  exact ⟨_, rfl, H.bel, [], _, _, _, rfl, (mko_list (H.ownAt 0 rfl)), mk_int, mk_bool, by first | exact hN | simpa using hN⟩
theorem impl_IsValidBlock_ok {S : Nat → Prop} {v0_ : Value} {b' : Block} {r : Bool} (h0 : VR w0 S v0_ b') (hF : impl_IsValidBlock fu b' = some r) :
    Calls Try.prog 58 [v0_].toArray w0 fun e w' => ∃ v, e = .returned v ∧ (Below w0.heap.size w0 w' ∧ VR w' (St ⟨w0, []⟩ S [] [] [] true) v r) := by
 obtain rfl := Block_open h0
 have H := Mem.start ⟨w0, []⟩ S
 refine en Try.func58 fun a hf => ?_
 rw [impl_IsValidBlock] at hF
 refine bx hf H fun b2 a w hf H => ?_
 refine pz 1 hf fun a hf => ?_
 refine wl_end (then_n (sq ?_))
 obtain ⟨c, hGc, hF⟩ := bs_ hF
 have fh := hf.prune [] rfl
 have Hm := H.lt_ [false] [] [] []
 refine midF 2 (.bool c) fh Hm ?_ fun a w hf H => ?_
 ·refine reg (pz 1 hf fun a hf => ?_)
  refine lB 0 hf H TF.ls3 fun a hf => ?_
  refine pz 2 hf fun a hf => ?_
  refine iteB hGc (fun hc hGc => ?_) fun hc hGc => ?_
  ·have hf := hf.lit 6 rfl hc
   refine pz 1 hf fun a hf => ?_
   refine wlg hf rfl rfl rfl (op_q hf (rq_loadB hf H TF.ls3 0 rfl rfl rfl) rfl (by decide) fun a hf => ?_)
   obtain ⟨y, hy, hGc⟩ := bs_ hGc
   refine wlg hf rfl rfl rfl (oC hf TF.cl40 (impl_within_ok (S := TT) mk_int mk_int mk_int hy) fun v w a hp hf => ?_)
   obtain ⟨hb, hp⟩ := hp
   obtain rfl := VR_bool hp
   have H := H.keep hb
   refine pz 2 hf fun a hf => ?_
   refine iteB hGc (fun hc2 hGc => ?_) fun hc2 hGc => ?_
   ·have hf := hf.lit 11 rfl hc2
    refine pz 1 hf fun a hf => ?_
    refine wlg hf rfl rfl rfl (op_q hf (rq_loadB hf H TF.ls3 0 rfl rfl rfl) rfl (by decide) fun a hf => ?_)
    refine pz 1 hf fun a hf => ?_
    refine wlg hf rfl rfl rfl (op_q hf (rq_loadB hf H TF.ls3 0 rfl rfl rfl) rfl (by decide) fun a hf => ?_)
    refine pz 4 hf fun a hf => ?_
    obtain rfl := oi hGc
    have hf := hf.pn [2]
    have H := H.lt_ [false] [] [] []
    exact wl_end ⟨hf, H⟩
   ·have hf := hf.lit 11 rfl hc2
    refine pz 8 hf fun a hf => ?_
    obtain rfl := oi hGc
    have hf := hf.pn [2]
    have H := H.lt_ [false] [] [] []
    exact wl_end ⟨hf, H⟩
  ·have hf := hf.lit 6 rfl hc
   refine pz 13 hf fun a hf => ?_
   obtain rfl := oi hGc
   have hf := hf.pn [2]
   have H := H.lt_ [false] [] [] []
   exact wl_end ⟨hf, H⟩
 refine then_n (wp_ret (?_))
 obtain rfl := oi hF
 refine rT hf ?_
 exact ⟨_, rfl, H.bel, mk_bool⟩
theorem impl_greedy_c1_ok {S : Nat → Prop} {v0_ : Value} {b1 o1 : Nat} {cs1 : List Value} {k' : Int} {cap : List Bool} {r : Bool} (h0 : VR w0 S v0_ k') (hp1 : (MP.cells ⟨b1, o1, none⟩ cs1).pred w0 S) (hr1 : GoTy.rep w0 S cs1 cap) (hF : impl_greedy_c1 fu k' cap = some r) :
    Calls Try.prog 60 [v0_, (.pointer (some ⟨b1, o1, none⟩))].toArray w0 fun e w' => ∃ v, e = .returned v ∧ (Below w0.heap.size w0 w' ∧ VR w' (St ⟨w0, []⟩ S [] [] [] true) v r) := by
 obtain rfl := VR_int h0
 obtain ⟨A, c, rfl, hl⟩ := list_cells hr1
 have H := Mem.start ⟨w0, []⟩ S
 have H := H.pA hl
 have H := H.pushArg (MP.cells ⟨b1, o1, none⟩ [(.slice A cap.length c)]) hp1
 refine en Try.func60 fun a hf => ?_
 rw [impl_greedy_c1] at hF
 refine sqz (pz 1 hf fun a hf => ?_)
 refine wr (oq hf (rq_loadI hf H TF.ls92 0 0 rfl rfl rfl) fun a hf => ?_)
 refine pz 1 hf fun a hf => ?_
 obtain ⟨e, he, hF⟩ := bs_ hF
 refine wl0 rfl (op_iaddr hf H Try.underlying92 TF.sz4 1 rfl rfl rfl he (by decide) fun p o3 cs3 a hf hr3 H => ?_)
 obtain rfl := hr3
 refine oq hf (rq_loadI hf H TF.ls4 0 0 rfl rfl rfl) fun a hf => ?_
 refine pz 1 hf fun a hf => ?_
 refine wer ?_
 obtain rfl := oi hF
 refine rT hf ?_
 exact ⟨_, rfl, H.bel, mk_bool⟩
theorem impl_isFree_of_greedy_c1_ok {S : Nat → Prop} {v0_ : Value} {v1_ : Value} {v2_ : Value} {v3_ : Value} {b4_0 o4_0 : Nat} {cs4_0 : List Value} {list : List Request} {blocks : List Block} {i : Int} {b6 : Block} {cap : List Bool} {r : Bool} (h0 : VR w0 S v0_ list) (h1 : VR w0 S v1_ blocks) (h2 : VR w0 S v2_ i) (h3 : VR w0 S v3_ b6) (hp4_0 : (MP.cells ⟨b4_0, o4_0, none⟩ cs4_0).pred w0 S) (hr4_0 : GoTy.rep w0 S cs4_0 cap) (hF : impl_isFree_of_greedy_c1 fu list blocks i b6 cap = some r) :
    Calls Try.prog 59 [v0_, v1_, v2_, v3_, (.func (.func 60) #[] #[(.pointer (some ⟨b4_0, o4_0, none⟩))])].toArray w0 fun e w' => ∃ v, e = .returned v ∧ (Below w0.heap.size w0 w' ∧ VR w' (St ⟨w0, []⟩ S [] [] [] true) v r) := by
 obtain ⟨A, c, rfl, hl⟩ := VR_list h0
 obtain ⟨A2, c2, rfl, hl2⟩ := VR_list h1
 obtain rfl := VR_int h2
 obtain rfl := Block_open h3
 obtain ⟨A3, c3, rfl, hl3⟩ := list_cells hr4_0
 have H := Mem.start ⟨w0, []⟩ S
 have H := H.pA hl
 have H := H.pA hl2
 have H := H.pA hl3
 have H := H.pushArg (MP.cells ⟨b4_0, o4_0, none⟩ [(.slice A3 cap.length c3)]) hp4_0
 refine en Try.func59 fun a hf => ?_
 rw [impl_isFree_of_greedy_c1] at hF
 refine bx hf H fun b7 a w hf H => ?_
 refine pz 1 hf fun a hf => ?_
 refine we (sqz (pz 3 hf fun a hf => ?_))
 refine wl_end (then_n ?_)
 obtain ⟨out', hB1, hF⟩ := bs_ hF
 have hf := hf.pn [0, 1, 2, 4, 8, 13, 14]
 have H := H.lt_ [true] [] [] [0, 1, 2, 3]
 refine loopC (fun (s : Int) (a : Act) (w : World) => match s with | i2 => Fr a 48 [(0, (.slice A list.length c)), (1, (.slice A2 blocks.length c2)), (2, (.int .i64 i)), (4, (.func (.func 60) #[] #[(.pointer (some ⟨b4_0, o4_0 + 0, none⟩))])), (8, (.pointer (some ⟨b7, 0, none⟩))), (13, (.int .i64 (list.length : Int))), (14, (.int .i64 i2))] ∧ Mem ⟨w0, []⟩ S [⟨b7, 94, [(.int .i64 b6.First), (.int .i64 b6.Count)]⟩] [] [] [(false, MP.cells ⟨b4_0, o4_0, none⟩ [(.slice A3 cap.length c3)]), (false, MP.val [(.slice A3 cap.length c3)] (cap : List Bool)), (false, MP.val [(.slice A2 blocks.length c2)] (blocks : List Block)), (false, MP.val [(.slice A list.length c)] (list : List Request))] w) (fun k (s : Int) => impl_isFree_of_greedy_c1_L1 fu list blocks i b6 cap k s = some out') (fun s => out' = Out.next s) 0 fu hB1 ⟨hf, H⟩ (fun s h => by cases h) ?_ ?_
 ·rintro fk i2 a w hR1 hI
  replace hR1 : impl_isFree_of_greedy_c1_L1 fu list blocks i b6 cap (fk + 1) i2 = some out' := hR1
  rw [impl_isFree_of_greedy_c1_L1] at hR1
  obtain ⟨hf, H⟩ := hI
  refine sqz (pz 1 hf fun a hf => ?_)
  refine wl_end (then_n (sq (ib hR1 hf (fun hc hR1 => ?_) fun hc hR1 => ?_)))
  ·refine ws (pz 2 hf fun a hf => ?_)
   refine wl_end (then_n (sq ?_))
   obtain ⟨c4, hGc4, hR1⟩ := bs_ hR1
   have fh := hf.prune [0, 1, 2, 4, 8, 13, 14] rfl
   have Hm := H.lt_ [true] [] [] [0, 1, 2, 3]
   refine midF 46 (.bool c4) fh Hm ?_ fun a w hf H => ?_
   ·refine dw [] 30 fun w hb => ?_
    have H := H.keep hb
    refine zp 0 hf trivial fun a hf => ?_
    refine zp 1 hf trivial fun a hf => ?_
    refine zp 2 hf trivial fun a hf => ?_
    refine zp 3 hf trivial fun a hf => ?_
    refine iteB hGc4 (fun hc2 hGc4 => ?_) fun hc2 hGc4 => ?_
    ·have hf := hf.lit 20 rfl hc2
     refine zg 4 hf trivial fun a hf => ?_
     refine zg 5 hf trivial fun a hf => ?_
     obtain ⟨y, hy, hGc4⟩ := bs_ hGc4
     refine n1g 6 (by kernel_rfl) rfl rfl rfl rfl hf (op_callV hf TF.cl60 rfl rfl (by decide) (impl_greedy_c1_ok (S := TT) mk_int (mp_true (H.get 0 rfl)) (H.rt 1 rfl) hy) fun v w a hp6 hf => ?_)
     obtain ⟨hb, hp6⟩ := hp6
     obtain rfl := VR_bool hp6
     have H := H.keep hb
     refine ⟨fun _ => trivial, ?_⟩
     refine zp 7 hf trivial fun a hf => ?_
     refine zp 8 hf trivial fun a hf => ?_
     refine iteB hGc4 (fun hc3 hGc4 => ?_) fun hc3 hGc4 => ?_
     ·have hf := hf.lit 25 rfl hc3
      refine zg 9 hf trivial fun a hf => ?_
      refine zg 10 hf trivial fun a hf => ?_
      obtain ⟨e, he, hGc4⟩ := bs_ hGc4
      obtain ⟨p, o6, cs6, hx, hr6, H⟩ := pre_iaddr H Try.underlying28 TF.sz89 3 rfl he
      refine tPg 11 rfl rfl rfl rfl rfl rfl hf (by kernel_rfl) (fun _ => trivial) (fun w => rq_iaddrE hf rfl rfl rfl hx w) fun a hf => ?_
      obtain ⟨A4, c5, rfl, hl4⟩ := Request_cells hr6
      have H := H.pF hl4
      refine strT (H.lt_ [false] [] [] [1]) (fun w H => trivial) fun hS => ?_
      refine tSg 12 [] rfl rfl rfl rfl rfl rfl hf (by kernel_rfl) (by kernel_rfl) hS (fun w H => rq_loadIN hf H TF.la89 0 0 rfl rfl rfl rfl) fun a hf => ?_
      refine zg 13 hf hS fun a hf => ?_
      refine zg 14 hf hS fun a hf => ?_
      obtain ⟨e2, he2, hGc4⟩ := bs_ hGc4
      obtain ⟨p2, o7, cs7, hx2, hr7, H⟩ := pre_iaddr H Try.underlying28 TF.sz89 5 rfl he2
      refine tPg 15 rfl rfl rfl rfl rfl rfl hf (by kernel_rfl) (fun _ => hS) (fun w => rq_iaddrE hf rfl rfl rfl hx2 w) fun a hf => ?_
      obtain ⟨A5, c6, rfl, hl5⟩ := Request_cells hr7
      have H := H.pF hl5
      refine strT (H.lt_ [false] [] [] [1, 3]) (fun w H => H.lt_ [] [] [] [1]) fun hS => ?_
      refine tSg 16 [] rfl rfl rfl rfl rfl rfl hf (by kernel_rfl) (by kernel_rfl) hS (fun w H => rq_loadIN hf H TF.la89 0 0 rfl rfl rfl rfl) fun a hf => ?_
      obtain ⟨y2, hy2, hGc4⟩ := bs_ hGc4
      refine n1g 17 (by kernel_rfl) rfl rfl rfl rfl hf (oC hf TF.cl91 (impl_conflict_ok (S := TT) (Request_mkv (x := e) (H.rt 2 rfl)) (Request_mkv (x := e2) (H.rt 0 rfl)) hy2) fun v2 w a hp7 hf => ?_)
      obtain ⟨hb2, hp7⟩ := hp7
      obtain rfl := VR_bool hp7
      have H := H.keep hb2
      have hS := H.lt_ [false] [] [] [1, 3]
      refine aS hS ?_
      refine zp 18 hf hS fun a hf => ?_
      refine zp 19 hf hS fun a hf => ?_
      refine iteB hGc4 (fun hc4 hGc4 => ?_) fun hc4 hGc4 => ?_
      ·have hf := hf.lit 36 rfl hc4
       refine strT (H.lt_ [true] [] [] [1, 3]) (fun w H => H.lt_ [false] [] [] [0, 1]) fun hS => ?_
       refine tSg 20 [] rfl rfl rfl rfl rfl rfl hf (by kernel_rfl) (by kernel_rfl) hS (fun w H => rq_loadBN hf H TF.la94 0 rfl rfl rfl rfl) fun a hf => ?_
       refine zg 22 hf hS fun a hf => ?_
       refine zg 23 hf hS fun a hf => ?_
       obtain ⟨e3, he3, hGc4⟩ := bs_ hGc4
       obtain ⟨p3, o8, cs8, hx3, hr8, H⟩ := pre_iaddr H Try.underlying35 TF.sz94 6 rfl he3
       refine tPg 24 rfl rfl rfl rfl rfl rfl hf (by kernel_rfl) (fun _ => hS) (fun w => rq_iaddrE hf rfl rfl rfl hx3 w) fun a hf => ?_
       obtain rfl := Block_cells hr8
       refine strT (H.lt_ [true] [] [] [0, 2, 4]) (fun w H => H.lt_ [true] [] [] [1, 2]) fun hS => ?_
       refine tSg 25 [] rfl rfl rfl rfl rfl rfl hf (by kernel_rfl) (by kernel_rfl) hS (fun w H => rq_loadIN hf H TF.la94 0 0 rfl rfl rfl rfl) fun a hf => ?_
       obtain ⟨y3, hy3, hGc4⟩ := bs_ hGc4
       refine n1g 21 (by kernel_rfl) rfl rfl rfl rfl hf (oC hf TF.cl92 (impl_maskOf_ok (S := TT) Block_mkv hy3) fun v3 w a hp8 hf => ?_)
       obtain ⟨hb3, hp8⟩ := hp8
       obtain rfl := VR_int hp8
       have H := H.keep hb3
       have hS := H.lt_ [true] [] [] [0, 2, 4]
       refine aS hS ?_
       obtain ⟨y4, hy4, hGc4⟩ := bs_ hGc4
       refine n1g 26 (by kernel_rfl) rfl rfl rfl rfl hf (oC hf TF.cl92 (impl_maskOf_ok (S := TT) Block_mkv hy4) fun v4 w a hp9 hf => ?_)
       obtain ⟨hb4, hp9⟩ := hp9
       obtain rfl := VR_int hp9
       have H := H.keep hb4
       have hS := H.lt_ [true] [] [] [0, 2, 4]
       refine aS hS ?_
       refine zg 27 hf hS fun a hf => ?_
       refine zg 28 hf hS fun a hf => ?_
       refine zp 29 hf hS fun a hf => ?_
       refine dk ?_
       obtain rfl := oi hGc4
       have hf := hf.pn [46, 0, 1, 2, 4, 8, 13, 14]
       have H := H.lt_ [true] [] [] [5, 6, 7, 8]
       exact ⟨hf, H⟩
      ·have hf := hf.lit 36 rfl hc4
       refine zU 20 hf hS fun a hf => ?_
       refine zU 21 hf hS fun a hf => ?_
       refine zU 22 hf hS fun a hf => ?_
       refine zU 23 hf hS fun a hf => ?_
       refine zU 24 hf hS fun a hf => ?_
       refine zU 25 hf hS fun a hf => ?_
       refine zU 26 hf hS fun a hf => ?_
       refine zU 27 hf hS fun a hf => ?_
       refine zU 28 hf hS fun a hf => ?_
       refine zp 29 hf hS fun a hf => ?_
       refine dk ?_
       obtain rfl := oi hGc4
       have hf := hf.pn [46, 0, 1, 2, 4, 8, 13, 14]
       have H := H.lt_ [true] [] [] [4, 5, 6, 7]
       exact ⟨hf, H⟩
     ·have hf := hf.lit 25 rfl hc3
      refine zU 9 hf trivial fun a hf => ?_
      refine zU 10 hf trivial fun a hf => ?_
      refine zU 11 hf trivial fun a hf => ?_
      refine zU 12 hf trivial fun a hf => ?_
      refine zU 13 hf trivial fun a hf => ?_
      refine zU 14 hf trivial fun a hf => ?_
      refine zU 15 hf trivial fun a hf => ?_
      refine zU 16 hf trivial fun a hf => ?_
      refine zU 17 hf trivial fun a hf => ?_
      refine zp 18 hf trivial fun a hf => ?_
      refine zp 19 hf trivial fun a hf => ?_
      refine zU 20 hf trivial fun a hf => ?_
      refine zU 21 hf trivial fun a hf => ?_
      refine zU 22 hf trivial fun a hf => ?_
      refine zU 23 hf trivial fun a hf => ?_
      refine zU 24 hf trivial fun a hf => ?_
      refine zU 25 hf trivial fun a hf => ?_
      refine zU 26 hf trivial fun a hf => ?_
      refine zU 27 hf trivial fun a hf => ?_
      refine zU 28 hf trivial fun a hf => ?_
      refine zp 29 hf trivial fun a hf => ?_
      refine dk ?_
      obtain rfl := oi hGc4
      have hf := hf.pn [46, 0, 1, 2, 4, 8, 13, 14]
      have H := H.lt_ [true] [] [] [0, 1, 2, 3]
      exact ⟨hf, H⟩
    ·have hf := hf.lit 20 rfl hc2
     refine zU 4 hf trivial fun a hf => ?_
     refine zU 5 hf trivial fun a hf => ?_
     refine zU 6 hf trivial fun a hf => ?_
     refine zp 7 hf trivial fun a hf => ?_
     refine zp 8 hf trivial fun a hf => ?_
     refine zU 9 hf trivial fun a hf => ?_
     refine zU 10 hf trivial fun a hf => ?_
     refine zU 11 hf trivial fun a hf => ?_
     refine zU 12 hf trivial fun a hf => ?_
     refine zU 13 hf trivial fun a hf => ?_
     refine zU 14 hf trivial fun a hf => ?_
     refine zU 15 hf trivial fun a hf => ?_
     refine zU 16 hf trivial fun a hf => ?_
     refine zU 17 hf trivial fun a hf => ?_
     refine zp 18 hf trivial fun a hf => ?_
     refine zp 19 hf trivial fun a hf => ?_
     refine zU 20 hf trivial fun a hf => ?_
     refine zU 21 hf trivial fun a hf => ?_
     refine zU 22 hf trivial fun a hf => ?_
     refine zU 23 hf trivial fun a hf => ?_
     refine zU 24 hf trivial fun a hf => ?_
     refine zU 25 hf trivial fun a hf => ?_
     refine zU 26 hf trivial fun a hf => ?_
     refine zU 27 hf trivial fun a hf => ?_
     refine zU 28 hf trivial fun a hf => ?_
     refine zp 29 hf trivial fun a hf => ?_
     refine dk ?_
     obtain rfl := oi hGc4
     have hf := hf.pn [46, 0, 1, 2, 4, 8, 13, 14]
     have H := H.lt_ [true] [] [] [0, 1, 2, 3]
     exact ⟨hf, H⟩
   refine then_n (ib hR1 hf (fun hc5 hR1 => ?_) fun hc5 hR1 => ?_)
   ·refine sqz (pz 1 hf fun a hf => ?_)
    refine wl_end (then_n (wp_ret (blk_r (then_r (then_r (blk_r (then_r (then_r (?_)))))))))
    obtain rfl := oi hR1
    replace hF := on_ret hF
    obtain rfl := oi hF
    refine rT hf ?_
    exact ⟨_, rfl, H.bel, mk_bool⟩
   ·refine wp_skip (blk_n (then_n (reg (pz 2 hf fun a hf => ?_))))
    refine wl_end ?_
    have hf := hf.pn [0, 1, 2, 4, 8, 13, 14]
    have H := H.lt_ [true] [] [] [0, 1, 2, 3]
    exact then_n ⟨w64 (i2 + 1), hR1, hf, H⟩
  ·refine wp_exit (then_x (then_x (blk_e (?_))))
   have hf := hf.pn [0, 1, 2, 4, 8, 13, 14]
   have H := H.lt_ [true] [] [] [0, 1, 2, 3]
   exact ⟨i2, (Option.some.inj hR1).symm, hf, H⟩
 rintro a w ⟨i3, rfl, hf, H⟩
 replace hF := on_next hF
 refine then_n (sqz (pz 1 hf fun a hf => ?_))
 refine wer ?_
 obtain rfl := oi hF
 refine rT hf ?_
 exact ⟨_, rfl, H.bel, mk_bool⟩
end AT
