/- The Go functions do what is told of them, by program (gen.py). -/
import Derived.Test.YtmokfdffnijbbaaGreatWFnDefragmentation2
set_option linter.unusedVariables false
set_option linter.unusedSimpArgs false
set_option maxRecDepth 100000
set_option maxHeartbeats 1000000
namespace AT
open Go Go.RowKit Go.Proofs
variable {fu : Nat} {w0 : World}
theorem spec_l21Lowest_ok {S : Nat → Prop} {v0_ : Value} {v1_ : Value} {v2_ : Value} {p : Plan} {i : Int} {hitless : Bool} {r : Int} (h0 : VR w0 S v0_ p) (h1 : VR w0 S v1_ i) (h2 : VR w0 S v2_ hitless) (hF : spec_l21Lowest fu p i hitless = some r) :
    Calls Tryz.prog 156 [v0_, v1_, v2_].toArray w0 fun e w' => ∃ v, e = .returned v ∧ (Below w0.heap.size w0 w' ∧ VR w' (St ⟨w0, []⟩ S [] [] [] true) v r) := by
 obtain ⟨A, c, A2, c2, A3, c3, rfl, hl, hl2, hl3⟩ := Plan_open h0
 obtain rfl := VR_int h1
 obtain rfl := VR_bool h2
 have H := Mem.start ⟨w0, []⟩ S
 have H := H.pA hl
 have H := H.pA hl2
 have H := H.pA hl3
 refine en Tryz.func156 fun a hf => ?_
 rw [spec_l21Lowest] at hF
 refine bx hf H fun b' a w hf H => ?_
 refine pz 1 hf fun a hf => ?_
 refine wr (pz 1 hf fun a hf => ?_)
 refine lB 0 hf H TF.ls35 fun a hf => ?_
 refine pz 1 hf fun a hf => ?_
 obtain ⟨e, he, hF⟩ := bs_ hF
 refine wl0 rfl (op_iaddr hf H Tryz.underlying35 TF.sz73 0 rfl rfl rfl he (by decide) fun p2 o cs a hf hr H => ?_)
 obtain ⟨A4, c4, rfl, hl4⟩ := Light_cells hr
 have H := H.pF hl4
 refine oq hf (rq_loadIN hf H TF.la73 1 0 rfl rfl rfl rfl) fun a hf => ?_
 refine aL hf H TF.zv73 fun b2 a w hf H => ?_
 refine sB 0 hf H TF.sz73 fun w H => ?_
 refine wl_end (then_n (sq (dw [] 7 fun w hb => ?_)))
 have H := H.keep hb
 refine strT (H.lt_ [false, true] [] [] []) (fun w H => trivial) fun hS => ?_
 refine zS 0 [] rfl rfl rfl rfl hf hS (fun w H => rq_loadBN hf H TF.la37 0 rfl rfl rfl rfl) fun a hf => ?_
 refine zp 1 hf hS fun a hf => ?_
 refine zp 3 hf hS fun a hf => ?_
 refine strT (H.lt_ [true, true] [] [] []) (fun w H => H.lt_ [false, true] [] [] []) fun hS => ?_
 refine zS 4 [] rfl rfl rfl rfl hf hS (fun w H => rq_loadBN hf H TF.la59 0 rfl rfl rfl rfl) fun a hf => ?_
 obtain ⟨y, hy, hF⟩ := bs_ hF
 refine nn 2 rfl (oC hf TF.cl216 (spec_l9Without_ok (S := TT) (Plan_mkv (x := p) (H.rt 4 rfl) (H.rt 3 rfl) (H.rt 2 rfl)) mk_int hy) fun v w a hp hf => ?_)
 obtain ⟨hb, hp⟩ := hp
 obtain ⟨A5, c5, A6, c6, A7, c7, rfl, hl5, hl6, hl7⟩ := Plan_open hp
 replace hl5 := H.rF hl5
 replace hl6 := H.rF hl6
 replace hl7 := H.rF hl7
 have H := H.keep hb
 have H := H.pT hl5
 have H := H.pT hl6
 have H := H.pT hl7
 have hS := H.lt_ [true, true] [] [] []
 refine aS hS ?_
 obtain ⟨y2, hy2, hF⟩ := bs_ hF
 refine nn 5 rfl (oC hf TF.cl212 (spec_l9Along_ok (S := TT) (Plan_mkv (x := y) (H.rt 2 rfl) (H.rt 1 rfl) (H.rt 0 rfl)) (Route_mkv (x := e.Route) (H.rt 3 rfl)) hy2) fun v2 w a hp2 hf => ?_)
 obtain ⟨hb2, hp2⟩ := hp2
 obtain rfl := VR_int hp2
 have H := H.keep hb2
 have hS := H.lt_ [true, true] [] [] []
 refine aS hS ?_
 refine zp 6 hf hS fun a hf => ?_
 refine dk ?_
 have hf := hf.pn [2, 7, 8]
 refine then_n (sqz (pz 3 hf fun a hf => ?_))
 refine lB 0 hf H TF.ls3 fun a hf => ?_
 obtain ⟨y3, hy3, hF⟩ := bs_ hF
 refine oc hf TF.cl149 (spec_l8Fits_ok (S := TT) mk_int mk_int hy3) fun v3 w a hp3 hf => ?_
 obtain ⟨hb3, F, hp4, hN⟩ := hp3
 obtain ⟨A8, c8, rfl, hl8⟩ := VO_list hp4
 have H := H.aO1 hb3 hN hl8
 have H := H.lend 0 rfl
 refine pz 1 hf fun a hf => ?_
 refine we (sqz (pz 1 hf fun a hf => ?_))
 refine wl_end (then_n ?_)
 obtain ⟨out', hB1, hF⟩ := bs_ hF
 have hf := hf.pn [2, 7, 9, 10]
 have H := H.lt_ [true, false] [] [true] [0, 4]
 refine loopC (fun (s : Int) (a : Act) (w : World) => match s with | k' => Fr a 66 [(2, (.bool hitless)), (7, (.pointer (some ⟨b2, 0, none⟩))), (9, (.slice A8 y3.length c8)), (10, (.int .i64 k'))] ∧ Mem ⟨w0, []⟩ S [⟨b2, 73, [(.int .i64 e.Id), (.int .i64 e.Route.Start), (.slice A4 e.Route.Fibers.length c4), (.int .i64 e.Block.First), (.int .i64 e.Block.Count)]⟩] [] [⟨F, MP.own F [(.slice A8 y3.length c8)] (y3 : List Int)⟩] [(true, MP.val [(.slice A8 y3.length c8)] (y3 : List Int)), (false, MP.val [(.slice A4 e.Route.Fibers.length c4)] (e.Route.Fibers : List Int))] w) (fun k (s : Int) => spec_l21Lowest_L1 fu hitless e y3 k s = some out') (fun s => out' = Out.next s) 0 fu hB1 ⟨hf, H⟩ (fun s h => by cases h) ?_ ?_
 ·rintro fk k' a w hR1 hI
  replace hR1 : spec_l21Lowest_L1 fu hitless e y3 (fk + 1) k' = some out' := hR1
  rw [spec_l21Lowest_L1] at hR1
  obtain ⟨hf, H⟩ := hI
  refine sq (sq ?_)
  obtain ⟨c9, hGc9, hR1⟩ := bs_ hR1
  have fh := hf.prune [2, 7, 9, 10] rfl
  have Hm := H.lt_ [true] [] [true] [0, 1]
  refine midF 40 (.bool c9) fh Hm ?_ fun a w hf H => ?_
  ·refine dw [] 14 fun w hb => ?_
   have H := H.keep hb
   refine zp 0 hf trivial fun a hf => ?_
   refine zp 1 hf trivial fun a hf => ?_
   refine zp 2 hf trivial fun a hf => ?_
   refine zp 3 hf trivial fun a hf => ?_
   refine zp 4 hf trivial fun a hf => ?_
   refine iteB hGc9 (fun hc hGc9 => ?_) fun hc hGc9 => ?_
   ·have hf := hf.lit 31 rfl hc
    refine zg 5 hf trivial fun a hf => ?_
    refine zg 6 hf trivial fun a hf => ?_
    obtain ⟨e2, he2, hGc9⟩ := bs_ hGc9
    obtain ⟨p3, o2, cs2, hx, hr2, H⟩ := pre_iaddr H Tryz.underlying47 TF.sz3 0 rfl he2
    refine tPg 7 rfl rfl rfl rfl rfl rfl hf (by kernel_rfl) (fun _ => trivial) (fun w => rq_iaddrE hf rfl rfl rfl hx w) fun a hf => ?_
    obtain rfl := hr2
    refine strT (H.lt_ [false] [] [false] [0]) (fun w H => trivial) fun hS => ?_
    refine tSg 8 [] rfl rfl rfl rfl rfl rfl hf (by kernel_rfl) (by kernel_rfl) hS (fun w H => rq_loadI hf H TF.ls3 0 0 rfl rfl rfl) fun a hf => ?_
    refine zg 9 hf hS fun a hf => ?_
    refine zg 10 hf hS fun a hf => ?_
    refine strT (H.lt_ [true] [] [false] [0]) (fun w H => H.lt_ [false] [] [] [0]) fun hS => ?_
    refine tSg 11 [] rfl rfl rfl rfl rfl rfl hf (by kernel_rfl) (by kernel_rfl) hS (fun w H => rq_loadB hf H TF.ls3 0 rfl rfl rfl) fun a hf => ?_
    refine zg 12 hf hS fun a hf => ?_
    refine zp 13 hf hS fun a hf => ?_
    refine dk ?_
    obtain rfl := oi hGc9
    have hf := hf.pn [40, 2, 7, 9, 10]
    have H := H.lt_ [true] [] [true] [1, 2]
    exact ⟨hf, H⟩
   ·have hf := hf.lit 31 rfl hc
    refine zU 5 hf trivial fun a hf => ?_
    refine zU 6 hf trivial fun a hf => ?_
    refine zU 7 hf trivial fun a hf => ?_
    refine zU 8 hf trivial fun a hf => ?_
    refine zU 9 hf trivial fun a hf => ?_
    refine zU 10 hf trivial fun a hf => ?_
    refine zU 11 hf trivial fun a hf => ?_
    refine zU 12 hf trivial fun a hf => ?_
    refine zp 13 hf trivial fun a hf => ?_
    refine dk ?_
    obtain rfl := oi hGc9
    have hf := hf.pn [40, 2, 7, 9, 10]
    have H := H.lt_ [true] [] [true] [0, 1]
    exact ⟨hf, H⟩
  refine then_n (ib hR1 hf (fun hc2 hR1 => ?_) fun hc2 hR1 => ?_)
  ·refine wp_skip (then_n (sq (wp_block (sq ?_))))
   obtain ⟨c10, hGc10, hR1⟩ := bs_ hR1
   have fh2 := hf.prune [2, 7, 9, 10] rfl
   have Hm2 := H.lt_ [true] [] [true] [0, 1]
   refine midF 58 (.bool c10) fh2 Hm2 ?_ fun a w hf H => ?_
   ·refine dw [] 16 fun w hb => ?_
    have H := H.keep hb
    refine zp 0 hf trivial fun a hf => ?_
    refine zp 1 hf trivial fun a hf => ?_
    refine zp 2 hf trivial fun a hf => ?_
    refine iteB hGc10 (fun hc3 hGc10 => ?_) fun hc3 hGc10 => ?_
    ·have hf := hf.lit 45 rfl hc3
     refine zU 3 hf trivial fun a hf => ?_
     refine zU 4 hf trivial fun a hf => ?_
     refine zU 5 hf trivial fun a hf => ?_
     refine zU 6 hf trivial fun a hf => ?_
     refine zU 7 hf trivial fun a hf => ?_
     refine zU 8 hf trivial fun a hf => ?_
     refine zU 9 hf trivial fun a hf => ?_
     refine zU 10 hf trivial fun a hf => ?_
     refine zU 11 hf trivial fun a hf => ?_
     refine zU 12 hf trivial fun a hf => ?_
     refine zU 13 hf trivial fun a hf => ?_
     refine zU 14 hf trivial fun a hf => ?_
     refine zp 15 hf trivial fun a hf => ?_
     refine dk ?_
     obtain rfl := oi hGc10
     have hf := hf.pn [58, 2, 7, 9, 10]
     have H := H.lt_ [true] [] [true] [0, 1]
     exact ⟨hf, H⟩
    ·have hf := hf.lit 45 rfl hc3
     refine zg 3 hf trivial fun a hf => ?_
     refine zg 4 hf trivial fun a hf => ?_
     obtain ⟨e3, he3, hGc10⟩ := bs_ hGc10
     obtain ⟨p4, o3, cs3, hx2, hr3, H⟩ := pre_iaddr H Tryz.underlying47 TF.sz3 0 rfl he3
     refine tPg 5 rfl rfl rfl rfl rfl rfl hf (by kernel_rfl) (fun _ => trivial) (fun w => rq_iaddrE hf rfl rfl rfl hx2 w) fun a hf => ?_
     obtain rfl := hr3
     refine strT (H.lt_ [false] [] [false] [0]) (fun w H => trivial) fun hS => ?_
     refine tSg 6 [] rfl rfl rfl rfl rfl rfl hf (by kernel_rfl) (by kernel_rfl) hS (fun w H => rq_loadI hf H TF.ls3 0 0 rfl rfl rfl) fun a hf => ?_
     refine zg 7 hf hS fun a hf => ?_
     refine zg 8 hf hS fun a hf => ?_
     refine strT (H.lt_ [true] [] [false] [0]) (fun w H => H.lt_ [false] [] [] [0]) fun hS => ?_
     refine tSg 9 [] rfl rfl rfl rfl rfl rfl hf (by kernel_rfl) (by kernel_rfl) hS (fun w H => rq_loadB hf H TF.ls3 0 rfl rfl rfl) fun a hf => ?_
     refine zg 10 hf hS fun a hf => ?_
     refine zg 11 hf hS fun a hf => ?_
     refine zg 12 hf hS fun a hf => ?_
     refine tSg 13 [] rfl rfl rfl rfl rfl rfl hf (by kernel_rfl) (by kernel_rfl) hS (fun w H => rq_loadB hf H TF.ls3 0 rfl rfl rfl) fun a hf => ?_
     refine zg 14 hf hS fun a hf => ?_
     refine zp 15 hf hS fun a hf => ?_
     refine dk ?_
     obtain rfl := oi hGc10
     have hf := hf.pn [58, 2, 7, 9, 10]
     have H := H.lt_ [true] [] [true] [1, 2]
     exact ⟨hf, H⟩
   refine then_n (ib hR1 hf (fun hc4 hR1 => ?_) fun hc4 hR1 => ?_)
   ·refine sqz (pz 2 hf fun a hf => ?_)
    obtain ⟨e4, he4, hR1⟩ := bs_ hR1
    refine wl0 rfl (op_iaddr hf H Tryz.underlying47 TF.sz3 0 rfl rfl rfl he4 (by decide) fun p5 o4 cs4 a hf hr4 H => ?_)
    obtain rfl := hr4
    refine oq hf (rq_loadI hf H TF.ls3 0 0 rfl rfl rfl) fun a hf => ?_
    refine pz 1 hf fun a hf => ?_
    refine wl_end (then_n (wp_ret (blk_r (then_r (then_r (blk_r (then_r (then_r (?_)))))))))
    obtain rfl := oi hR1
    replace hF := on_ret hF
    obtain rfl := oi hF
    refine rT hf ?_
    exact ⟨_, rfl, H.bel, mk_int⟩
   ·refine wp_skip (blk_n (then_n (reg (pz 3 hf fun a hf => ?_))))
    refine wl_end ?_
    have hf := hf.pn [2, 7, 9, 10]
    have H := H.lt_ [true] [] [true] [0, 1]
    exact then_n ⟨w64 (k' + 1), hR1, hf, H⟩
  ·refine wp_exit (then_x (then_x (blk_e (?_))))
   have hf := hf.pn [2, 7, 9, 10]
   have H := H.lt_ [true] [] [true] [0, 1]
   exact ⟨k', (Option.some.inj hR1).symm, hf, H⟩
 rintro a w ⟨k2, rfl, hf, H⟩
 replace hF := on_next hF
 refine then_n (sqz (pz 2 hf fun a hf => ?_))
 refine lB 0 hf H TF.ls3 fun a hf => ?_
 refine pz 1 hf fun a hf => ?_
 refine wer ?_
 obtain rfl := oi hF
 refine rT hf ?_
 exact ⟨_, rfl, H.bel, mk_int⟩
theorem spec_l21Step_ok {S : Nat → Prop} {v0_ : Value} {v1_ : Value} {p : Plan} {hitless : Bool} {r : Plan × Int} (h0 : VR w0 S v0_ p) (h1 : VR w0 S v1_ hitless) (hF : spec_l21Step fu p hitless = some r) :
    Calls Tryz.prog 87 [v0_, v1_].toArray w0 fun e w' => ∃ v, e = .returned v ∧ (Below w0.heap.size w0 w' ∧ ∃ u0 u1, v = .tuple #[u0, u1] ∧ VR w' (St ⟨w0, []⟩ S [] [] [] true) u0 r.1 ∧ VR w' (St ⟨w0, []⟩ S [] [] [] true) u1 r.2) := by
 obtain ⟨A, c, A2, c2, A3, c3, rfl, hl, hl2, hl3⟩ := Plan_open h0
 obtain rfl := VR_bool h1
 have H := Mem.start ⟨w0, []⟩ S
 have H := H.pA hl
 have H := H.pA hl2
 have H := H.pA hl3
 refine en Tryz.func87 fun a hf => ?_
 rw [spec_l21Step] at hF
 refine bx hf H fun b' a w hf H => ?_
 refine aL hf H TF.zv37 fun b2 a w hf H => ?_
 refine pz 1 hf fun a hf => ?_
 refine wr (lN 1 hf H TF.la37 fun a hf => ?_)
 obtain ⟨y, hy, hF⟩ := bs_ hF
 refine oc hf TF.cl57 (spec_l9Own_ok (S := TT) (Plan_mkv (x := p) (H.rt 2 rfl) (H.rt 1 rfl) (H.rt 0 rfl)) hy) fun v w a hp hf => ?_
 obtain ⟨hb, F, hp2, hN⟩ := hp
 obtain ⟨A4, c4, F2, A5, c5, F3, A6, c6, F4, rfl, rfl, hl4, hl5, hl6⟩ := Plan_vo hp2
 have H := H.aO3 hb (by first | exact hN | simpa using hN) hl4 hl5 hl6
 have H := H.lend 0 rfl
 have H := H.lend 1 rfl
 have H := H.lend 2 rfl
 have H := H.frontD 2 rfl
 obtain ⟨Fs, E, H, -⟩ := H.thaw rfl
 have H := H.pA hl
 have H := H.pA hl2
 have H := H.pA hl3
 have H := H.lend 0 rfl
 have H := H.lend 1 rfl
 have H := H.rowSh 0 rfl
 refine aL hf H TF.zv37 fun b3 a w hf H => ?_
 refine sB 0 hf H TF.sz37 fun w H => ?_
 refine we (sqz (pz 1 hf fun a hf => ?_))
 refine wl_end (then_n ?_)
 obtain ⟨out', hB1, hF⟩ := bs_ hF
 have hf := hf.pn [1, 4, 6, 7]
 have H := H.lt_ [true, true, false] [true] [true, true] [0, 1]
 refine loopC (fun (s : Int) (a : Act) (w : World) => match s with | i => Fr a 52 [(1, (.bool hitless)), (4, (.pointer (some ⟨b2, 0, none⟩))), (6, (.pointer (some ⟨b3, 0, none⟩))), (7, (.int .i64 i))] ∧ Mem ⟨w0, []⟩ S [⟨b3, 37, [(.slice A4 y.Network.Nodes.length c4), (.slice A5 y.Network.Fibers.length c5), (.slice A6 y.Lights.length c6)]⟩, ⟨b2, 37, [(.slice none 0 0), (.slice none 0 0), (.slice none 0 0)]⟩] [⟨.sh true, E, A6, c6, (y.Lights : List Light)⟩] [⟨F2, MP.own F2 [(.slice A4 y.Network.Nodes.length c4)] (y.Network.Nodes : List ByteArray)⟩, ⟨F3, MP.own F3 [(.slice A5 y.Network.Fibers.length c5)] (y.Network.Fibers : List Fiber)⟩] [(true, MP.val [(.slice A5 y.Network.Fibers.length c5)] (y.Network.Fibers : List Fiber)), (true, MP.val [(.slice A4 y.Network.Nodes.length c4)] (y.Network.Nodes : List ByteArray))] w) (fun k (s : Int) => spec_l21Step_L1 fu hitless y k s = some out') (fun s => out' = Out.next s) 0 fu hB1 ⟨hf, H⟩ (fun s h => by cases h) ?_ ?_
 ·rintro fk i a w hR1 hI
  replace hR1 : spec_l21Step_L1 fu hitless y (fk + 1) i = some out' := hR1
  rw [spec_l21Step_L1] at hR1
  obtain ⟨hf, H⟩ := hI
  refine sq (sqz (pz 2 hf fun a hf => ?_))
  refine lB 0 hf H TF.ls35 fun a hf => ?_
  refine pz 2 hf fun a hf => ?_
  refine wl_end (then_n (ib hR1 hf (fun hc hR1 => ?_) fun hc hR1 => ?_))
  ·refine ws (lN 0 hf H TF.la37 fun a hf => ?_)
   refine pz 2 hf fun a hf => ?_
   obtain ⟨y2, hy2, hR1⟩ := bs_ hR1
   refine oc hf TF.cl156 (spec_l21Lowest_ok (S := TT) (Plan_mkv (x := y) (H.rt 1 rfl) (H.rt 0 rfl) (H.rowTrue 0 rfl)) mk_int mk_bool hy2) fun v2 w a hp3 hf => ?_
   obtain ⟨hb2, hp3⟩ := hp3
   obtain rfl := VR_int hp3
   have H := H.keep hb2
   refine pz 1 hf fun a hf => ?_
   refine wr (pz 2 hf fun a hf => ?_)
   refine lB 0 hf H TF.ls35 fun a hf => ?_
   refine pz 1 hf fun a hf => ?_
   obtain ⟨e, he, hR1⟩ := bs_ hR1
   refine wl0 rfl (op_iaddrR hf H Tryz.underlying35 TF.sz73 0 rfl rfl rfl he (by decide) fun p2 o cs a hf hA hr hk => ?_)
   obtain ⟨A7, c7, rfl, hl7⟩ := Light_cells hr
   have H := H.pT hl7
   refine pz 2 hf fun a hf => ?_
   refine oq hf (rq_load1 hf TF.ls3 rfl (hk 3 _ rfl)) fun a hf => ?_
   refine pz 1 hf fun a hf => ?_
   have hf := hf.pn [1, 4, 6, 7, 8, 31]
   refine wl_end (then_n (ib hR1 hf (fun hc2 hR1 => ?_) fun hc2 hR1 => ?_))
   ·refine sqz (pz 1 hf fun a hf => ?_)
    refine lB 0 hf H TF.ls35 fun a hf => ?_
    refine pz 1 hf fun a hf => ?_
    obtain ⟨e2, he2, hR1⟩ := bs_ hR1
    refine wl0 rfl (op_iaddrR hf H Tryz.underlying35 TF.sz73 0 rfl rfl rfl he2 (by decide) fun p3 o2 cs2 a hf hA2 hr2 hk2 => ?_)
    obtain ⟨A8, c8, rfl, hl8⟩ := Light_cells hr2
    have H := H.pT hl8
    refine oq hf (rq_loadN hf TF.la73 rfl rfl (fun j c hj => hk2 _ c (by simpa using hj))) fun a hf => ?_
    refine aL hf H TF.zv73 fun b4 a w hf H => ?_
    refine sB 0 hf H TF.sz73 fun w H => ?_
    refine wr (pz 3 hf fun a hf => ?_)
    refine lB 0 hf H TF.ls3 fun a hf => ?_
    refine oq hf (rq_build hf (cs := [(.int .i64 y2), (.int .i64 e2.Block.Count)]) rfl (fun w => by kernel_rfl)) fun a hf => ?_
    refine pz 1 hf fun a hf => ?_
    refine sB 0 hf H TF.sz71 fun w H => ?_
    have hf := hf.pn [4, 6, 7, 9]
    refine wr (pz 1 hf fun a hf => ?_)
    refine lB 1 hf H TF.ls35 fun a hf => ?_
    refine pz 1 hf fun a hf => ?_
    refine lN 0 hf H TF.la73 fun a hf => ?_
    obtain ⟨e3, he3, hR1⟩ := bs_ hR1
    refine wl0 rfl (op_iaddrR hf H Tryz.underlying35 TF.sz73 0 rfl rfl rfl he3 (by decide) fun p4 o3 cs3 a hf hA3 hr3 hk3 => ?_)
    obtain ⟨A9, c9, rfl, hl9⟩ := Light_cells hr3
    have H := H.pT hl9
    refine wl0 rfl (op_storeR (e' := ({ Id := e2.Id, Route := e2.Route, Block := ({ First := y2, Count := e2.Block.Count } : Block) } : Light)) (o := o3) (off := 0) hf H TF.sz73 0 rfl rfl rfl rfl rfl (nle rfl) rfl hA3 he3 (st_full (Light_mk (x := ({ Id := e2.Id, Route := e2.Route, Block := ({ First := y2, Count := e2.Block.Count } : Block) } : Light)) (H.get 1 rfl))) fun w H => ?_)
    replace hf : Fr a 52 [(4, (.pointer (some ⟨b2, 0, none⟩))), (6, (.pointer (some ⟨b3, 0, none⟩))), (7, (.int .i64 i)), (9, (.pointer (some ⟨b4, 0, none⟩))), (43, (.pointer (some ⟨b3, 2, none⟩))), (44, (.slice A6 y.Lights.length c6)), (45, (.int .i64 i)), (46, (.agg #[(.int .i64 e2.Id), (.int .i64 e2.Route.Start), (.slice A8 e2.Route.Fibers.length c8), (.int .i64 y2), (.int .i64 e2.Block.Count)])), (47, (.pointer (some ⟨p4, o3 + 0, none⟩)))] := hf.prune [4, 6, 7, 9, 43, 44, 45, 46, 47] rfl
    replace hf : Fr a 52 [(4, (.pointer (some ⟨b2, 0, none⟩))), (6, (.pointer (some ⟨b3, 0, none⟩))), (7, (.int .i64 i)), (9, (.pointer (some ⟨b4, 0, none⟩))), (43, (.pointer (some ⟨b3, 2, none⟩))), (44, (.slice A6 (y.Lights.set (i : Int).toNat ({ Id := e2.Id, Route := e2.Route, Block := ({ First := y2, Count := e2.Block.Count } : Block) } : Light)).length c6)), (45, (.int .i64 i)), (46, (.agg #[(.int .i64 e2.Id), (.int .i64 e2.Route.Start), (.slice A8 e2.Route.Fibers.length c8), (.int .i64 y2), (.int .i64 e2.Block.Count)])), (47, (.pointer (some ⟨p4, o3 + 0, none⟩)))] := by simpa only [List.length_set, Nat.add_zero] using hf
    replace H : Mem ⟨w0, []⟩ S [⟨b4, 73, [(.int .i64 e2.Id), (.int .i64 e2.Route.Start), (.slice A8 e2.Route.Fibers.length c8), (.int .i64 y2), (.int .i64 e2.Block.Count)]⟩, ⟨b3, 37, [(.slice A4 y.Network.Nodes.length c4), (.slice A5 y.Network.Fibers.length c5), (.slice A6 (y.Lights.set (i : Int).toNat ({ Id := e2.Id, Route := e2.Route, Block := ({ First := y2, Count := e2.Block.Count } : Block) } : Light)).length c6)]⟩, ⟨b2, 37, [(.slice none 0 0), (.slice none 0 0), (.slice none 0 0)]⟩] [⟨.sh true, E, A6, c6, (y.Lights.set (i : Int).toNat ({ Id := e2.Id, Route := e2.Route, Block := ({ First := y2, Count := e2.Block.Count } : Block) } : Light) : List Light)⟩] [⟨F2, MP.own F2 [(.slice A4 y.Network.Nodes.length c4)] (y.Network.Nodes : List ByteArray)⟩, ⟨F3, MP.own F3 [(.slice A5 y.Network.Fibers.length c5)] (y.Network.Fibers : List Fiber)⟩] [(true, MP.val [(.slice A9 e3.Route.Fibers.length c9)] (e3.Route.Fibers : List Int)), (true, MP.val [(.slice A8 e2.Route.Fibers.length c8)] (e2.Route.Fibers : List Int)), (true, MP.val [(.slice A7 e.Route.Fibers.length c7)] (e.Route.Fibers : List Int)), (true, MP.val [(.slice A5 y.Network.Fibers.length c5)] (y.Network.Fibers : List Fiber)), (true, MP.val [(.slice A4 y.Network.Nodes.length c4)] (y.Network.Nodes : List ByteArray))] w := by first | (simp only [List.length_set]; exact H) | (simp only [List.length_set] at H ⊢; exact H)
    refine wl_end (then_n (sq (mid (fun a w => Fr a 52 [(4, (.pointer (some ⟨b2, 0, none⟩))), (5, (.int .i64 e2.Id))] ∧ Mem ⟨w0, []⟩ S [⟨b2, 37, [(.slice A4 y.Network.Nodes.length c4), (.slice A5 y.Network.Fibers.length c5), (.slice A6 (y.Lights.set (i : Int).toNat ({ Id := e2.Id, Route := e2.Route, Block := ({ First := y2, Count := e2.Block.Count } : Block) } : Light)).length c6)]⟩] [⟨.sh true, E, A6, c6, (y.Lights.set (i : Int).toNat ({ Id := e2.Id, Route := e2.Route, Block := ({ First := y2, Count := e2.Block.Count } : Block) } : Light) : List Light)⟩] [⟨F2, MP.own F2 [(.slice A4 y.Network.Nodes.length c4)] (y.Network.Nodes : List ByteArray)⟩, ⟨F3, MP.own F3 [(.slice A5 y.Network.Fibers.length c5)] (y.Network.Fibers : List Fiber)⟩] [(true, MP.val [(.slice A5 y.Network.Fibers.length c5)] (y.Network.Fibers : List Fiber)), (true, MP.val [(.slice A4 y.Network.Nodes.length c4)] (y.Network.Nodes : List ByteArray))] w) ?_ ?_)))
    ·refine dw [3] 5 fun w hb => ?_
     have H := H.keep hb
     refine strT (H.lt_ [false, true, false] [false] [false, false] []) (fun w H => trivial) fun hS => ?_
     refine zS 0 [0, 3, 4] rfl rfl rfl rfl hf hS (fun w H => rq_loadBN hf H TF.la37 0 rfl rfl rfl rfl) fun a hf => ?_
     refine zp 1 hf hS fun a hf => ?_
     refine on2 (i := 2) (j := 3) (bi := [true, true, true, false, false]) (bj := [true, true, false, true, false]) (by kernel_rfl) rfl rfl rfl rfl rfl rfl ?_ ?_
     ·refine (op_q hf (rq_loadB hf H TF.ls3 0 rfl rfl rfl) rfl (by decide) fun a hf => ?_)
      have hS := H.lt_ [false, true, false] [false] [false, false] []
      refine aS hS ?_
      refine nn 3 rfl (op_storeB hf H 2 TF.sz37 rfl rfl rfl rfl rfl rfl (nle rfl) fun w H => ?_)
      refine ⟨fun h => absurd h (by decide), ?_⟩
      refine tp 4 rfl rfl hf (by kernel_rfl) (fun h => absurd h (by decide)) rfl fun a hf => ?_
      refine dk ?_
      have hf := hf.pn [4, 5]
      have H := H.lt_ [false, false, true] [true] [true, true] [3, 4]
      exact ⟨hf, H⟩
     ·refine (op_storeB hf H 2 TF.sz37 rfl rfl rfl rfl rfl rfl (nle rfl) fun w H => ?_)
      refine ⟨fun h => absurd h (by decide), ?_⟩
      refine nn 2 rfl (op_q hf (rq_loadB hf H TF.ls3 0 rfl rfl rfl) rfl (by decide) fun a hf => ?_)
      refine ⟨fun h => absurd h (by decide), ?_⟩
      refine tp 4 rfl rfl hf (by kernel_rfl) (fun h => absurd h (by decide)) rfl fun a hf => ?_
      refine dk ?_
      have hf := hf.pn [4, 5]
      have H := H.lt_ [false, false, true] [true] [true, true] [3, 4]
      exact ⟨hf, H⟩
    rintro a w ⟨hf, H⟩
    refine then_n (wp_ret (blk_r (then_r (then_r (blk_r (then_r (then_r (?_))))))))
    have H := H.freeze 0 rfl
    obtain rfl := oi hR1
    replace hF := on_ret hF
    obtain rfl := oi hF
    refine ret_2 hf rfl (rv_cellN hf H 0 TF.la37 rfl rfl rfl) (rv_tmp hf rfl) ?_
    exact ⟨_, rfl, H.bel, _, _, rfl, (Plan_mkv (x := ({ Network := y.Network, Lights := y.Lights.set (i : Int).toNat ({ Id := e2.Id, Route := e2.Route, Block := ({ First := y2, Count := e2.Block.Count } : Block) } : Light) } : Plan)) (rep_end (α := List ByteArray) (H.get 2 rfl)) (rep_end (α := List Fiber) (H.get 1 rfl)) (rep_end (α := List Light) (H.get 0 rfl))), mk_int⟩
   ·refine wp_skip (blk_n (then_n (reg (pz 3 hf fun a hf => ?_))))
    refine wl_end ?_
    have hf := hf.pn [1, 4, 6, 7]
    have H := H.lt_ [true, true] [true] [true, true] [1, 2]
    exact then_n ⟨w64 (i + 1), hR1, hf, H⟩
  ·refine wp_exit (then_x (then_x (blk_e (?_))))
   have hf := hf.pn [1, 4, 6, 7]
   have H := H.lt_ [true, true] [true] [true, true] [0, 1]
   exact ⟨i, (Option.some.inj hR1).symm, hf, H⟩
 rintro a w ⟨i2, rfl, hf, H⟩
 replace hF := on_next hF
 refine then_n (sq (reg (lN 0 hf H TF.la37 fun a hf => ?_)))
 refine sB 1 hf H TF.sz37 fun w H => ?_
 refine pz 1 hf fun a hf => ?_
 refine wer ?_
 have H := H.freeze 0 rfl
 obtain rfl := oi hF
 refine ret_2 hf rfl (rv_cellN hf H 1 TF.la37 rfl rfl rfl) (rv_tmp hf rfl) ?_
 exact ⟨_, rfl, H.bel, _, _, rfl, (Plan_mkv (x := y) (rep_end (α := List ByteArray) (H.get 2 rfl)) (rep_end (α := List Fiber) (H.get 1 rfl)) (rep_end (α := List Light) (H.get 0 rfl))), mk_int⟩
theorem spec_Defragment_ok {S : Nat → Prop} {v0_ : Value} {v1_ : Value} {v2_ : Value} {p : Plan} {hitless : Bool} {limit : Int} {r : Plan × List Int × Bool} (h0 : VR w0 S v0_ p) (h1 : VR w0 S v1_ hitless) (h2 : VR w0 S v2_ limit) (hF : spec_Defragment fu p hitless limit = some r) :
    Calls Tryz.prog 31 [v0_, v1_, v2_].toArray w0 fun e w' => ∃ v, e = .returned v ∧ (Below w0.heap.size w0 w' ∧ ∃ u0 u1 u2, v = .tuple #[u0, u1, u2] ∧ VR w' (St ⟨w0, []⟩ S [] [] [] true) u0 r.1 ∧ VR w' (St ⟨w0, []⟩ S [] [] [] true) u1 r.2.1 ∧ VR w' (St ⟨w0, []⟩ S [] [] [] true) u2 r.2.2) := by
 obtain ⟨A, c, A2, c2, A3, c3, rfl, hl, hl2, hl3⟩ := Plan_open h0
 obtain rfl := VR_bool h1
 obtain rfl := VR_int h2
 have H := Mem.start ⟨w0, []⟩ S
 have H := H.pA hl
 have H := H.pA hl2
 have H := H.pA hl3
 refine en Tryz.func31 fun a hf => ?_
 rw [spec_Defragment] at hF
 refine bx hf H fun b' a w hf H => ?_
 refine aL hf H TF.zv37 fun b2 a w hf H => ?_
 refine pz 2 hf fun a hf => ?_
 refine wr (wl0 rfl (bl hf H 3 ([] : List Int) [] el0 fun A4 a w hf H => ?_))
 refine pz 1 hf fun a hf => ?_
 refine wl_end (then_n (sq (sq ?_)))
 obtain ⟨c4, hGc4, hF⟩ := bs_ hF
 have fh := hf.prune [1, 2, 3, 6, 9] rfl
 have Hm := H.lt_ [true, true] [true] [] [0, 1, 2]
 refine midF 21 (.bool c4) fh Hm ?_ fun a w hf H => ?_
 ·refine reg (lN 1 hf H TF.la37 fun a hf => ?_)
  obtain ⟨y, hy, hGc4⟩ := bs_ hGc4
  refine oc hf TF.cl49 (spec_l9Good_ok (S := TT) (Plan_mkv (x := p) (H.rt 2 rfl) (H.rt 1 rfl) (H.rt 0 rfl)) hy) fun v w a hp hf => ?_
  obtain ⟨hb, hp⟩ := hp
  obtain rfl := VR_bool hp
  have H := H.keep hb
  refine pz 2 hf fun a hf => ?_
  refine iteB hGc4 (fun hc hGc4 => ?_) fun hc hGc4 => ?_
  ·have hf := hf.lit 17 rfl hc
   refine pz 4 hf fun a hf => ?_
   obtain rfl := oi hGc4
   have hf := hf.pn [21, 1, 2, 3, 6, 9]
   have H := H.lt_ [true, true] [true] [] [0, 1, 2]
   exact wl_end ⟨hf, H⟩
  ·have hf := hf.lit 17 rfl hc
   refine pz 1 hf fun a hf => ?_
   obtain ⟨y2, hy2, hGc4⟩ := bs_ hGc4
   refine wlg hf rfl rfl rfl (oC hf TF.cl86 (spec_l1In_ok (S := TT) mk_int mk_int mk_int hy2) fun v2 w a hp2 hf => ?_)
   obtain ⟨hb2, hp2⟩ := hp2
   obtain rfl := VR_bool hp2
   have H := H.keep hb2
   refine pz 2 hf fun a hf => ?_
   obtain rfl := oi hGc4
   have hf := hf.pn [21, 1, 2, 3, 6, 9]
   have H := H.lt_ [true, true] [true] [] [0, 1, 2]
   exact wl_end ⟨hf, H⟩
 refine then_n (ib hF hf (fun hc2 hF => ?_) fun hc2 hF => ?_)
 ·refine sq (reg (oq hf (rq_build hf (cs := [(.slice none 0 0), (.slice none 0 0), (.slice none 0 0)]) rfl (fun w => by kernel_rfl)) fun a hf => ?_))
  refine pz 1 hf fun a hf => ?_
  refine sB 0 hf H TF.sz37 fun w H => ?_
  refine pz 2 hf fun a hf => ?_
  refine wl_end (then_n (wp_ret (then_r (?_))))
  have H := H.pushNil (ByteArray) true
  have H := H.pushNil (Fiber) true
  have H := H.pushNil (Light) true
  have H := H.freeze 0 rfl
  obtain rfl := oi hF
  refine ret_3 hf rfl (rv_cellN hf H 0 TF.la37 rfl rfl rfl) (rv_tmp hf rfl) (rv_tmp hf rfl) ?_
  exact ⟨_, rfl, H.bel, _, _, _, rfl, (Plan_mkv (x := ({ Network := ({ Nodes := [], Fibers := [] } : Network), Lights := [] } : Plan)) (rep_end (α := List ByteArray) (H.get 3 rfl)) (rep_end (α := List Fiber) (H.get 2 rfl)) (rep_end (α := List Light) (H.get 1 rfl))), (mk_list (rep_end (α := List Int) (H.get 0 rfl))), mk_bool⟩
 ·refine wp_skip (then_n (sq (reg (lN 1 hf H TF.la37 fun a hf => ?_))))
  obtain ⟨y3, hy3, hF⟩ := bs_ hF
  refine oc hf TF.cl57 (spec_l9Own_ok (S := TT) (Plan_mkv (x := p) (H.rt 2 rfl) (H.rt 1 rfl) (H.rt 0 rfl)) hy3) fun v3 w a hp3 hf => ?_
  obtain ⟨hb3, F, hp4, hN⟩ := hp3
  obtain ⟨A5, c5, F2, A6, c6, F3, A7, c7, F4, rfl, rfl, hl4, hl5, hl6⟩ := Plan_vo hp4
  have H := H.aO3 hb3 (by first | exact hN | simpa using hN) hl4 hl5 hl6
  have H := H.lend 0 rfl
  have H := H.lend 1 rfl
  have H := H.lend 2 rfl
  refine aL hf H TF.zv37 fun b3 a w hf H => ?_
  refine sB 0 hf H TF.sz37 fun w H => ?_
  refine wl_end (then_n (sq ?_))
  obtain ⟨out', hB1, hF⟩ := bs_ hF
  have hf := hf.pn [1, 2, 6, 9, 10]
  have H := H.lt_ [true, true, false] [true] [false, false, false] [0, 1, 2]
  refine loopC (fun (s : Int × List Int × List ByteArray × List Fiber × List Light) (a : Act) (w : World) => match s with | (limit2, ids, m, m2, m3) => ∃ (A8 : Option Addr) (c8 : Nat) (E : Go.TypeId) (A9 : Option Addr) (c9 : Nat) (A10 : Option Addr) (c10 : Nat) (A11 : Option Addr) (c11 : Nat), Fr a 45 [(1, (.bool hitless)), (2, (.int .i64 limit2)), (6, (.pointer (some ⟨b2, 0, none⟩))), (9, (.slice A8 ids.length c8)), (10, (.pointer (some ⟨b3, 0, none⟩)))] ∧ Mem ⟨w0, []⟩ S [⟨b3, 37, [(.slice A9 m.length c9), (.slice A10 m2.length c10), (.slice A11 m3.length c11)]⟩, ⟨b2, 37, [(.slice none 0 0), (.slice none 0 0), (.slice none 0 0)]⟩] [⟨.sh true, E, A8, c8, (ids : List Int)⟩] [] [(true, MP.val [(.slice A11 m3.length c11)] (m3 : List Light)), (true, MP.val [(.slice A10 m2.length c10)] (m2 : List Fiber)), (true, MP.val [(.slice A9 m.length c9)] (m : List ByteArray))] w) (fun k (s : Int × List Int × List ByteArray × List Fiber × List Light) => spec_Defragment_L1 fu hitless k s.1 s.2.1 s.2.2.1 s.2.2.2.1 s.2.2.2.2 = some out') (fun s => out' = s) (limit, ([] : List Int), y3.Network.Nodes, y3.Network.Fibers, y3.Lights) fu hB1 ⟨A4, 0, 3, A5, c5, A6, c6, A7, c7, hf, H⟩ (fun s h => by cases h) ?_ ?_
  ·rintro fk ⟨limit2, ids, m, m2, m3⟩ a w hR1 hI
   replace hR1 : spec_Defragment_L1 fu hitless (fk + 1) limit2 ids m m2 m3 = some out' := hR1
   rw [spec_Defragment_L1] at hR1
   obtain ⟨A8, c8, E, A9, c9, A10, c10, A11, c11, hf, H⟩ := hI
   refine sq (sqz (pz 2 hf fun a hf => ?_))
   refine wl_end (then_n (ib hR1 hf (fun hc3 hR1 => ?_) fun hc3 hR1 => ?_))
   ·refine ws (lN 0 hf H TF.la37 fun a hf => ?_)
    refine pz 1 hf fun a hf => ?_
    obtain ⟨y4, hy4, hR1⟩ := bs_ hR1
    refine oc hf TF.cl87 (spec_l21Step_ok (S := TT) (Plan_mkv (x := ({ Network := ({ Nodes := m, Fibers := m2 } : Network), Lights := m3 } : Plan)) (H.rt 2 rfl) (H.rt 1 rfl) (H.rt 0 rfl)) mk_bool hy4) fun v4 w a hp5 hf => ?_
    obtain ⟨hb4, v5, v6, rfl, hp6, hp7⟩ := hp5
    obtain ⟨A12, c12, A13, c13, A14, c14, rfl, hl7, hl8, hl9⟩ := Plan_open hp6
    replace hl7 := H.rF hl7
    replace hl8 := H.rF hl8
    replace hl9 := H.rF hl9
    obtain rfl := VR_int hp7
    have H := H.keep hb4
    have H := H.pT hl7
    have H := H.pT hl8
    have H := H.pT hl9
    refine pz 3 hf fun a hf => ?_
    refine aL hf H TF.zv37 fun b4 a w hf H => ?_
    refine sB 0 hf H TF.sz37 fun w H => ?_
    refine pz 1 hf fun a hf => ?_
    refine we (sqz (pz 2 hf fun a hf => ?_))
    refine wl_end (then_n (ib hR1 hf (fun hc4 hR1 => ?_) fun hc4 hR1 => ?_))
    ·refine wp_exit (then_x (blk_x rfl (then_x (then_x (blk_e (?_))))))
     have hf := hf.pn [1, 2, 6, 9, 10]
     have H := H.lt_ [false, true, true] [true] [] [3, 4, 5]
     exact ⟨(limit2, ids, m, m2, m3), (Option.some.inj hR1).symm, A8, c8, E, A9, c9, A10, c10, A11, c11, hf, H⟩
    ·refine wp_skip (then_n (sq (reg (lN 0 hf H TF.la37 fun a hf => ?_))))
     refine sB 1 hf H TF.sz37 fun w H => ?_
     refine wl_end (then_n (reg (pz 2 hf fun a hf => ?_)))
     refine wl0 rfl (bl hf H 3 ([y4.2] : List Int) [(.int .i64 y4.2)] (el1 (y := y4.2) (rfl)) fun A15 a w hf H => ?_)
     obtain ⟨l, hl_, hR1⟩ := bs_ hR1
     refine wl0 rfl (op_appR hf H Tryz.underlying47 TF.ai3 rfl (by decide) 1 0 rfl rfl rfl rfl (.inr rfl) hl_ (by decide) fun E2 A16 c15 a w hf H => ?_)
     refine pz 1 hf fun a hf => ?_
     have hf := hf.pn [1, 2, 6, 9, 10]
     refine wl_end (blk_n (then_n (reg (pz 3 hf fun a hf => ?_))))
     refine wl_end ?_
     have hf := hf.pn [1, 2, 6, 9, 10]
     have H := H.lt_ [false, true, true] [false, true] [] [0, 1, 2]
     exact then_n ⟨(w64 (limit2 - 1), l, y4.1.Network.Nodes, y4.1.Network.Fibers, y4.1.Lights), hR1, A16, c15, E2, A12, c12, A13, c13, A14, c14, hf, H⟩
   ·refine wp_exit (then_x (then_x (blk_e (?_))))
    have hf := hf.pn [1, 2, 6, 9, 10]
    have H := H.lt_ [true, true] [true] [] [0, 1, 2]
    exact ⟨(limit2, ids, m, m2, m3), (Option.some.inj hR1).symm, A8, c8, E, A9, c9, A10, c10, A11, c11, hf, H⟩
  rintro a w ⟨⟨limit3, ids2, m4, m5, m6⟩, rfl, A17, c16, E3, A18, c17, A19, c18, A20, c19, hf, H⟩
  try dsimp only at hF
  refine then_n (sq (reg (lN 0 hf H TF.la37 fun a hf => ?_)))
  refine pz 1 hf fun a hf => ?_
  refine sB 1 hf H TF.sz37 fun w H => ?_
  refine pz 2 hf fun a hf => ?_
  refine wer ?_
  have H := H.freeze 0 rfl
  obtain rfl := oi hF
  refine ret_3 hf rfl (rv_cellN hf H 1 TF.la37 rfl rfl rfl) (rv_tmp hf rfl) (rv_tmp hf rfl) ?_
  exact ⟨_, rfl, H.bel, _, _, _, rfl, (Plan_mkv (x := ({ Network := ({ Nodes := m4, Fibers := m5 } : Network), Lights := m6 } : Plan)) (rep_end (α := List ByteArray) (H.get 3 rfl)) (rep_end (α := List Fiber) (H.get 2 rfl)) (rep_end (α := List Light) (H.get 1 rfl))), (mk_list (rep_end (α := List Int) (H.get 0 rfl))), mk_bool⟩
theorem laws_vNetworks_ok {S : Nat → Prop} {v0_ : Value} {v1_ : Value} {a' : Network} {b' : Network} {r : Bool} (h0 : VR w0 S v0_ a') (h1 : VR w0 S v1_ b') (hF : laws_vNetworks fu a' b' = some r) :
    Calls Tryz.prog 88 [v0_, v1_].toArray w0 fun e w' => ∃ v, e = .returned v ∧ (Below w0.heap.size w0 w' ∧ VR w' (St ⟨w0, []⟩ S [] [] [] true) v r) := by
 obtain ⟨A, c, A2, c2, rfl, hl, hl2⟩ := Network_open h0
 obtain ⟨A3, c3, A4, c4, rfl, hl3, hl4⟩ := Network_open h1
 have H := Mem.start ⟨w0, []⟩ S
 have H := H.pA hl
 have H := H.pA hl2
 have H := H.pA hl3
 have H := H.pA hl4
 refine en Tryz.func88 fun a hf => ?_
 rw [laws_vNetworks] at hF
 refine bx hf H fun b2 a w hf H => ?_
 refine wl0 rfl (op_box hf H rfl rfl (by decide) fun b3 a w hf H => ?_)
 refine pz 1 hf fun a hf => ?_
 refine wl_end (then_n (sq (sq ?_)))
 obtain ⟨c5, hGc5, hF⟩ := bs_ hF
 have fh := hf.prune [2, 3] rfl
 have Hm := H.lt_ [true, true] [] [] [0, 1, 2, 3]
 refine midF 22 (.bool c5) fh Hm ?_ fun a w hf H => ?_
 ·refine reg (pz 1 hf fun a hf => ?_)
  refine lB 1 hf H TF.ls22 fun a hf => ?_
  refine pz 2 hf fun a hf => ?_
  refine lB 0 hf H TF.ls22 fun a hf => ?_
  refine pz 3 hf fun a hf => ?_
  refine iteB hGc5 (fun hc hGc5 => ?_) fun hc hGc5 => ?_
  ·have hf := hf.lit 14 rfl hc
   refine pz 8 hf fun a hf => ?_
   obtain rfl := oi hGc5
   have hf := hf.pn [22, 2, 3]
   have H := H.lt_ [true, true] [] [] [0, 1, 2, 3]
   exact wl_end ⟨hf, H⟩
  ·have hf := hf.lit 14 rfl hc
   refine pz 1 hf fun a hf => ?_
   refine wlg hf rfl rfl rfl (op_q hf (rq_loadB hf H TF.ls32 1 rfl rfl rfl) rfl (by decide) fun a hf => ?_)
   refine pz 2 hf fun a hf => ?_
   refine wlg hf rfl rfl rfl (op_q hf (rq_loadB hf H TF.ls32 0 rfl rfl rfl) rfl (by decide) fun a hf => ?_)
   refine pz 3 hf fun a hf => ?_
   obtain rfl := oi hGc5
   have hf := hf.pn [22, 2, 3]
   have H := H.lt_ [true, true] [] [] [0, 1, 2, 3]
   exact wl_end ⟨hf, H⟩
 refine then_n (ib hF hf (fun hc2 hF => ?_) fun hc2 hF => ?_)
 ·refine sqz (pz 1 hf fun a hf => ?_)
  refine wl_end (then_n (wp_ret (then_r (?_))))
  obtain rfl := oi hF
  refine rT hf ?_
  exact ⟨_, rfl, H.bel, mk_bool⟩
 ·refine wp_skip (then_n (sq (sqz (pz 1 hf fun a hf => ?_))))
  refine wl_end (then_n ?_)
  obtain ⟨out', hB1, hF⟩ := bs_ hF
  have hf := hf.pn [2, 3, 5]
  have H := H.lt_ [true, true] [] [] [0, 1, 2, 3]
  refine loopC (fun (s : Int) (a : Act) (w : World) => match s with | i => Fr a 59 [(2, (.pointer (some ⟨b2, 0, none⟩))), (3, (.pointer (some ⟨b3, 0, none⟩))), (5, (.int .i64 i))] ∧ Mem ⟨w0, []⟩ S [⟨b3, 34, [(.slice A3 b'.Nodes.length c3), (.slice A4 b'.Fibers.length c4)]⟩, ⟨b2, 34, [(.slice A a'.Nodes.length c), (.slice A2 a'.Fibers.length c2)]⟩] [] [] [(false, MP.val [(.slice A4 b'.Fibers.length c4)] (b'.Fibers : List Fiber)), (false, MP.val [(.slice A3 b'.Nodes.length c3)] (b'.Nodes : List ByteArray)), (false, MP.val [(.slice A2 a'.Fibers.length c2)] (a'.Fibers : List Fiber)), (false, MP.val [(.slice A a'.Nodes.length c)] (a'.Nodes : List ByteArray))] w) (fun k (s : Int) => laws_vNetworks_L1 fu a' b' k s = some out') (fun s => out' = Out.next s) 0 fu hB1 ⟨hf, H⟩ (fun s h => by cases h) ?_ ?_
  ·rintro fk i a w hR1 hI
   replace hR1 : laws_vNetworks_L1 fu a' b' (fk + 1) i = some out' := hR1
   rw [laws_vNetworks_L1] at hR1
   obtain ⟨hf, H⟩ := hI
   refine sq (sqz (pz 2 hf fun a hf => ?_))
   refine lB 1 hf H TF.ls22 fun a hf => ?_
   refine pz 2 hf fun a hf => ?_
   refine wl_end (then_n (ib hR1 hf (fun hc3 hR1 => ?_) fun hc3 hR1 => ?_))
   ·refine wp_skip (then_n (sq (wp_block (sq (dw [] 11 fun w hb => ?_)))))
    have H := H.keep hb
    refine zp 0 hf trivial fun a hf => ?_
    refine strT (H.lt_ [false, true] [] [] []) (fun w H => trivial) fun hS => ?_
    refine zS 1 [] rfl rfl rfl rfl hf hS (fun w H => rq_loadB hf H TF.ls22 0 rfl rfl rfl) fun a hf => ?_
    refine zp 2 hf hS fun a hf => ?_
    obtain ⟨e, he, hR1⟩ := bs_ hR1
    obtain ⟨p, o, cs, hx, hr, H⟩ := pre_iaddr H Tryz.underlying22 TF.sz9 3 rfl he
    refine zP 3 rfl rfl rfl rfl hf hS (fun w => rq_iaddrE hf rfl rfl rfl hx w) fun a hf => ?_
    obtain rfl := hr
    refine strT (H.lt_ [false, true] [] [] [0]) (fun w H => H.lt_ [true] [] [] []) fun hS => ?_
    refine zS 4 [] rfl rfl rfl rfl hf hS (fun w H => rq_loadI hf H TF.ls9 0 0 rfl rfl rfl) fun a hf => ?_
    refine zp 5 hf hS fun a hf => ?_
    refine strT (H.lt_ [true, true] [] [] [0]) (fun w H => H.lt_ [false, true] [] [] [0]) fun hS => ?_
    refine zS 6 [] rfl rfl rfl rfl hf hS (fun w H => rq_loadB hf H TF.ls22 0 rfl rfl rfl) fun a hf => ?_
    refine zp 7 hf hS fun a hf => ?_
    obtain ⟨e2, he2, hR1⟩ := bs_ hR1
    obtain ⟨p2, o2, cs2, hx2, hr2, H⟩ := pre_iaddr H Tryz.underlying22 TF.sz9 2 rfl he2
    refine zP 8 rfl rfl rfl rfl hf hS (fun w => rq_iaddrE hf rfl rfl rfl hx2 w) fun a hf => ?_
    obtain rfl := hr2
    refine strT (H.lt_ [true, true] [] [] [0, 1]) (fun w H => H.lt_ [true, true] [] [] [1]) fun hS => ?_
    refine zS 9 [] rfl rfl rfl rfl hf hS (fun w H => rq_loadI hf H TF.ls9 0 0 rfl rfl rfl) fun a hf => ?_
    refine zp 10 hf hS fun a hf => ?_
    refine dk ?_
    have hf := hf.pn [2, 3, 5, 40]
    refine then_n (ib hR1 hf (fun hc4 hR1 => ?_) fun hc4 hR1 => ?_)
    ·refine sqz (pz 1 hf fun a hf => ?_)
     refine wl_end (then_n (wp_ret (blk_r (then_r (then_r (blk_r (then_r (then_r (?_)))))))))
     obtain rfl := oi hR1
     replace hF := on_ret hF
     obtain rfl := oi hF
     refine rT hf ?_
     exact ⟨_, rfl, H.bel, mk_bool⟩
    ·refine wp_skip (blk_n (then_n (reg (pz 3 hf fun a hf => ?_))))
     refine wl_end ?_
     have hf := hf.pn [2, 3, 5]
     have H := H.lt_ [true, true] [] [] [2, 3, 4, 5]
     exact then_n ⟨w64 (i + 1), hR1, hf, H⟩
   ·refine wp_exit (then_x (then_x (blk_e (?_))))
    have hf := hf.pn [2, 3, 5]
    have H := H.lt_ [true, true] [] [] [0, 1, 2, 3]
    exact ⟨i, (Option.some.inj hR1).symm, hf, H⟩
  rintro a w ⟨i2, rfl, hf, H⟩
  replace hF := on_next hF
  refine then_n (sq (sqz (pz 1 hf fun a hf => ?_)))
  refine wl_end (then_n ?_)
  obtain ⟨out2, hB1, hF⟩ := bs_ hF
  have hf := hf.pn [2, 3, 6]
  have H := H.lt_ [true, true] [] [] [0, 1, 2, 3]
  refine loopC (fun (s : Int) (a : Act) (w : World) => match s with | i3 => Fr a 59 [(2, (.pointer (some ⟨b2, 0, none⟩))), (3, (.pointer (some ⟨b3, 0, none⟩))), (6, (.int .i64 i3))] ∧ Mem ⟨w0, []⟩ S [⟨b3, 34, [(.slice A3 b'.Nodes.length c3), (.slice A4 b'.Fibers.length c4)]⟩, ⟨b2, 34, [(.slice A a'.Nodes.length c), (.slice A2 a'.Fibers.length c2)]⟩] [] [] [(false, MP.val [(.slice A4 b'.Fibers.length c4)] (b'.Fibers : List Fiber)), (false, MP.val [(.slice A3 b'.Nodes.length c3)] (b'.Nodes : List ByteArray)), (false, MP.val [(.slice A2 a'.Fibers.length c2)] (a'.Fibers : List Fiber)), (false, MP.val [(.slice A a'.Nodes.length c)] (a'.Nodes : List ByteArray))] w) (fun k (s : Int) => laws_vNetworks_L2 fu a' b' k s = some out2) (fun s => out2 = Out.next s) 0 fu hB1 ⟨hf, H⟩ (fun s h => by cases h) ?_ ?_
  ·rintro fk i3 a w hR1 hI
   replace hR1 : laws_vNetworks_L2 fu a' b' (fk + 1) i3 = some out2 := hR1
   rw [laws_vNetworks_L2] at hR1
   obtain ⟨hf, H⟩ := hI
   refine sq (sqz (pz 2 hf fun a hf => ?_))
   refine lB 1 hf H TF.ls32 fun a hf => ?_
   refine pz 2 hf fun a hf => ?_
   refine wl_end (then_n (ib hR1 hf (fun hc5 hR1 => ?_) fun hc5 hR1 => ?_))
   ·refine wp_skip (then_n (sq (wp_block (sq (dw [] 11 fun w hb => ?_)))))
    have H := H.keep hb
    refine zp 0 hf trivial fun a hf => ?_
    refine strT (H.lt_ [false, true] [] [] []) (fun w H => trivial) fun hS => ?_
    refine zS 1 [] rfl rfl rfl rfl hf hS (fun w H => rq_loadB hf H TF.ls32 0 rfl rfl rfl) fun a hf => ?_
    refine zp 2 hf hS fun a hf => ?_
    obtain ⟨e3, he3, hR1⟩ := bs_ hR1
    obtain ⟨p3, o3, cs3, hx3, hr3, H⟩ := pre_iaddr H Tryz.underlying32 TF.sz180 2 rfl he3
    refine zP 3 rfl rfl rfl rfl hf hS (fun w => rq_iaddrE hf rfl rfl rfl hx3 w) fun a hf => ?_
    obtain rfl := Fiber_cells hr3
    refine strT (H.lt_ [false, true] [] [] [0]) (fun w H => H.lt_ [true] [] [] []) fun hS => ?_
    refine zS 4 [] rfl rfl rfl rfl hf hS (fun w H => rq_loadIN hf H TF.la180 0 0 rfl rfl rfl rfl) fun a hf => ?_
    refine zp 5 hf hS fun a hf => ?_
    refine strT (H.lt_ [true, true] [] [] [0]) (fun w H => H.lt_ [false, true] [] [] [0]) fun hS => ?_
    refine zS 6 [] rfl rfl rfl rfl hf hS (fun w H => rq_loadB hf H TF.ls32 0 rfl rfl rfl) fun a hf => ?_
    refine zp 7 hf hS fun a hf => ?_
    obtain ⟨e4, he4, hR1⟩ := bs_ hR1
    obtain ⟨p4, o4, cs4, hx4, hr4, H⟩ := pre_iaddr H Tryz.underlying32 TF.sz180 1 rfl he4
    refine zP 8 rfl rfl rfl rfl hf hS (fun w => rq_iaddrE hf rfl rfl rfl hx4 w) fun a hf => ?_
    obtain rfl := Fiber_cells hr4
    refine strT (H.lt_ [true, true] [] [] [0, 1]) (fun w H => H.lt_ [true, true] [] [] [1]) fun hS => ?_
    refine zS 9 [] rfl rfl rfl rfl hf hS (fun w H => rq_loadIN hf H TF.la180 0 0 rfl rfl rfl rfl) fun a hf => ?_
    refine zP 10 rfl rfl rfl rfl hf hS (fun w => rq_neT hf TF.qeqt180 ([e3.A, e3.B, e3.Length, e3.Risk] : List Int) ([e4.A, e4.B, e4.Length, e4.Risk] : List Int) rfl rfl rfl rfl rfl rfl) fun a hf => ?_
    refine dk ?_
    have hf := hf.pn [2, 3, 6, 58]
    refine then_n (ib hR1 hf (fun hc6 hR1 => ?_) fun hc6 hR1 => ?_)
    ·refine sqz (pz 1 hf fun a hf => ?_)
     refine wl_end (then_n (wp_ret (blk_r (then_r (then_r (blk_r (then_r (then_r (?_)))))))))
     obtain rfl := oi hR1
     replace hF := on_ret hF
     obtain rfl := oi hF
     refine rT hf ?_
     exact ⟨_, rfl, H.bel, mk_bool⟩
    ·refine wp_skip (blk_n (then_n (reg (pz 3 hf fun a hf => ?_))))
     refine wl_end ?_
     have hf := hf.pn [2, 3, 6]
     have H := H.lt_ [true, true] [] [] [2, 3, 4, 5]
     exact then_n ⟨w64 (i3 + 1), hR1, hf, H⟩
   ·refine wp_exit (then_x (then_x (blk_e (?_))))
    have hf := hf.pn [2, 3, 6]
    have H := H.lt_ [true, true] [] [] [0, 1, 2, 3]
    exact ⟨i3, (Option.some.inj hR1).symm, hf, H⟩
  rintro a w ⟨i4, rfl, hf, H⟩
  replace hF := on_next hF
  refine then_n (sqz (pz 1 hf fun a hf => ?_))
  refine wer ?_
  obtain rfl := oi hF
  refine rT hf ?_
  exact ⟨_, rfl, H.bel, mk_bool⟩
theorem laws_vInts_ok {S : Nat → Prop} {v0_ : Value} {v1_ : Value} {a' : List Int} {b' : List Int} {r : Bool} (h0 : VR w0 S v0_ a') (h1 : VR w0 S v1_ b') (hF : laws_vInts fu a' b' = some r) :
    Calls Tryz.prog 33 [v0_, v1_].toArray w0 fun e w' => ∃ v, e = .returned v ∧ (Below w0.heap.size w0 w' ∧ VR w' (St ⟨w0, []⟩ S [] [] [] true) v r) := by
 obtain ⟨A, c, rfl, hl⟩ := VR_list h0
 obtain ⟨A2, c2, rfl, hl2⟩ := VR_list h1
 have H := Mem.start ⟨w0, []⟩ S
 have H := H.pA hl
 have H := H.pA hl2
 refine en Tryz.func33 fun a hf => ?_
 rw [laws_vInts] at hF
 refine sqz (pz 1 hf fun a hf => ?_)
 refine we (sqz (pz 5 hf fun a hf => ?_))
 refine wl_end (then_n (ib hF hf (fun hc hF => ?_) fun hc hF => ?_))
 ·refine sqz (pz 1 hf fun a hf => ?_)
  refine wl_end (then_n (wp_ret (then_r (?_))))
  obtain rfl := oi hF
  refine rT hf ?_
  exact ⟨_, rfl, H.bel, mk_bool⟩
 ·refine wp_skip (then_n (sq (sqz (pz 1 hf fun a hf => ?_))))
  refine wl_end (then_n ?_)
  obtain ⟨out', hB1, hF⟩ := bs_ hF
  have hf := hf.pn [0, 1, 5]
  have H := H.lt_ [] [] [] [0, 1]
  refine loopC (fun (s : Int) (a : Act) (w : World) => match s with | i => Fr a 26 [(0, (.slice A a'.length c)), (1, (.slice A2 b'.length c2)), (5, (.int .i64 i))] ∧ Mem ⟨w0, []⟩ S [] [] [] [(false, MP.val [(.slice A2 b'.length c2)] (b' : List Int)), (false, MP.val [(.slice A a'.length c)] (a' : List Int))] w) (fun k (s : Int) => laws_vInts_L1 fu a' b' k s = some out') (fun s => out' = Out.next s) 0 fu hB1 ⟨hf, H⟩ (fun s h => by cases h) ?_ ?_
  ·rintro fk i a w hR1 hI
   replace hR1 : laws_vInts_L1 fu a' b' (fk + 1) i = some out' := hR1
   rw [laws_vInts_L1] at hR1
   obtain ⟨hf, H⟩ := hI
   refine sq (sqz (pz 4 hf fun a hf => ?_))
   refine wl_end (then_n (ib hR1 hf (fun hc2 hR1 => ?_) fun hc2 hR1 => ?_))
   ·refine wp_skip (then_n (sq (wp_block (sq (dw [] 9 fun w hb => ?_)))))
    have H := H.keep hb
    refine zp 0 hf trivial fun a hf => ?_
    refine zp 1 hf trivial fun a hf => ?_
    obtain ⟨e, he, hR1⟩ := bs_ hR1
    obtain ⟨p, o, cs, hx, hr, H⟩ := pre_iaddr H Tryz.underlying47 TF.sz3 1 rfl he
    refine tP 2 rfl rfl rfl rfl hf (by kernel_rfl) (fun _ => trivial) (fun w => rq_iaddrE hf rfl rfl rfl hx w) fun a hf => ?_
    obtain rfl := hr
    refine strT (H.lt_ [] [] [] [0]) (fun w H => trivial) fun hS => ?_
    refine zS 3 [] rfl rfl rfl rfl hf hS (fun w H => rq_loadI hf H TF.ls3 0 0 rfl rfl rfl) fun a hf => ?_
    refine zp 4 hf hS fun a hf => ?_
    refine zp 5 hf hS fun a hf => ?_
    obtain ⟨e2, he2, hR1⟩ := bs_ hR1
    obtain ⟨p2, o2, cs2, hx2, hr2, H⟩ := pre_iaddr H Tryz.underlying47 TF.sz3 1 rfl he2
    refine zP 6 rfl rfl rfl rfl hf hS (fun w => rq_iaddrE hf rfl rfl rfl hx2 w) fun a hf => ?_
    obtain rfl := hr2
    refine strT (H.lt_ [] [] [] [0, 1]) (fun w H => H.lt_ [] [] [] [1]) fun hS => ?_
    refine zS 7 [] rfl rfl rfl rfl hf hS (fun w H => rq_loadI hf H TF.ls3 0 0 rfl rfl rfl) fun a hf => ?_
    refine zp 8 hf hS fun a hf => ?_
    refine dk ?_
    refine then_n (ib hR1 hf (fun hc3 hR1 => ?_) fun hc3 hR1 => ?_)
    ·refine sqz (pz 1 hf fun a hf => ?_)
     have hf := hf.pn [4]
     refine wl_end (then_n (wp_ret (blk_r (then_r (then_r (blk_r (then_r (then_r (?_)))))))))
     obtain rfl := oi hR1
     replace hF := on_ret hF
     obtain rfl := oi hF
     refine rT hf ?_
     exact ⟨_, rfl, H.bel, mk_bool⟩
    ·refine wp_skip (blk_n (then_n (reg (pz 3 hf fun a hf => ?_))))
     have hf := hf.pn [0, 1, 5]
     refine wl_end ?_
     have hf := hf.pn [0, 1, 5]
     have H := H.lt_ [] [] [] [2, 3]
     exact then_n ⟨w64 (i + 1), hR1, hf, H⟩
   ·refine wp_exit (then_x (then_x (blk_e (?_))))
    have hf := hf.pn [0, 1, 5]
    have H := H.lt_ [] [] [] [0, 1]
    exact ⟨i, (Option.some.inj hR1).symm, hf, H⟩
  rintro a w ⟨i2, rfl, hf, H⟩
  replace hF := on_next hF
  refine then_n (sqz (pz 1 hf fun a hf => ?_))
  refine wer ?_
  obtain rfl := oi hF
  refine rT hf ?_
  exact ⟨_, rfl, H.bel, mk_bool⟩
theorem laws_vRoutes_ok {S : Nat → Prop} {v0_ : Value} {v1_ : Value} {a' : Route} {b' : Route} {r : Bool} (h0 : VR w0 S v0_ a') (h1 : VR w0 S v1_ b') (hF : laws_vRoutes fu a' b' = some r) :
    Calls Tryz.prog 35 [v0_, v1_].toArray w0 fun e w' => ∃ v, e = .returned v ∧ (Below w0.heap.size w0 w' ∧ VR w' (St ⟨w0, []⟩ S [] [] [] true) v r) := by
 obtain ⟨A, c, rfl, hl⟩ := Route_open h0
 obtain ⟨A2, c2, rfl, hl2⟩ := Route_open h1
 have H := Mem.start ⟨w0, []⟩ S
 have H := H.pA hl
 have H := H.pA hl2
 refine en Tryz.func35 fun a hf => ?_
 rw [laws_vRoutes] at hF
 refine bx hf H fun b2 a w hf H => ?_
 refine wl0 rfl (op_box hf H rfl rfl (by decide) fun b3 a w hf H => ?_)
 refine pz 1 hf fun a hf => ?_
 refine wl_end (then_n (sq ?_))
 obtain ⟨c3, hGc3, hF⟩ := bs_ hF
 have fh := hf.prune [] rfl
 have Hm := H.lt_ [false, false] [] [] []
 refine midF 4 (.bool c3) fh Hm ?_ fun a w hf H => ?_
 ·refine reg (pz 1 hf fun a hf => ?_)
  refine lB 1 hf H TF.ls3 fun a hf => ?_
  refine pz 1 hf fun a hf => ?_
  refine lB 0 hf H TF.ls3 fun a hf => ?_
  refine pz 2 hf fun a hf => ?_
  refine iteB hGc3 (fun hc hGc3 => ?_) fun hc hGc3 => ?_
  ·have hf := hf.lit 10 rfl hc
   refine pz 1 hf fun a hf => ?_
   refine wlg hf rfl rfl rfl (op_q hf (rq_loadB hf H TF.ls47 1 rfl rfl rfl) rfl (by decide) fun a hf => ?_)
   refine pz 1 hf fun a hf => ?_
   refine wlg hf rfl rfl rfl (op_q hf (rq_loadB hf H TF.ls47 0 rfl rfl rfl) rfl (by decide) fun a hf => ?_)
   obtain ⟨y, hy, hGc3⟩ := bs_ hGc3
   refine wlg hf rfl rfl rfl (oC hf TF.cl33 (laws_vInts_ok (S := TT) (mk_list (H.rt 1 rfl)) (mk_list (H.rt 0 rfl)) hy) fun v w a hp hf => ?_)
   obtain ⟨hb, hp⟩ := hp
   obtain rfl := VR_bool hp
   have H := H.keep hb
   refine pz 2 hf fun a hf => ?_
   obtain rfl := oi hGc3
   have hf := hf.pn [4]
   have H := H.lt_ [false, false] [] [] []
   exact wl_end ⟨hf, H⟩
  ·have hf := hf.lit 10 rfl hc
   refine pz 7 hf fun a hf => ?_
   obtain rfl := oi hGc3
   have hf := hf.pn [4]
   have H := H.lt_ [false, false] [] [] []
   exact wl_end ⟨hf, H⟩
 refine then_n (wp_ret (?_))
 obtain rfl := oi hF
 refine rT hf ?_
 exact ⟨_, rfl, H.bel, mk_bool⟩
theorem laws_vLights_ok {S : Nat → Prop} {v0_ : Value} {v1_ : Value} {a' : Light} {b' : Light} {r : Bool} (h0 : VR w0 S v0_ a') (h1 : VR w0 S v1_ b') (hF : laws_vLights fu a' b' = some r) :
    Calls Tryz.prog 89 [v0_, v1_].toArray w0 fun e w' => ∃ v, e = .returned v ∧ (Below w0.heap.size w0 w' ∧ VR w' (St ⟨w0, []⟩ S [] [] [] true) v r) := by
 obtain ⟨A, c, rfl, hl⟩ := Light_open h0
 obtain ⟨A2, c2, rfl, hl2⟩ := Light_open h1
 have H := Mem.start ⟨w0, []⟩ S
 have H := H.pA hl
 have H := H.pA hl2
 refine en Tryz.func89 fun a hf => ?_
 rw [laws_vLights] at hF
 refine bx hf H fun b2 a w hf H => ?_
 refine wl0 rfl (op_box hf H rfl rfl (by decide) fun b3 a w hf H => ?_)
 refine pz 1 hf fun a hf => ?_
 refine wl_end (then_n (sq ?_))
 obtain ⟨c3, hGc3, hF⟩ := bs_ hF
 have fh := hf.prune [] rfl
 have Hm := H.lt_ [false, false] [] [] []
 refine midF 4 (.bool c3) fh Hm ?_ fun a w hf H => ?_
 ·refine reg (pz 1 hf fun a hf => ?_)
  refine lB 1 hf H TF.ls3 fun a hf => ?_
  refine pz 1 hf fun a hf => ?_
  refine lB 0 hf H TF.ls3 fun a hf => ?_
  refine pz 2 hf fun a hf => ?_
  refine iteB hGc3 (fun hc hGc3 => ?_) fun hc hGc3 => ?_
  ·have hf := hf.lit 10 rfl hc
   refine pz 1 hf fun a hf => ?_
   refine wlg hf rfl rfl rfl (op_q hf (rq_loadBN hf H TF.la71 1 rfl rfl rfl rfl) rfl (by decide) fun a hf => ?_)
   refine pz 1 hf fun a hf => ?_
   refine wlg hf rfl rfl rfl (op_q hf (rq_loadBN hf H TF.la71 0 rfl rfl rfl rfl) rfl (by decide) fun a hf => ?_)
   refine wlg hf rfl rfl rfl (op_q hf (rq_eqT hf TF.qeqt71 ([a'.Block.First, a'.Block.Count] : List Int) ([b'.Block.First, b'.Block.Count] : List Int) rfl rfl rfl rfl rfl rfl) rfl (by decide) fun a hf => ?_)
   refine pz 2 hf fun a hf => ?_
   refine iteB hGc3 (fun hc2 hGc3 => ?_) fun hc2 hGc3 => ?_
   ·have hf := hf.lit 17 rfl hc2
    refine pz 1 hf fun a hf => ?_
    refine wlg hf rfl rfl rfl (op_q hf (rq_loadBN hf H TF.la59 1 rfl rfl rfl rfl) rfl (by decide) fun a hf => ?_)
    refine pz 1 hf fun a hf => ?_
    refine wlg hf rfl rfl rfl (op_q hf (rq_loadBN hf H TF.la59 0 rfl rfl rfl rfl) rfl (by decide) fun a hf => ?_)
    obtain ⟨y, hy, hGc3⟩ := bs_ hGc3
    refine wlg hf rfl rfl rfl (oC hf TF.cl35 (laws_vRoutes_ok (S := TT) (Route_mkv (x := a'.Route) (H.rt 1 rfl)) (Route_mkv (x := b'.Route) (H.rt 0 rfl)) hy) fun v w a hp hf => ?_)
    obtain ⟨hb, hp⟩ := hp
    obtain rfl := VR_bool hp
    have H := H.keep hb
    refine pz 2 hf fun a hf => ?_
    obtain rfl := oi hGc3
    have hf := hf.pn [4]
    have H := H.lt_ [false, false] [] [] []
    exact wl_end ⟨hf, H⟩
   ·have hf := hf.lit 17 rfl hc2
    refine pz 7 hf fun a hf => ?_
    obtain rfl := oi hGc3
    have hf := hf.pn [4]
    have H := H.lt_ [false, false] [] [] []
    exact wl_end ⟨hf, H⟩
  ·have hf := hf.lit 10 rfl hc
   refine pz 14 hf fun a hf => ?_
   obtain rfl := oi hGc3
   have hf := hf.pn [4]
   have H := H.lt_ [false, false] [] [] []
   exact wl_end ⟨hf, H⟩
 refine then_n (wp_ret (?_))
 obtain rfl := oi hF
 refine rT hf ?_
 exact ⟨_, rfl, H.bel, mk_bool⟩
theorem laws_vPlans_ok {S : Nat → Prop} {v0_ : Value} {v1_ : Value} {a' : Plan} {b' : Plan} {r : Bool} (h0 : VR w0 S v0_ a') (h1 : VR w0 S v1_ b') (hF : laws_vPlans fu a' b' = some r) :
    Calls Tryz.prog 32 [v0_, v1_].toArray w0 fun e w' => ∃ v, e = .returned v ∧ (Below w0.heap.size w0 w' ∧ VR w' (St ⟨w0, []⟩ S [] [] [] true) v r) := by
 obtain ⟨A, c, A2, c2, A3, c3, rfl, hl, hl2, hl3⟩ := Plan_open h0
 obtain ⟨A4, c4, A5, c5, A6, c6, rfl, hl4, hl5, hl6⟩ := Plan_open h1
 have H := Mem.start ⟨w0, []⟩ S
 have H := H.pA hl
 have H := H.pA hl2
 have H := H.pA hl3
 have H := H.pA hl4
 have H := H.pA hl5
 have H := H.pA hl6
 refine en Tryz.func32 fun a hf => ?_
 rw [laws_vPlans] at hF
 refine bx hf H fun b2 a w hf H => ?_
 refine wl0 rfl (op_box hf H rfl rfl (by decide) fun b3 a w hf H => ?_)
 refine pz 1 hf fun a hf => ?_
 refine wl_end (then_n (sq (sq ?_)))
 obtain ⟨c7, hGc7, hF⟩ := bs_ hF
 have fh := hf.prune [2, 3] rfl
 have Hm := H.lt_ [true, true] [] [] [0, 1, 2, 3, 4, 5]
 refine midF 20 (.bool c7) fh Hm ?_ fun a w hf H => ?_
 ·refine reg (pz 1 hf fun a hf => ?_)
  refine lN 1 hf H TF.la34 fun a hf => ?_
  refine pz 1 hf fun a hf => ?_
  refine lN 0 hf H TF.la34 fun a hf => ?_
  obtain ⟨y, hy, hGc7⟩ := bs_ hGc7
  refine oc hf TF.cl88 (laws_vNetworks_ok (S := TT) (Network_mkv (x := a'.Network) (H.rt 5 rfl) (H.rt 4 rfl)) (Network_mkv (x := b'.Network) (H.rt 2 rfl) (H.rt 1 rfl)) hy) fun v w a hp hf => ?_
  obtain ⟨hb, hp⟩ := hp
  obtain rfl := VR_bool hp
  have H := H.keep hb
  refine pz 2 hf fun a hf => ?_
  refine iteB hGc7 (fun hc hGc7 => ?_) fun hc hGc7 => ?_
  ·have hf := hf.lit 12 rfl hc
   refine pz 8 hf fun a hf => ?_
   obtain rfl := oi hGc7
   have hf := hf.pn [20, 2, 3]
   have H := H.lt_ [true, true] [] [] [0, 1, 2, 3, 4, 5]
   exact wl_end ⟨hf, H⟩
  ·have hf := hf.lit 12 rfl hc
   refine pz 1 hf fun a hf => ?_
   refine wlg hf rfl rfl rfl (op_q hf (rq_loadB hf H TF.ls35 1 rfl rfl rfl) rfl (by decide) fun a hf => ?_)
   refine pz 2 hf fun a hf => ?_
   refine wlg hf rfl rfl rfl (op_q hf (rq_loadB hf H TF.ls35 0 rfl rfl rfl) rfl (by decide) fun a hf => ?_)
   refine pz 3 hf fun a hf => ?_
   obtain rfl := oi hGc7
   have hf := hf.pn [20, 2, 3]
   have H := H.lt_ [true, true] [] [] [0, 1, 2, 3, 4, 5]
   exact wl_end ⟨hf, H⟩
 refine then_n (ib hF hf (fun hc2 hF => ?_) fun hc2 hF => ?_)
 ·refine sqz (pz 1 hf fun a hf => ?_)
  refine wl_end (then_n (wp_ret (then_r (?_))))
  obtain rfl := oi hF
  refine rT hf ?_
  exact ⟨_, rfl, H.bel, mk_bool⟩
 ·refine wp_skip (then_n (sq (sqz (pz 1 hf fun a hf => ?_))))
  refine wl_end (then_n ?_)
  obtain ⟨out', hB1, hF⟩ := bs_ hF
  have hf := hf.pn [2, 3, 5]
  have H := H.lt_ [true, true] [] [] [0, 1, 2, 3, 4, 5]
  refine loopC (fun (s : Int) (a : Act) (w : World) => match s with | i => Fr a 40 [(2, (.pointer (some ⟨b2, 0, none⟩))), (3, (.pointer (some ⟨b3, 0, none⟩))), (5, (.int .i64 i))] ∧ Mem ⟨w0, []⟩ S [⟨b3, 37, [(.slice A4 b'.Network.Nodes.length c4), (.slice A5 b'.Network.Fibers.length c5), (.slice A6 b'.Lights.length c6)]⟩, ⟨b2, 37, [(.slice A a'.Network.Nodes.length c), (.slice A2 a'.Network.Fibers.length c2), (.slice A3 a'.Lights.length c3)]⟩] [] [] [(false, MP.val [(.slice A6 b'.Lights.length c6)] (b'.Lights : List Light)), (false, MP.val [(.slice A5 b'.Network.Fibers.length c5)] (b'.Network.Fibers : List Fiber)), (false, MP.val [(.slice A4 b'.Network.Nodes.length c4)] (b'.Network.Nodes : List ByteArray)), (false, MP.val [(.slice A3 a'.Lights.length c3)] (a'.Lights : List Light)), (false, MP.val [(.slice A2 a'.Network.Fibers.length c2)] (a'.Network.Fibers : List Fiber)), (false, MP.val [(.slice A a'.Network.Nodes.length c)] (a'.Network.Nodes : List ByteArray))] w) (fun k (s : Int) => laws_vPlans_L1 fu a' b' k s = some out') (fun s => out' = Out.next s) 0 fu hB1 ⟨hf, H⟩ (fun s h => by cases h) ?_ ?_
  ·rintro fk i a w hR1 hI
   replace hR1 : laws_vPlans_L1 fu a' b' (fk + 1) i = some out' := hR1
   rw [laws_vPlans_L1] at hR1
   obtain ⟨hf, H⟩ := hI
   refine sq (sqz (pz 2 hf fun a hf => ?_))
   refine lB 1 hf H TF.ls35 fun a hf => ?_
   refine pz 2 hf fun a hf => ?_
   refine wl_end (then_n (ib hR1 hf (fun hc3 hR1 => ?_) fun hc3 hR1 => ?_))
   ·refine wp_skip (then_n (sq (wp_block (sq (dw [] 12 fun w hb => ?_)))))
    have H := H.keep hb
    refine zp 0 hf trivial fun a hf => ?_
    refine strT (H.lt_ [false, true] [] [] []) (fun w H => trivial) fun hS => ?_
    refine zS 1 [] rfl rfl rfl rfl hf hS (fun w H => rq_loadB hf H TF.ls35 0 rfl rfl rfl) fun a hf => ?_
    refine zp 2 hf hS fun a hf => ?_
    obtain ⟨e, he, hR1⟩ := bs_ hR1
    obtain ⟨p, o, cs, hx, hr, H⟩ := pre_iaddr H Tryz.underlying35 TF.sz73 3 rfl he
    refine zP 3 rfl rfl rfl rfl hf hS (fun w => rq_iaddrE hf rfl rfl rfl hx w) fun a hf => ?_
    obtain ⟨A7, c8, rfl, hl7⟩ := Light_cells hr
    have H := H.pF hl7
    refine strT (H.lt_ [false, true] [] [] [1]) (fun w H => H.lt_ [true] [] [] []) fun hS => ?_
    refine zS 4 [] rfl rfl rfl rfl hf hS (fun w H => rq_loadIN hf H TF.la73 0 0 rfl rfl rfl rfl) fun a hf => ?_
    refine zp 5 hf hS fun a hf => ?_
    refine strT (H.lt_ [true, true] [] [] [1]) (fun w H => H.lt_ [false, true] [] [] [0]) fun hS => ?_
    refine zS 6 [] rfl rfl rfl rfl hf hS (fun w H => rq_loadB hf H TF.ls35 0 rfl rfl rfl) fun a hf => ?_
    refine zp 7 hf hS fun a hf => ?_
    obtain ⟨e2, he2, hR1⟩ := bs_ hR1
    obtain ⟨p2, o2, cs2, hx2, hr2, H⟩ := pre_iaddr H Tryz.underlying35 TF.sz73 2 rfl he2
    refine zP 8 rfl rfl rfl rfl hf hS (fun w => rq_iaddrE hf rfl rfl rfl hx2 w) fun a hf => ?_
    obtain ⟨A8, c9, rfl, hl8⟩ := Light_cells hr2
    have H := H.pF hl8
    refine strT (H.lt_ [true, true] [] [] [1, 3]) (fun w H => H.lt_ [true, true] [] [] [1]) fun hS => ?_
    refine zS 9 [] rfl rfl rfl rfl hf hS (fun w H => rq_loadIN hf H TF.la73 0 0 rfl rfl rfl rfl) fun a hf => ?_
    obtain ⟨y2, hy2, hR1⟩ := bs_ hR1
    refine nn 10 rfl (oC hf TF.cl89 (laws_vLights_ok (S := TT) (Light_mkv (x := e) (H.rt 2 rfl)) (Light_mkv (x := e2) (H.rt 0 rfl)) hy2) fun v2 w a hp2 hf => ?_)
    obtain ⟨hb2, hp2⟩ := hp2
    obtain rfl := VR_bool hp2
    have H := H.keep hb2
    have hS := H.lt_ [true, true] [] [] [1, 3]
    refine aS hS ?_
    refine zp 11 hf hS fun a hf => ?_
    refine dk ?_
    have hf := hf.pn [2, 3, 5, 39]
    refine then_n (ib hR1 hf (fun hc4 hR1 => ?_) fun hc4 hR1 => ?_)
    ·refine sqz (pz 1 hf fun a hf => ?_)
     refine wl_end (then_n (wp_ret (blk_r (then_r (then_r (blk_r (then_r (then_r (?_)))))))))
     obtain rfl := oi hR1
     replace hF := on_ret hF
     obtain rfl := oi hF
     refine rT hf ?_
     exact ⟨_, rfl, H.bel, mk_bool⟩
    ·refine wp_skip (blk_n (then_n (reg (pz 3 hf fun a hf => ?_))))
     refine wl_end ?_
     have hf := hf.pn [2, 3, 5]
     have H := H.lt_ [true, true] [] [] [4, 5, 6, 7, 8, 9]
     exact then_n ⟨w64 (i + 1), hR1, hf, H⟩
   ·refine wp_exit (then_x (then_x (blk_e (?_))))
    have hf := hf.pn [2, 3, 5]
    have H := H.lt_ [true, true] [] [] [0, 1, 2, 3, 4, 5]
    exact ⟨i, (Option.some.inj hR1).symm, hf, H⟩
  rintro a w ⟨i2, rfl, hf, H⟩
  replace hF := on_next hF
  refine then_n (sqz (pz 1 hf fun a hf => ?_))
  refine wer ?_
  obtain rfl := oi hF
  refine rT hf ?_
  exact ⟨_, rfl, H.bel, mk_bool⟩
theorem impl_IsCompact_ok {S : Nat → Prop} {v0_ : Value} {v1_ : Value} {p : Plan} {hitless : Bool} {r : Bool × Bool} (h0 : VR w0 S v0_ p) (h1 : VR w0 S v1_ hitless) (hF : impl_IsCompact fu p hitless = some r) :
    Calls Tryz.prog 36 [v0_, v1_].toArray w0 fun e w' => ∃ v, e = .returned v ∧ (Below w0.heap.size w0 w' ∧ ∃ u0 u1, v = .tuple #[u0, u1] ∧ VR w' (St ⟨w0, []⟩ S [] [] [] true) u0 r.1 ∧ VR w' (St ⟨w0, []⟩ S [] [] [] true) u1 r.2) := by
 obtain ⟨A, c, A2, c2, A3, c3, rfl, hl, hl2, hl3⟩ := Plan_open h0
 obtain rfl := VR_bool h1
 have H := Mem.start ⟨w0, []⟩ S
 have H := H.pA hl
 have H := H.pA hl2
 have H := H.pA hl3
 refine en Tryz.func36 fun a hf => ?_
 rw [impl_IsCompact] at hF
 refine bx hf H fun b' a w hf H => ?_
 refine pz 2 hf fun a hf => ?_
 refine wl_end (then_n (sq (sq (reg (lN 0 hf H TF.la37 fun a hf => ?_)))))
 obtain ⟨y, hy, hF⟩ := bs_ hF
 refine oc hf TF.cl34 (impl_IsValidPlan_ok (S := TT) (Plan_mkv (x := p) (H.rt 2 rfl) (H.rt 1 rfl) (H.rt 0 rfl)) hy) fun v w a hp hf => ?_
 obtain ⟨hb, hp⟩ := hp
 obtain rfl := VR_bool hp
 have H := H.keep hb
 refine pz 1 hf fun a hf => ?_
 refine wl_end (then_n (ib hF hf (fun hc hF => ?_) fun hc hF => ?_))
 ·refine sqz (pz 2 hf fun a hf => ?_)
  refine wl_end (then_n (wp_ret (then_r (?_))))
  obtain rfl := oi hF
  refine ret_2 hf rfl (rv_tmp hf rfl) (rv_tmp hf rfl) ?_
  exact ⟨_, rfl, H.bel, _, _, rfl, mk_bool, mk_bool⟩
 ·refine wp_skip (then_n (sq (reg (lN 0 hf H TF.la37 fun a hf => ?_))))
  refine pz 1 hf fun a hf => ?_
  obtain ⟨y2, hy2, hF⟩ := bs_ hF
  refine oc hf TF.cl85 (impl_lowered_ok (S := TT) (Plan_mkv (x := p) (H.rt 2 rfl) (H.rt 1 rfl) (H.rt 0 rfl)) mk_bool hy2) fun v2 w a hp2 hf => ?_
  obtain ⟨hb2, F, v3, v4, rfl, hp3, hp4, hN⟩ := hp2
  obtain ⟨A4, c4, F2, A5, c5, F3, A6, c6, F4, rfl, rfl, hl4, hl5, hl6⟩ := Plan_vo hp3
  obtain rfl := VR_int hp4
  have H := H.aO3 hb2 (by first | exact hN | simpa using hN) hl4 hl5 hl6
  have H := H.lend 0 rfl
  have H := H.lend 1 rfl
  have H := H.lend 2 rfl
  refine pz 3 hf fun a hf => ?_
  refine aL hf H TF.zv37 fun b2 a w hf H => ?_
  refine sB 0 hf H TF.sz37 fun w H => ?_
  refine pz 1 hf fun a hf => ?_
  have hf := hf.pn [7]
  refine wr (pz 4 hf fun a hf => ?_)
  refine wer ?_
  obtain rfl := oi hF
  refine ret_2 hf rfl (rv_tmp hf rfl) (rv_tmp hf rfl) ?_
  exact ⟨_, rfl, H.bel, _, _, rfl, mk_bool, mk_bool⟩
theorem impl_planHeight_ok {S : Nat → Prop} {v0_ : Value} {p : Plan} {r : Int} (h0 : VR w0 S v0_ p) (hF : impl_planHeight fu p = some r) :
    Calls Tryz.prog 95 [v0_].toArray w0 fun e w' => ∃ v, e = .returned v ∧ (Below w0.heap.size w0 w' ∧ VR w' (St ⟨w0, []⟩ S [] [] [] true) v r) := by
 obtain ⟨A, c, A2, c2, A3, c3, rfl, hl, hl2, hl3⟩ := Plan_open h0
 have H := Mem.start ⟨w0, []⟩ S
 have H := H.pA hl
 have H := H.pA hl2
 have H := H.pA hl3
 refine en Tryz.func95 fun a hf => ?_
 rw [impl_planHeight] at hF
 refine bx hf H fun b' a w hf H => ?_
 refine pz 1 hf fun a hf => ?_
 refine wr (pz 1 hf fun a hf => ?_)
 refine we (sqz (pz 1 hf fun a hf => ?_))
 refine lB 0 hf H TF.ls35 fun a hf => ?_
 refine pz 2 hf fun a hf => ?_
 refine wl_end (then_n ?_)
 obtain ⟨out', hB1, hF⟩ := bs_ hF
 have hf := hf.pn [3, 7, 8, 9]
 have H := H.lt_ [false] [] [] [0]
 refine loopC (fun (s : Int × Int) (a : Act) (w : World) => match s with | (height, i) => Fr a 24 [(3, (.int .i64 height)), (7, (.slice A3 p.Lights.length c3)), (8, (.int .i64 (p.Lights.length : Int))), (9, (.int .i64 i))] ∧ Mem ⟨w0, []⟩ S [] [] [] [(false, MP.val [(.slice A3 p.Lights.length c3)] (p.Lights : List Light))] w) (fun k (s : Int × Int) => impl_planHeight_L1 fu p k s.1 s.2 = some out') (fun s => out' = s) (0, 0) fu hB1 ⟨hf, H⟩ (fun s h => by cases h) ?_ ?_
 ·rintro fk ⟨height, i⟩ a w hR1 hI
  replace hR1 : impl_planHeight_L1 fu p (fk + 1) height i = some out' := hR1
  rw [impl_planHeight_L1] at hR1
  obtain ⟨hf, H⟩ := hI
  refine sqz (pz 1 hf fun a hf => ?_)
  refine wl_end (then_n (sq (ib hR1 hf (fun hc hR1 => ?_) fun hc hR1 => ?_)))
  ·refine wp_skip (then_n (sq (wp_block (sq (reg ?_)))))
   obtain ⟨e, he, hR1⟩ := bs_ hR1
   refine wl0 rfl (op_iaddr hf H Tryz.underlying35 TF.sz73 0 rfl rfl rfl he (by decide) fun p2 o cs a hf hr H => ?_)
   obtain ⟨A4, c4, rfl, hl4⟩ := Light_cells hr
   have H := H.pF hl4
   refine oq hf (rq_loadIN hf H TF.la73 1 0 rfl rfl rfl rfl) fun a hf => ?_
   refine aL hf H TF.zv73 fun b2 a w hf H => ?_
   refine sB 0 hf H TF.sz73 fun w H => ?_
   refine wl_end (then_n (reg (pz 3 hf fun a hf => ?_)))
   refine lB 0 hf H TF.ls3 fun a hf => ?_
   refine pz 2 hf fun a hf => ?_
   refine lB 0 hf H TF.ls3 fun a hf => ?_
   refine pz 3 hf fun a hf => ?_
   have hf := hf.pn [3, 7, 8, 9]
   refine wl_end (blk_n (then_n (reg (pz 2 hf fun a hf => ?_))))
   refine wl_end ?_
   have hf := hf.pn [3, 7, 8, 9]
   have H := H.lt_ [false] [] [] [2]
   exact then_n ⟨(gmax height (w64 (e.Block.First + e.Block.Count)), w64 (i + 1)), hR1, hf, H⟩
  ·refine wp_exit (then_x (then_x (blk_e (?_))))
   have hf := hf.pn [3, 7, 8, 9]
   have H := H.lt_ [] [] [] [0]
   exact ⟨(height, i), (Option.some.inj hR1).symm, hf, H⟩
 rintro a w ⟨⟨height2, i2⟩, rfl, hf, H⟩
 try dsimp only at hF
 refine then_n (sqz (pz 2 hf fun a hf => ?_))
 refine wer ?_
 obtain rfl := oi hF
 refine rT hf ?_
 exact ⟨_, rfl, H.bel, mk_int⟩
theorem impl_PlanHeight_ok {S : Nat → Prop} {v0_ : Value} {p : Plan} {r : Int × Bool} (h0 : VR w0 S v0_ p) (hF : impl_PlanHeight fu p = some r) :
    Calls Tryz.prog 37 [v0_].toArray w0 fun e w' => ∃ v, e = .returned v ∧ (Below w0.heap.size w0 w' ∧ ∃ u0 u1, v = .tuple #[u0, u1] ∧ VR w' (St ⟨w0, []⟩ S [] [] [] true) u0 r.1 ∧ VR w' (St ⟨w0, []⟩ S [] [] [] true) u1 r.2) := by
 obtain ⟨A, c, A2, c2, A3, c3, rfl, hl, hl2, hl3⟩ := Plan_open h0
 have H := Mem.start ⟨w0, []⟩ S
 have H := H.pA hl
 have H := H.pA hl2
 have H := H.pA hl3
 refine en Tryz.func37 fun a hf => ?_
 rw [impl_PlanHeight] at hF
 refine bx hf H fun b' a w hf H => ?_
 refine pz 2 hf fun a hf => ?_
 refine wl_end (then_n (sq (sq (reg (lN 0 hf H TF.la37 fun a hf => ?_)))))
 obtain ⟨y, hy, hF⟩ := bs_ hF
 refine oc hf TF.cl34 (impl_IsValidPlan_ok (S := TT) (Plan_mkv (x := p) (H.rt 2 rfl) (H.rt 1 rfl) (H.rt 0 rfl)) hy) fun v w a hp hf => ?_
 obtain ⟨hb, hp⟩ := hp
 obtain rfl := VR_bool hp
 have H := H.keep hb
 refine pz 1 hf fun a hf => ?_
 refine wl_end (then_n (ib hF hf (fun hc hF => ?_) fun hc hF => ?_))
 ·refine sqz (pz 2 hf fun a hf => ?_)
  refine wl_end (then_n (wp_ret (then_r (?_))))
  obtain rfl := oi hF
  refine ret_2 hf rfl (rv_tmp hf rfl) (rv_tmp hf rfl) ?_
  exact ⟨_, rfl, H.bel, _, _, rfl, mk_int, mk_bool⟩
 ·refine wp_skip (then_n (sq (reg (lN 0 hf H TF.la37 fun a hf => ?_))))
  obtain ⟨y2, hy2, hF⟩ := bs_ hF
  refine oc hf TF.cl95 (impl_planHeight_ok (S := TT) (Plan_mkv (x := p) (H.rt 2 rfl) (H.rt 1 rfl) (H.rt 0 rfl)) hy2) fun v2 w a hp2 hf => ?_
  obtain ⟨hb2, hp2⟩ := hp2
  obtain rfl := VR_int hp2
  have H := H.keep hb2
  refine pz 2 hf fun a hf => ?_
  refine wer ?_
  obtain rfl := oi hF
  refine ret_2 hf rfl (rv_tmp hf rfl) (rv_tmp hf rfl) ?_
  exact ⟨_, rfl, H.bel, _, _, rfl, mk_int, mk_bool⟩
theorem laws_FnDefragmentation_ok {S : Nat → Prop} {v0_ : Value} {code : List By} {r : Bool} (h0 : VR w0 S v0_ code) (hF : laws_FnDefragmentation fu code = some r) :
    Calls Tryz.prog 6 [v0_].toArray w0 fun e w' => ∃ v, e = .returned v ∧ (Below w0.heap.size w0 w' ∧ VR w' (St ⟨w0, []⟩ S [] [] [] true) v r) := by
 obtain ⟨A, c, rfl, hl⟩ := VR_list h0
 have H := Mem.start ⟨w0, []⟩ S
 have H := H.pA hl
 refine en Tryz.func6 fun a hf => ?_
 rw [laws_FnDefragmentation] at hF
 refine sqz (pz 1 hf fun a hf => ?_)
 refine we (sqz (pz 1 hf fun a hf => ?_))
 obtain ⟨y, hy, hF⟩ := bs_ hF
 refine oc hf TF.cl18 (laws_vBig_ok (S := TT) (mk_list (H.rt 0 rfl)) hy) fun v w a hp hf => ?_
 obtain ⟨hb, hp⟩ := hp
 obtain rfl := VR_bool hp
 have H := H.keep hb
 refine wl_end (then_n (ib hF hf (fun hc hF => ?_) fun hc hF => ?_))
 ·refine sqz (pz 1 hf fun a hf => ?_)
  refine wl_end (then_n (wp_ret (then_r (?_))))
  obtain rfl := oi hF
  refine rT hf ?_
  exact ⟨_, rfl, H.bel, mk_bool⟩
 ·refine wp_skip (then_n (sqz (pz 1 hf fun a hf => ?_)))
  obtain ⟨y2, hy2, hF⟩ := bs_ hF
  refine oc hf TF.cl29 (spec_DrawDefragment_ok (S := TT) (mk_list (H.rt 0 rfl)) hy2) fun v2 w a hp2 hf => ?_
  obtain ⟨A2, c2, F, A3, c3, F2, A4, c4, E, rfl, Hc⟩ := hp2
  have H := H.comp Hc (.inl rfl)
  have H := H.lend 0 rfl
  have H := H.lend 1 rfl
  refine pz 4 hf fun a hf => ?_
  refine aL hf H TF.zv37 fun b' a w hf H => ?_
  refine sB 0 hf H TF.sz37 fun w H => ?_
  refine pz 2 hf fun a hf => ?_
  refine wr (lN 0 hf H TF.la37 fun a hf => ?_)
  refine pz 2 hf fun a hf => ?_
  obtain ⟨y3, hy3, hF⟩ := bs_ hF
  refine oc hf TF.cl30 (impl_Defragment_ok (S := TT) (Plan_mkv (x := y2.1) (H.rt 1 rfl) (H.rt 0 rfl) (H.rowTrue 0 rfl)) mk_bool mk_int hy3) fun v3 w a hp3 hf => ?_
  obtain ⟨hb2, F3, F4, v4, v5, v6, rfl, hp4, hp5, hp6, hN⟩ := hp3
  obtain ⟨A5, c5, F5, A6, c6, F6, A7, c7, F7, rfl, rfl, hl2, hl3, hl4⟩ := Plan_vo hp4
  obtain ⟨A8, c8, rfl, hl5⟩ := VO_list hp5
  obtain rfl := VR_bool hp6
  have H := H.addOwn hb2 (X := [(⟨F5, MP.own F5 [(.slice A5 y3.1.Network.Nodes.length c5)] (y3.1.Network.Nodes : List ByteArray)⟩ : DI), (⟨F6, MP.own F6 [(.slice A6 y3.1.Network.Fibers.length c6)] (y3.1.Network.Fibers : List Fiber)⟩ : DI), (⟨F7, MP.own F7 [(.slice A7 y3.1.Lights.length c7)] (y3.1.Lights : List Light)⟩ : DI), (⟨F4, MP.own F4 [(.slice A8 y3.2.1.length c8)] (y3.2.1 : List Int)⟩ : DI)]) (by simpa using hN.1) (ps1 hl2 (ps1 hl3 (ps1 hl4 (ps1 hl5 ps0)))) (by simpa using hN.2)
  have H := H.lend 0 rfl
  have H := H.lend 1 rfl
  have H := H.lend 2 rfl
  have H := H.lend 3 rfl
  refine pz 4 hf fun a hf => ?_
  refine aL hf H TF.zv37 fun b2 a w hf H => ?_
  refine sB 0 hf H TF.sz37 fun w H => ?_
  refine pz 2 hf fun a hf => ?_
  have hf := hf.pn [3, 4, 5, 6, 7, 8]
  refine wl_end (then_n (sq (sq (reg (lN 1 hf H TF.la37 fun a hf => ?_)))))
  refine pz 2 hf fun a hf => ?_
  obtain ⟨y4, hy4, hF⟩ := bs_ hF
  refine oc hf TF.cl31 (spec_Defragment_ok (S := TT) (Plan_mkv (x := y2.1) (H.rt 5 rfl) (H.rt 4 rfl) (H.rowTrue 0 rfl)) mk_bool mk_int hy4) fun v7 w a hp7 hf => ?_
  obtain ⟨hb3, v8, v9, v10, rfl, hp8, hp9, hp10⟩ := hp7
  obtain ⟨A9, c9, A10, c10, A11, c11, rfl, hl6, hl7, hl8⟩ := Plan_open hp8
  obtain ⟨A12, c12, rfl, hl9⟩ := VR_list hp9
  obtain rfl := VR_bool hp10
  obtain ⟨F9, H⟩ := H.addRo hb3 (p := MP.and (MP.val [(.slice A9 y4.1.Network.Nodes.length c9)] (y4.1.Network.Nodes : List ByteArray)) (MP.and (MP.val [(.slice A10 y4.1.Network.Fibers.length c10)] (y4.1.Network.Fibers : List Fiber)) (MP.and (MP.val [(.slice A11 y4.1.Lights.length c11)] (y4.1.Lights : List Light)) (MP.val [(.slice A12 y4.2.1.length c12)] (y4.2.1 : List Int))))) ⟨hl6, ⟨hl7, ⟨hl8, hl9⟩⟩⟩
  have H := H.lendQ 0 (q := MP.val [(.slice A9 y4.1.Network.Nodes.length c9)] (y4.1.Network.Nodes : List ByteArray)) rfl fun _ _ h => h.1
  have H := H.lendQ 0 (q := MP.val [(.slice A10 y4.1.Network.Fibers.length c10)] (y4.1.Network.Fibers : List Fiber)) rfl fun _ _ h => h.2.1
  have H := H.lendQ 0 (q := MP.val [(.slice A11 y4.1.Lights.length c11)] (y4.1.Lights : List Light)) rfl fun _ _ h => h.2.2.1
  have H := H.lendQ 0 (q := MP.val [(.slice A12 y4.2.1.length c12)] (y4.2.1 : List Int)) rfl fun _ _ h => h.2.2.2
  refine pz 4 hf fun a hf => ?_
  refine aL hf H TF.zv37 fun b3 a w hf H => ?_
  refine sB 0 hf H TF.sz37 fun w H => ?_
  refine pz 2 hf fun a hf => ?_
  refine wl_end (then_n (sq ?_))
  obtain ⟨c13, hGc13, hF⟩ := bs_ hF
  have fh := hf.prune [3, 4, 5, 6, 7, 8] rfl
  have Hm := H.lt_ [false, true, true] [true] [false, true, true, true, true, true, true] [4, 5, 6, 7, 8, 9]
  refine midF 63 (.bool c13) fh Hm ?_ fun a w hf H => ?_
  ·refine reg (pz 4 hf fun a hf => ?_)
   refine iteB hGc13 (fun hc2 hGc13 => ?_) fun hc2 hGc13 => ?_
   ·have hf := hf.lit 52 rfl hc2
    refine pz 11 hf fun a hf => ?_
    obtain rfl := oi hGc13
    have hf := hf.pn [63, 3, 4, 5, 6, 7, 8]
    have H := H.lt_ [false, true, true] [true] [false, true, true, true, true, true, true] [4, 5, 6, 7, 8, 9]
    exact wl_end ⟨hf, H⟩
   ·have hf := hf.lit 52 rfl hc2
    refine wlg hf rfl rfl rfl (op_q hf (rq_loadBN hf H TF.la37 1 rfl rfl rfl rfl) rfl (by decide) fun a hf => ?_)
    refine wlg hf rfl rfl rfl (op_q hf (rq_loadBN hf H TF.la37 0 rfl rfl rfl rfl) rfl (by decide) fun a hf => ?_)
    obtain ⟨y5, hy5, hGc13⟩ := bs_ hGc13
    refine wlg hf rfl rfl rfl (oC hf TF.cl32 (laws_vPlans_ok (S := TT) (Plan_mkv (x := y3.1) (H.rt 7 rfl) (H.rt 6 rfl) (H.rt 5 rfl)) (Plan_mkv (x := y4.1) (H.rt 3 rfl) (H.rt 2 rfl) (H.rt 1 rfl)) hy5) fun v11 w a hp11 hf => ?_)
    obtain ⟨hb4, hp11⟩ := hp11
    obtain rfl := VR_bool hp11
    have H := H.keep hb4
    refine pz 3 hf fun a hf => ?_
    refine iteB hGc13 (fun hc3 hGc13 => ?_) fun hc3 hGc13 => ?_
    ·have hf := hf.lit 58 rfl hc3
     refine pz 5 hf fun a hf => ?_
     obtain rfl := oi hGc13
     have hf := hf.pn [63, 3, 4, 5, 6, 7, 8]
     have H := H.lt_ [false, true, true] [true] [false, true, true, true, true, true, true] [4, 5, 6, 7, 8, 9]
     exact wl_end ⟨hf, H⟩
    ·have hf := hf.lit 58 rfl hc3
     refine pz 2 hf fun a hf => ?_
     obtain ⟨y6, hy6, hGc13⟩ := bs_ hGc13
     refine wlg hf rfl rfl rfl (oC hf TF.cl33 (laws_vInts_ok (S := TT) (mk_list (H.rt 4 rfl)) (mk_list (H.rt 0 rfl)) hy6) fun v12 w a hp12 hf => ?_)
     obtain ⟨hb5, hp12⟩ := hp12
     obtain rfl := VR_bool hp12
     have H := H.keep hb5
     refine pz 2 hf fun a hf => ?_
     obtain rfl := oi hGc13
     have hf := hf.pn [63, 3, 4, 5, 6, 7, 8]
     have H := H.lt_ [false, true, true] [true] [false, true, true, true, true, true, true] [4, 5, 6, 7, 8, 9]
     exact wl_end ⟨hf, H⟩
  refine then_n (ib hF hf (fun hc4 hF => ?_) fun hc4 hF => ?_)
  ·refine sqz (pz 1 hf fun a hf => ?_)
   refine wl_end (then_n (wp_ret (then_r (?_))))
   obtain rfl := oi hF
   refine rT hf ?_
   exact ⟨_, rfl, H.bel, mk_bool⟩
  ·refine wp_skip (then_n (sq (sqz (pz 2 hf fun a hf => ?_))))
   refine wl_end (then_n (ib hF hf (fun hc5 hF => ?_) fun hc5 hF => ?_))
   ·refine sqz (pz 4 hf fun a hf => ?_)
    refine wl_end (then_n (wp_ret (then_r (?_))))
    obtain rfl := oi hF
    refine rT hf ?_
    exact ⟨_, rfl, H.bel, mk_bool⟩
   ·refine wp_skip (then_n (sq (sq ?_)))
    obtain ⟨c14, hGc14, hF⟩ := bs_ hF
    have fh2 := hf.prune [3, 4, 5, 6, 7] rfl
    have Hm2 := H.lt_ [true, true] [true] [true, true, true, true, true, true] [0, 1, 2, 3, 4, 5]
    refine midF 80 (.bool c14) fh2 Hm2 ?_ fun a w hf H => ?_
    ·refine reg (lN 0 hf H TF.la37 fun a hf => ?_)
     obtain ⟨y7, hy7, hGc14⟩ := bs_ hGc14
     refine oc hf TF.cl34 (impl_IsValidPlan_ok (S := TT) (Plan_mkv (x := y3.1) (H.rt 3 rfl) (H.rt 2 rfl) (H.rt 1 rfl)) hy7) fun v13 w a hp13 hf => ?_
     obtain ⟨hb6, hp13⟩ := hp13
     obtain rfl := VR_bool hp13
     have H := H.keep hb6
     refine pz 2 hf fun a hf => ?_
     refine iteB hGc14 (fun hc6 hGc14 => ?_) fun hc6 hGc14 => ?_
     ·have hf := hf.lit 72 rfl hc6
      refine pz 8 hf fun a hf => ?_
      obtain rfl := oi hGc14
      have hf := hf.pn [80, 3, 4, 5, 6, 7]
      have H := H.lt_ [true, true] [true] [true, true, true, true, true, true] [0, 1, 2, 3, 4, 5]
      exact wl_end ⟨hf, H⟩
     ·have hf := hf.lit 72 rfl hc6
      refine pz 1 hf fun a hf => ?_
      refine wlg hf rfl rfl rfl (op_q hf (rq_loadB hf H TF.ls35 0 rfl rfl rfl) rfl (by decide) fun a hf => ?_)
      refine pz 2 hf fun a hf => ?_
      refine wlg hf rfl rfl rfl (op_q hf (rq_loadB hf H TF.ls35 1 rfl rfl rfl) rfl (by decide) fun a hf => ?_)
      refine pz 3 hf fun a hf => ?_
      obtain rfl := oi hGc14
      have hf := hf.pn [80, 3, 4, 5, 6, 7]
      have H := H.lt_ [true, true] [true] [true, true, true, true, true, true] [0, 1, 2, 3, 4, 5]
      exact wl_end ⟨hf, H⟩
    refine then_n (ib hF hf (fun hc7 hF => ?_) fun hc7 hF => ?_)
    ·refine sqz (pz 1 hf fun a hf => ?_)
     refine wl_end (then_n (wp_ret (then_r (?_))))
     obtain rfl := oi hF
     refine rT hf ?_
     exact ⟨_, rfl, H.bel, mk_bool⟩
    ·refine wp_skip (then_n (sq (sqz (pz 1 hf fun a hf => ?_))))
     refine wl_end (then_n ?_)
     have H := H.freeze 0 rfl
     obtain ⟨out', hB1, hF⟩ := bs_ hF
     have hf := hf.pn [3, 4, 5, 6, 7, 12]
     have H := H.lt_ [true, true] [] [true, true, true, true, true, true] [0, 1, 2, 3, 4, 5, 6]
     refine loopC (fun (s : Int × List Light) (a : Act) (w : World) => match s with | (i, m) => ∃ (A13 : Option Addr) (c15 : Nat), Fr a 194 [(3, (.pointer (some ⟨b', 0, none⟩))), (4, (.bool y2.2.1)), (5, (.int .i64 y2.2.2)), (6, (.pointer (some ⟨b2, 0, none⟩))), (7, (.slice A8 y3.2.1.length c8)), (12, (.int .i64 i))] ∧ Mem ⟨w0, []⟩ S [⟨b2, 37, [(.slice A5 y3.1.Network.Nodes.length c5), (.slice A6 y3.1.Network.Fibers.length c6), (.slice A7 y3.1.Lights.length c7)]⟩, ⟨b', 37, [(.slice A2 y2.1.Network.Nodes.length c2), (.slice A3 y2.1.Network.Fibers.length c3), (.slice A13 m.length c15)]⟩] [] [⟨F5, MP.own F5 [(.slice A5 y3.1.Network.Nodes.length c5)] (y3.1.Network.Nodes : List ByteArray)⟩, ⟨F6, MP.own F6 [(.slice A6 y3.1.Network.Fibers.length c6)] (y3.1.Network.Fibers : List Fiber)⟩, ⟨F7, MP.own F7 [(.slice A7 y3.1.Lights.length c7)] (y3.1.Lights : List Light)⟩, ⟨F4, MP.own F4 [(.slice A8 y3.2.1.length c8)] (y3.2.1 : List Int)⟩, ⟨F, MP.own F [(.slice A2 y2.1.Network.Nodes.length c2)] (y2.1.Network.Nodes : List ByteArray)⟩, ⟨F2, MP.own F2 [(.slice A3 y2.1.Network.Fibers.length c3)] (y2.1.Network.Fibers : List Fiber)⟩] [(true, MP.val [(.slice A13 m.length c15)] (m : List Light)), (true, MP.val [(.slice A8 y3.2.1.length c8)] (y3.2.1 : List Int)), (true, MP.val [(.slice A7 y3.1.Lights.length c7)] (y3.1.Lights : List Light)), (true, MP.val [(.slice A6 y3.1.Network.Fibers.length c6)] (y3.1.Network.Fibers : List Fiber)), (true, MP.val [(.slice A5 y3.1.Network.Nodes.length c5)] (y3.1.Network.Nodes : List ByteArray)), (true, MP.val [(.slice A3 y2.1.Network.Fibers.length c3)] (y2.1.Network.Fibers : List Fiber)), (true, MP.val [(.slice A2 y2.1.Network.Nodes.length c2)] (y2.1.Network.Nodes : List ByteArray))] w) (fun k (s : Int × List Light) => laws_FnDefragmentation_L1 fu y3 k s.1 s.2 = some out') (fun s => out' = Out.next s) (0, y2.1.Lights) fu hB1 ⟨A4, c4, hf, H⟩ (fun s h => by cases h) ?_ ?_
     ·rintro fk ⟨i, m⟩ a w hR1 hI
      replace hR1 : laws_FnDefragmentation_L1 fu y3 (fk + 1) i m = some out' := hR1
      rw [laws_FnDefragmentation_L1] at hR1
      obtain ⟨A13, c15, hf, H⟩ := hI
      refine sq (sqz (pz 2 hf fun a hf => ?_))
      refine lB 1 hf H TF.ls35 fun a hf => ?_
      refine pz 2 hf fun a hf => ?_
      refine wl_end (then_n (ib hR1 hf (fun hc8 hR1 => ?_) fun hc8 hR1 => ?_))
      ·refine wp_skip (then_n (sq (wp_block (sq ?_))))
       obtain ⟨e, he, hR1⟩ := bs_ hR1
       obtain ⟨e2, he2, hR1⟩ := bs_ hR1
       refine mid (fun a w => ∃ (b5 : Nat) (A15 : Option Addr) (c17 : Nat) (b4 : Nat) (A14 : Option Addr) (c16 : Nat), Fr a 194 [(3, (.pointer (some ⟨b', 0, none⟩))), (4, (.bool y2.2.1)), (5, (.int .i64 y2.2.2)), (6, (.pointer (some ⟨b2, 0, none⟩))), (7, (.slice A8 y3.2.1.length c8)), (12, (.int .i64 i)), (13, (.pointer (some ⟨b4, 0, none⟩))), (14, (.pointer (some ⟨b5, 0, none⟩)))] ∧ Mem ⟨w0, []⟩ S [⟨b5, 73, [(.int .i64 e2.Id), (.int .i64 e2.Route.Start), (.slice A15 e2.Route.Fibers.length c17), (.int .i64 e2.Block.First), (.int .i64 e2.Block.Count)]⟩, ⟨b4, 73, [(.int .i64 e.Id), (.int .i64 e.Route.Start), (.slice A14 e.Route.Fibers.length c16), (.int .i64 e.Block.First), (.int .i64 e.Block.Count)]⟩, ⟨b2, 37, [(.slice A5 y3.1.Network.Nodes.length c5), (.slice A6 y3.1.Network.Fibers.length c6), (.slice A7 y3.1.Lights.length c7)]⟩, ⟨b', 37, [(.slice A2 y2.1.Network.Nodes.length c2), (.slice A3 y2.1.Network.Fibers.length c3), (.slice A13 m.length c15)]⟩] [] [⟨F5, MP.own F5 [(.slice A5 y3.1.Network.Nodes.length c5)] (y3.1.Network.Nodes : List ByteArray)⟩, ⟨F6, MP.own F6 [(.slice A6 y3.1.Network.Fibers.length c6)] (y3.1.Network.Fibers : List Fiber)⟩, ⟨F7, MP.own F7 [(.slice A7 y3.1.Lights.length c7)] (y3.1.Lights : List Light)⟩, ⟨F4, MP.own F4 [(.slice A8 y3.2.1.length c8)] (y3.2.1 : List Int)⟩, ⟨F, MP.own F [(.slice A2 y2.1.Network.Nodes.length c2)] (y2.1.Network.Nodes : List ByteArray)⟩, ⟨F2, MP.own F2 [(.slice A3 y2.1.Network.Fibers.length c3)] (y2.1.Network.Fibers : List Fiber)⟩] [(true, MP.val [(.slice A15 e2.Route.Fibers.length c17)] (e2.Route.Fibers : List Int)), (true, MP.val [(.slice A14 e.Route.Fibers.length c16)] (e.Route.Fibers : List Int)), (true, MP.val [(.slice A13 m.length c15)] (m : List Light)), (true, MP.val [(.slice A8 y3.2.1.length c8)] (y3.2.1 : List Int)), (true, MP.val [(.slice A7 y3.1.Lights.length c7)] (y3.1.Lights : List Light)), (true, MP.val [(.slice A6 y3.1.Network.Fibers.length c6)] (y3.1.Network.Fibers : List Fiber)), (true, MP.val [(.slice A5 y3.1.Network.Nodes.length c5)] (y3.1.Network.Nodes : List ByteArray)), (true, MP.val [(.slice A3 y2.1.Network.Fibers.length c3)] (y2.1.Network.Fibers : List Fiber)), (true, MP.val [(.slice A2 y2.1.Network.Nodes.length c2)] (y2.1.Network.Nodes : List ByteArray))] w) ?_ ?_
       ·refine dw [12, 13] 14 fun w hb => ?_
        have H := H.keep hb
        refine zp 0 hf trivial fun a hf => ?_
        refine strT (H.lt_ [false, true] [] [false, false, false, false, false, false] []) (fun w H => trivial) fun hS => ?_
        refine zS 1 [1, 3, 4, 12, 13] rfl rfl rfl rfl hf hS (fun w H => rq_loadB hf H TF.ls35 0 rfl rfl rfl) fun a hf => ?_
        refine zp 2 hf hS fun a hf => ?_
        obtain ⟨p, o, cs, hx, hr, H⟩ := pre_iaddr H Tryz.underlying35 TF.sz73 0 rfl he
        refine zP 3 rfl rfl rfl rfl hf hS (fun w => rq_iaddrE hf rfl rfl rfl hx w) fun a hf => ?_
        obtain ⟨A14, c16, rfl, hl10⟩ := Light_cells hr
        have H := H.pT hl10
        refine strT (H.lt_ [false, true] [] [false, false, false, false, false, false] [1]) (fun w H => H.lt_ [true] [] [] []) fun hS => ?_
        refine zS 4 [4, 12, 13] rfl rfl rfl rfl hf hS (fun w H => rq_loadIN hf H TF.la73 0 0 rfl rfl rfl rfl) fun a hf => ?_
        refine zp 5 hf hS fun a hf => ?_
        refine zp 7 hf hS fun a hf => ?_
        refine on3 (i := 6) (j := 10) (k := 11) (bi := [true, true, true, true, true, true, true, true, false, false, false, false, false, false]) (bj := [true, true, true, true, true, true, false, true, false, false, true, false, false, false]) (bk := [true, true, true, true, true, true, false, true, false, false, false, true, false, false]) (by kernel_rfl) rfl rfl rfl rfl rfl rfl rfl rfl rfl ?_ ?_ ?_
        ·refine (op_q hf (rq_loadB hf H TF.ls35 0 rfl rfl rfl) rfl (by decide) fun a hf => ?_)
         have hS := H.lt_ [false, true] [] [false, false, false, false, false, false] [1]
         refine aS hS ?_
         obtain ⟨p2, o2, cs2, hx2, hr2, H⟩ := pre_iaddr H Tryz.underlying35 TF.sz73 4 rfl he2
         refine zP 8 rfl rfl rfl rfl hf hS (fun w => rq_iaddrE hf rfl rfl rfl hx2 w) fun a hf => ?_
         obtain ⟨A15, c17, rfl, hl11⟩ := Light_cells hr2
         have H := H.pT hl11
         refine on3 (i := 9) (j := 10) (k := 11) (bi := [true, true, true, true, true, true, true, true, true, true, false, false, false, false]) (bj := [true, true, true, true, true, true, true, true, true, false, true, false, false, false]) (bk := [true, true, true, true, true, true, true, true, true, false, false, true, false, false]) (by kernel_rfl) rfl rfl rfl rfl rfl rfl rfl rfl rfl ?_ ?_ ?_
         ·refine (op_q hf (rq_loadIN hf H TF.la73 1 0 rfl rfl rfl rfl) rfl (by decide) fun a hf => ?_)
          have hS := H.lt_ [false, true] [] [false, false, false, false, false, false] [3]
          refine aS hS ?_
          refine on2 (i := 10) (j := 11) (bi := [true, true, true, true, true, true, true, true, true, true, true, false, false, false]) (bj := [true, true, true, true, true, true, true, true, true, true, false, true, false, false]) (by kernel_rfl) rfl rfl rfl rfl rfl rfl ?_ ?_
          ·refine (op_alloc hf H TF.zv73 rfl (by decide) fun b4 a w hf H => ?_)
           have hS := H.lt_ [false, false, true] [] [false, false, false, false, false, false] [3]
           refine aS hS ?_
           refine nn 11 rfl (op_alloc hf H TF.zv73 rfl (by decide) fun b5 a w hf H => ?_)
           have hS := H.lt_ [false, false, false, true] [] [false, false, false, false, false, false] [3]
           refine aS hS ?_
           refine nn 12 rfl (op_storeB hf H 1 TF.sz73 rfl rfl rfl rfl rfl rfl (nle rfl) fun w H => ?_)
           refine ⟨fun h => absurd h (by decide), ?_⟩
           refine nn 13 rfl (op_storeB hf H 0 TF.sz73 rfl rfl rfl rfl rfl rfl (nle rfl) fun w H => ?_)
           refine ⟨fun h => absurd h (by decide), ?_⟩
           refine dk ?_
           have hf := hf.pn [3, 4, 5, 6, 7, 12, 13, 14]
           have H := H.lt_ [true, true, true, true] [] [true, true, true, true, true, true] [0, 2, 4, 5, 6, 7, 8, 9, 10]
           exact ⟨b5, A15, c17, b4, A14, c16, hf, H⟩
          ·refine (op_alloc hf H TF.zv73 rfl (by decide) fun b4 a w hf H => ?_)
           have hS := H.lt_ [false, false, true] [] [false, false, false, false, false, false] [3]
           refine aS hS ?_
           refine nn 10 rfl (op_alloc hf H TF.zv73 rfl (by decide) fun b5 a w hf H => ?_)
           have hS := H.lt_ [false, false, false, true] [] [false, false, false, false, false, false] [3]
           refine aS hS ?_
           refine nn 12 rfl (op_storeB hf H 0 TF.sz73 rfl rfl rfl rfl rfl rfl (nle rfl) fun w H => ?_)
           refine ⟨fun h => absurd h (by decide), ?_⟩
           refine nn 13 rfl (op_storeB hf H 1 TF.sz73 rfl rfl rfl rfl rfl rfl (nle rfl) fun w H => ?_)
           refine ⟨fun h => absurd h (by decide), ?_⟩
           refine dk ?_
           have H := H.frontM 3 rfl
           have H := H.frontM 3 rfl
           have H := H.frontM 2 rfl
           have H := H.frontM 3 rfl
           have hf := hf.pn [3, 4, 5, 6, 7, 12, 13, 14]
           have H := H.lt_ [true, true, true, true] [] [true, true, true, true, true, true] [0, 2, 4, 5, 6, 7, 8, 9, 10]
           exact ⟨b4, A15, c17, b5, A14, c16, hf, H⟩
         ·refine (op_alloc hf H TF.zv73 rfl (by decide) fun b4 a w hf H => ?_)
          have hS := H.lt_ [false, false, true] [] [false, false, false, false, false, false] [3]
          refine aS hS ?_
          refine on2 (i := 9) (j := 11) (bi := [true, true, true, true, true, true, true, true, true, true, true, false, false, false]) (bj := [true, true, true, true, true, true, true, true, true, false, true, true, false, false]) (by kernel_rfl) rfl rfl rfl rfl rfl rfl ?_ ?_
          ·refine (op_q hf (rq_loadIN hf H TF.la73 1 0 rfl rfl rfl rfl) rfl (by decide) fun a hf => ?_)
           have hS := H.lt_ [false, false, true] [] [false, false, false, false, false, false] [3]
           refine aS hS ?_
           refine nn 11 rfl (op_alloc hf H TF.zv73 rfl (by decide) fun b5 a w hf H => ?_)
           have hS := H.lt_ [false, false, false, true] [] [false, false, false, false, false, false] [3]
           refine aS hS ?_
           refine nn 12 rfl (op_storeB hf H 1 TF.sz73 rfl rfl rfl rfl rfl rfl (nle rfl) fun w H => ?_)
           refine ⟨fun h => absurd h (by decide), ?_⟩
           refine nn 13 rfl (op_storeB hf H 0 TF.sz73 rfl rfl rfl rfl rfl rfl (nle rfl) fun w H => ?_)
           refine ⟨fun h => absurd h (by decide), ?_⟩
           refine dk ?_
           have hf := hf.pn [3, 4, 5, 6, 7, 12, 13, 14]
           have H := H.lt_ [true, true, true, true] [] [true, true, true, true, true, true] [0, 2, 4, 5, 6, 7, 8, 9, 10]
           exact ⟨b5, A15, c17, b4, A14, c16, hf, H⟩
          ·refine (op_alloc hf H TF.zv73 rfl (by decide) fun b5 a w hf H => ?_)
           have hS := H.lt_ [false, false, false, true] [] [false, false, false, false, false, false] [3]
           refine aS hS ?_
           refine on2 (i := 9) (j := 12) (bi := [true, true, true, true, true, true, true, true, true, true, true, true, false, false]) (bj := [true, true, true, true, true, true, true, true, true, false, true, true, true, false]) (by kernel_rfl) rfl rfl rfl rfl rfl rfl ?_ ?_
           ·refine (op_q hf (rq_loadIN hf H TF.la73 1 0 rfl rfl rfl rfl) rfl (by decide) fun a hf => ?_)
            have hS := H.lt_ [false, false, false, true] [] [false, false, false, false, false, false] [3]
            refine aS hS ?_
            refine nn 12 rfl (op_storeB hf H 1 TF.sz73 rfl rfl rfl rfl rfl rfl (nle rfl) fun w H => ?_)
            refine ⟨fun h => absurd h (by decide), ?_⟩
            refine nn 13 rfl (op_storeB hf H 0 TF.sz73 rfl rfl rfl rfl rfl rfl (nle rfl) fun w H => ?_)
            refine ⟨fun h => absurd h (by decide), ?_⟩
            refine dk ?_
            have hf := hf.pn [3, 4, 5, 6, 7, 12, 13, 14]
            have H := H.lt_ [true, true, true, true] [] [true, true, true, true, true, true] [0, 2, 4, 5, 6, 7, 8, 9, 10]
            exact ⟨b5, A15, c17, b4, A14, c16, hf, H⟩
           ·refine (op_storeB hf H 1 TF.sz73 rfl rfl rfl rfl rfl rfl (nle rfl) fun w H => ?_)
            refine ⟨fun h => absurd h (by decide), ?_⟩
            refine nn 9 rfl (op_q hf (rq_loadIN hf H TF.la73 1 0 rfl rfl rfl rfl) rfl (by decide) fun a hf => ?_)
            refine ⟨fun h => absurd h (by decide), ?_⟩
            refine nn 13 rfl (op_storeB hf H 0 TF.sz73 rfl rfl rfl rfl rfl rfl (nle rfl) fun w H => ?_)
            refine ⟨fun h => absurd h (by decide), ?_⟩
            refine dk ?_
            have hf := hf.pn [3, 4, 5, 6, 7, 12, 13, 14]
            have H := H.lt_ [true, true, true, true] [] [true, true, true, true, true, true] [0, 2, 4, 5, 6, 7, 8, 9, 10]
            exact ⟨b5, A15, c17, b4, A14, c16, hf, H⟩
         ·refine (op_alloc hf H TF.zv73 rfl (by decide) fun b4 a w hf H => ?_)
          have hS := H.lt_ [false, false, true] [] [false, false, false, false, false, false] [3]
          refine aS hS ?_
          refine on2 (i := 9) (j := 10) (bi := [true, true, true, true, true, true, true, true, true, true, false, true, false, false]) (bj := [true, true, true, true, true, true, true, true, true, false, true, true, false, false]) (by kernel_rfl) rfl rfl rfl rfl rfl rfl ?_ ?_
          ·refine (op_q hf (rq_loadIN hf H TF.la73 1 0 rfl rfl rfl rfl) rfl (by decide) fun a hf => ?_)
           have hS := H.lt_ [false, false, true] [] [false, false, false, false, false, false] [3]
           refine aS hS ?_
           refine nn 10 rfl (op_alloc hf H TF.zv73 rfl (by decide) fun b5 a w hf H => ?_)
           have hS := H.lt_ [false, false, false, true] [] [false, false, false, false, false, false] [3]
           refine aS hS ?_
           refine nn 12 rfl (op_storeB hf H 0 TF.sz73 rfl rfl rfl rfl rfl rfl (nle rfl) fun w H => ?_)
           refine ⟨fun h => absurd h (by decide), ?_⟩
           refine nn 13 rfl (op_storeB hf H 1 TF.sz73 rfl rfl rfl rfl rfl rfl (nle rfl) fun w H => ?_)
           refine ⟨fun h => absurd h (by decide), ?_⟩
           refine dk ?_
           have H := H.frontM 3 rfl
           have H := H.frontM 3 rfl
           have H := H.frontM 2 rfl
           have H := H.frontM 3 rfl
           have hf := hf.pn [3, 4, 5, 6, 7, 12, 13, 14]
           have H := H.lt_ [true, true, true, true] [] [true, true, true, true, true, true] [0, 2, 4, 5, 6, 7, 8, 9, 10]
           exact ⟨b4, A15, c17, b5, A14, c16, hf, H⟩
          ·refine (op_alloc hf H TF.zv73 rfl (by decide) fun b5 a w hf H => ?_)
           have hS := H.lt_ [false, false, false, true] [] [false, false, false, false, false, false] [3]
           refine aS hS ?_
           refine on2 (i := 9) (j := 12) (bi := [true, true, true, true, true, true, true, true, true, true, true, true, false, false]) (bj := [true, true, true, true, true, true, true, true, true, false, true, true, true, false]) (by kernel_rfl) rfl rfl rfl rfl rfl rfl ?_ ?_
           ·refine (op_q hf (rq_loadIN hf H TF.la73 1 0 rfl rfl rfl rfl) rfl (by decide) fun a hf => ?_)
            have hS := H.lt_ [false, false, false, true] [] [false, false, false, false, false, false] [3]
            refine aS hS ?_
            refine nn 12 rfl (op_storeB hf H 0 TF.sz73 rfl rfl rfl rfl rfl rfl (nle rfl) fun w H => ?_)
            refine ⟨fun h => absurd h (by decide), ?_⟩
            refine nn 13 rfl (op_storeB hf H 1 TF.sz73 rfl rfl rfl rfl rfl rfl (nle rfl) fun w H => ?_)
            refine ⟨fun h => absurd h (by decide), ?_⟩
            refine dk ?_
            have H := H.frontM 3 rfl
            have H := H.frontM 3 rfl
            have H := H.frontM 2 rfl
            have H := H.frontM 3 rfl
            have hf := hf.pn [3, 4, 5, 6, 7, 12, 13, 14]
            have H := H.lt_ [true, true, true, true] [] [true, true, true, true, true, true] [0, 2, 4, 5, 6, 7, 8, 9, 10]
            exact ⟨b4, A15, c17, b5, A14, c16, hf, H⟩
           ·refine (op_storeB hf H 0 TF.sz73 rfl rfl rfl rfl rfl rfl (nle rfl) fun w H => ?_)
            refine ⟨fun h => absurd h (by decide), ?_⟩
            refine nn 9 rfl (op_q hf (rq_loadIN hf H TF.la73 1 0 rfl rfl rfl rfl) rfl (by decide) fun a hf => ?_)
            refine ⟨fun h => absurd h (by decide), ?_⟩
            refine nn 13 rfl (op_storeB hf H 1 TF.sz73 rfl rfl rfl rfl rfl rfl (nle rfl) fun w H => ?_)
            refine ⟨fun h => absurd h (by decide), ?_⟩
            refine dk ?_
            have H := H.frontM 3 rfl
            have H := H.frontM 3 rfl
            have H := H.frontM 2 rfl
            have H := H.frontM 3 rfl
            have hf := hf.pn [3, 4, 5, 6, 7, 12, 13, 14]
            have H := H.lt_ [true, true, true, true] [] [true, true, true, true, true, true] [0, 2, 4, 5, 6, 7, 8, 9, 10]
            exact ⟨b4, A15, c17, b5, A14, c16, hf, H⟩
        ·refine (op_alloc hf H TF.zv73 rfl (by decide) fun b4 a w hf H => ?_)
         have hS := H.lt_ [false, false, true] [] [false, false, false, false, false, false] [1]
         refine aS hS ?_
         refine on2 (i := 6) (j := 11) (bi := [true, true, true, true, true, true, true, true, false, false, true, false, false, false]) (bj := [true, true, true, true, true, true, false, true, false, false, true, true, false, false]) (by kernel_rfl) rfl rfl rfl rfl rfl rfl ?_ ?_
         ·refine (op_q hf (rq_loadB hf H TF.ls35 1 rfl rfl rfl) rfl (by decide) fun a hf => ?_)
          have hS := H.lt_ [false, false, true] [] [false, false, false, false, false, false] [1]
          refine aS hS ?_
          obtain ⟨p2, o2, cs2, hx2, hr2, H⟩ := pre_iaddr H Tryz.underlying35 TF.sz73 4 rfl he2
          refine zP 8 rfl rfl rfl rfl hf hS (fun w => rq_iaddrE hf rfl rfl rfl hx2 w) fun a hf => ?_
          obtain ⟨A15, c17, rfl, hl11⟩ := Light_cells hr2
          have H := H.pT hl11
          refine on2 (i := 9) (j := 11) (bi := [true, true, true, true, true, true, true, true, true, true, true, false, false, false]) (bj := [true, true, true, true, true, true, true, true, true, false, true, true, false, false]) (by kernel_rfl) rfl rfl rfl rfl rfl rfl ?_ ?_
          ·refine (op_q hf (rq_loadIN hf H TF.la73 1 0 rfl rfl rfl rfl) rfl (by decide) fun a hf => ?_)
           have hS := H.lt_ [false, false, true] [] [false, false, false, false, false, false] [3]
           refine aS hS ?_
           refine nn 11 rfl (op_alloc hf H TF.zv73 rfl (by decide) fun b5 a w hf H => ?_)
           have hS := H.lt_ [false, false, false, true] [] [false, false, false, false, false, false] [3]
           refine aS hS ?_
           refine nn 12 rfl (op_storeB hf H 1 TF.sz73 rfl rfl rfl rfl rfl rfl (nle rfl) fun w H => ?_)
           refine ⟨fun h => absurd h (by decide), ?_⟩
           refine nn 13 rfl (op_storeB hf H 0 TF.sz73 rfl rfl rfl rfl rfl rfl (nle rfl) fun w H => ?_)
           refine ⟨fun h => absurd h (by decide), ?_⟩
           refine dk ?_
           have hf := hf.pn [3, 4, 5, 6, 7, 12, 13, 14]
           have H := H.lt_ [true, true, true, true] [] [true, true, true, true, true, true] [0, 2, 4, 5, 6, 7, 8, 9, 10]
           exact ⟨b5, A15, c17, b4, A14, c16, hf, H⟩
          ·refine (op_alloc hf H TF.zv73 rfl (by decide) fun b5 a w hf H => ?_)
           have hS := H.lt_ [false, false, false, true] [] [false, false, false, false, false, false] [3]
           refine aS hS ?_
           refine on2 (i := 9) (j := 12) (bi := [true, true, true, true, true, true, true, true, true, true, true, true, false, false]) (bj := [true, true, true, true, true, true, true, true, true, false, true, true, true, false]) (by kernel_rfl) rfl rfl rfl rfl rfl rfl ?_ ?_
           ·refine (op_q hf (rq_loadIN hf H TF.la73 1 0 rfl rfl rfl rfl) rfl (by decide) fun a hf => ?_)
            have hS := H.lt_ [false, false, false, true] [] [false, false, false, false, false, false] [3]
            refine aS hS ?_
            refine nn 12 rfl (op_storeB hf H 1 TF.sz73 rfl rfl rfl rfl rfl rfl (nle rfl) fun w H => ?_)
            refine ⟨fun h => absurd h (by decide), ?_⟩
            refine nn 13 rfl (op_storeB hf H 0 TF.sz73 rfl rfl rfl rfl rfl rfl (nle rfl) fun w H => ?_)
            refine ⟨fun h => absurd h (by decide), ?_⟩
            refine dk ?_
            have hf := hf.pn [3, 4, 5, 6, 7, 12, 13, 14]
            have H := H.lt_ [true, true, true, true] [] [true, true, true, true, true, true] [0, 2, 4, 5, 6, 7, 8, 9, 10]
            exact ⟨b5, A15, c17, b4, A14, c16, hf, H⟩
           ·refine (op_storeB hf H 1 TF.sz73 rfl rfl rfl rfl rfl rfl (nle rfl) fun w H => ?_)
            refine ⟨fun h => absurd h (by decide), ?_⟩
            refine nn 9 rfl (op_q hf (rq_loadIN hf H TF.la73 1 0 rfl rfl rfl rfl) rfl (by decide) fun a hf => ?_)
            refine ⟨fun h => absurd h (by decide), ?_⟩
            refine nn 13 rfl (op_storeB hf H 0 TF.sz73 rfl rfl rfl rfl rfl rfl (nle rfl) fun w H => ?_)
            refine ⟨fun h => absurd h (by decide), ?_⟩
            refine dk ?_
            have hf := hf.pn [3, 4, 5, 6, 7, 12, 13, 14]
            have H := H.lt_ [true, true, true, true] [] [true, true, true, true, true, true] [0, 2, 4, 5, 6, 7, 8, 9, 10]
            exact ⟨b5, A15, c17, b4, A14, c16, hf, H⟩
         ·refine (op_alloc hf H TF.zv73 rfl (by decide) fun b5 a w hf H => ?_)
          have hS := H.lt_ [false, false, false, true] [] [false, false, false, false, false, false] [1]
          refine aS hS ?_
          refine on2 (i := 6) (j := 12) (bi := [true, true, true, true, true, true, true, true, false, false, true, true, false, false]) (bj := [true, true, true, true, true, true, false, true, false, false, true, true, true, false]) (by kernel_rfl) rfl rfl rfl rfl rfl rfl ?_ ?_
          ·refine (op_q hf (rq_loadB hf H TF.ls35 2 rfl rfl rfl) rfl (by decide) fun a hf => ?_)
           have hS := H.lt_ [false, false, false, true] [] [false, false, false, false, false, false] [1]
           refine aS hS ?_
           obtain ⟨p2, o2, cs2, hx2, hr2, H⟩ := pre_iaddr H Tryz.underlying35 TF.sz73 4 rfl he2
           refine zP 8 rfl rfl rfl rfl hf hS (fun w => rq_iaddrE hf rfl rfl rfl hx2 w) fun a hf => ?_
           obtain ⟨A15, c17, rfl, hl11⟩ := Light_cells hr2
           have H := H.pT hl11
           refine on2 (i := 9) (j := 12) (bi := [true, true, true, true, true, true, true, true, true, true, true, true, false, false]) (bj := [true, true, true, true, true, true, true, true, true, false, true, true, true, false]) (by kernel_rfl) rfl rfl rfl rfl rfl rfl ?_ ?_
           ·refine (op_q hf (rq_loadIN hf H TF.la73 1 0 rfl rfl rfl rfl) rfl (by decide) fun a hf => ?_)
            have hS := H.lt_ [false, false, false, true] [] [false, false, false, false, false, false] [3]
            refine aS hS ?_
            refine nn 12 rfl (op_storeB hf H 1 TF.sz73 rfl rfl rfl rfl rfl rfl (nle rfl) fun w H => ?_)
            refine ⟨fun h => absurd h (by decide), ?_⟩
            refine nn 13 rfl (op_storeB hf H 0 TF.sz73 rfl rfl rfl rfl rfl rfl (nle rfl) fun w H => ?_)
            refine ⟨fun h => absurd h (by decide), ?_⟩
            refine dk ?_
            have hf := hf.pn [3, 4, 5, 6, 7, 12, 13, 14]
            have H := H.lt_ [true, true, true, true] [] [true, true, true, true, true, true] [0, 2, 4, 5, 6, 7, 8, 9, 10]
            exact ⟨b5, A15, c17, b4, A14, c16, hf, H⟩
           ·refine (op_storeB hf H 1 TF.sz73 rfl rfl rfl rfl rfl rfl (nle rfl) fun w H => ?_)
            refine ⟨fun h => absurd h (by decide), ?_⟩
            refine nn 9 rfl (op_q hf (rq_loadIN hf H TF.la73 1 0 rfl rfl rfl rfl) rfl (by decide) fun a hf => ?_)
            refine ⟨fun h => absurd h (by decide), ?_⟩
            refine nn 13 rfl (op_storeB hf H 0 TF.sz73 rfl rfl rfl rfl rfl rfl (nle rfl) fun w H => ?_)
            refine ⟨fun h => absurd h (by decide), ?_⟩
            refine dk ?_
            have hf := hf.pn [3, 4, 5, 6, 7, 12, 13, 14]
            have H := H.lt_ [true, true, true, true] [] [true, true, true, true, true, true] [0, 2, 4, 5, 6, 7, 8, 9, 10]
            exact ⟨b5, A15, c17, b4, A14, c16, hf, H⟩
          ·refine (op_storeB hf H 1 TF.sz73 rfl rfl rfl rfl rfl rfl (nle rfl) fun w H => ?_)
           refine ⟨fun h => absurd h (by decide), ?_⟩
           refine nn 6 rfl (op_q hf (rq_loadB hf H TF.ls35 2 rfl rfl rfl) rfl (by decide) fun a hf => ?_)
           refine ⟨fun h => absurd h (by decide), ?_⟩
           obtain ⟨p2, o2, cs2, hx2, hr2, H⟩ := pre_iaddr H Tryz.underlying35 TF.sz73 4 rfl he2
           refine tP 8 rfl rfl rfl rfl hf (by kernel_rfl) (fun h => absurd h (by decide)) (fun w => rq_iaddrE hf rfl rfl rfl hx2 w) fun a hf => ?_
           obtain ⟨A15, c17, rfl, hl11⟩ := Light_cells hr2
           have H := H.pT hl11
           refine nn 9 rfl (op_q hf (rq_loadIN hf H TF.la73 1 0 rfl rfl rfl rfl) rfl (by decide) fun a hf => ?_)
           refine ⟨fun h => absurd h (by decide), ?_⟩
           refine nn 13 rfl (op_storeB hf H 0 TF.sz73 rfl rfl rfl rfl rfl rfl (nle rfl) fun w H => ?_)
           refine ⟨fun h => absurd h (by decide), ?_⟩
           refine dk ?_
           have hf := hf.pn [3, 4, 5, 6, 7, 12, 13, 14]
           have H := H.lt_ [true, true, true, true] [] [true, true, true, true, true, true] [0, 2, 4, 5, 6, 7, 8, 9, 10]
           exact ⟨b5, A15, c17, b4, A14, c16, hf, H⟩
        ·refine (op_alloc hf H TF.zv73 rfl (by decide) fun b4 a w hf H => ?_)
         have hS := H.lt_ [false, false, true] [] [false, false, false, false, false, false] [1]
         refine aS hS ?_
         refine on2 (i := 6) (j := 10) (bi := [true, true, true, true, true, true, true, true, false, false, false, true, false, false]) (bj := [true, true, true, true, true, true, false, true, false, false, true, true, false, false]) (by kernel_rfl) rfl rfl rfl rfl rfl rfl ?_ ?_
         ·refine (op_q hf (rq_loadB hf H TF.ls35 1 rfl rfl rfl) rfl (by decide) fun a hf => ?_)
          have hS := H.lt_ [false, false, true] [] [false, false, false, false, false, false] [1]
          refine aS hS ?_
          obtain ⟨p2, o2, cs2, hx2, hr2, H⟩ := pre_iaddr H Tryz.underlying35 TF.sz73 4 rfl he2
          refine zP 8 rfl rfl rfl rfl hf hS (fun w => rq_iaddrE hf rfl rfl rfl hx2 w) fun a hf => ?_
          obtain ⟨A15, c17, rfl, hl11⟩ := Light_cells hr2
          have H := H.pT hl11
          refine on2 (i := 9) (j := 10) (bi := [true, true, true, true, true, true, true, true, true, true, false, true, false, false]) (bj := [true, true, true, true, true, true, true, true, true, false, true, true, false, false]) (by kernel_rfl) rfl rfl rfl rfl rfl rfl ?_ ?_
          ·refine (op_q hf (rq_loadIN hf H TF.la73 1 0 rfl rfl rfl rfl) rfl (by decide) fun a hf => ?_)
           have hS := H.lt_ [false, false, true] [] [false, false, false, false, false, false] [3]
           refine aS hS ?_
           refine nn 10 rfl (op_alloc hf H TF.zv73 rfl (by decide) fun b5 a w hf H => ?_)
           have hS := H.lt_ [false, false, false, true] [] [false, false, false, false, false, false] [3]
           refine aS hS ?_
           refine nn 12 rfl (op_storeB hf H 0 TF.sz73 rfl rfl rfl rfl rfl rfl (nle rfl) fun w H => ?_)
           refine ⟨fun h => absurd h (by decide), ?_⟩
           refine nn 13 rfl (op_storeB hf H 1 TF.sz73 rfl rfl rfl rfl rfl rfl (nle rfl) fun w H => ?_)
           refine ⟨fun h => absurd h (by decide), ?_⟩
           refine dk ?_
           have H := H.frontM 3 rfl
           have H := H.frontM 3 rfl
           have H := H.frontM 2 rfl
           have H := H.frontM 3 rfl
           have hf := hf.pn [3, 4, 5, 6, 7, 12, 13, 14]
           have H := H.lt_ [true, true, true, true] [] [true, true, true, true, true, true] [0, 2, 4, 5, 6, 7, 8, 9, 10]
           exact ⟨b4, A15, c17, b5, A14, c16, hf, H⟩
          ·refine (op_alloc hf H TF.zv73 rfl (by decide) fun b5 a w hf H => ?_)
           have hS := H.lt_ [false, false, false, true] [] [false, false, false, false, false, false] [3]
           refine aS hS ?_
           refine on2 (i := 9) (j := 12) (bi := [true, true, true, true, true, true, true, true, true, true, true, true, false, false]) (bj := [true, true, true, true, true, true, true, true, true, false, true, true, true, false]) (by kernel_rfl) rfl rfl rfl rfl rfl rfl ?_ ?_
           ·refine (op_q hf (rq_loadIN hf H TF.la73 1 0 rfl rfl rfl rfl) rfl (by decide) fun a hf => ?_)
            have hS := H.lt_ [false, false, false, true] [] [false, false, false, false, false, false] [3]
            refine aS hS ?_
            refine nn 12 rfl (op_storeB hf H 0 TF.sz73 rfl rfl rfl rfl rfl rfl (nle rfl) fun w H => ?_)
            refine ⟨fun h => absurd h (by decide), ?_⟩
            refine nn 13 rfl (op_storeB hf H 1 TF.sz73 rfl rfl rfl rfl rfl rfl (nle rfl) fun w H => ?_)
            refine ⟨fun h => absurd h (by decide), ?_⟩
            refine dk ?_
            have H := H.frontM 3 rfl
            have H := H.frontM 3 rfl
            have H := H.frontM 2 rfl
            have H := H.frontM 3 rfl
            have hf := hf.pn [3, 4, 5, 6, 7, 12, 13, 14]
            have H := H.lt_ [true, true, true, true] [] [true, true, true, true, true, true] [0, 2, 4, 5, 6, 7, 8, 9, 10]
            exact ⟨b4, A15, c17, b5, A14, c16, hf, H⟩
           ·refine (op_storeB hf H 0 TF.sz73 rfl rfl rfl rfl rfl rfl (nle rfl) fun w H => ?_)
            refine ⟨fun h => absurd h (by decide), ?_⟩
            refine nn 9 rfl (op_q hf (rq_loadIN hf H TF.la73 1 0 rfl rfl rfl rfl) rfl (by decide) fun a hf => ?_)
            refine ⟨fun h => absurd h (by decide), ?_⟩
            refine nn 13 rfl (op_storeB hf H 1 TF.sz73 rfl rfl rfl rfl rfl rfl (nle rfl) fun w H => ?_)
            refine ⟨fun h => absurd h (by decide), ?_⟩
            refine dk ?_
            have H := H.frontM 3 rfl
            have H := H.frontM 3 rfl
            have H := H.frontM 2 rfl
            have H := H.frontM 3 rfl
            have hf := hf.pn [3, 4, 5, 6, 7, 12, 13, 14]
            have H := H.lt_ [true, true, true, true] [] [true, true, true, true, true, true] [0, 2, 4, 5, 6, 7, 8, 9, 10]
            exact ⟨b4, A15, c17, b5, A14, c16, hf, H⟩
         ·refine (op_alloc hf H TF.zv73 rfl (by decide) fun b5 a w hf H => ?_)
          have hS := H.lt_ [false, false, false, true] [] [false, false, false, false, false, false] [1]
          refine aS hS ?_
          refine on2 (i := 6) (j := 12) (bi := [true, true, true, true, true, true, true, true, false, false, true, true, false, false]) (bj := [true, true, true, true, true, true, false, true, false, false, true, true, true, false]) (by kernel_rfl) rfl rfl rfl rfl rfl rfl ?_ ?_
          ·refine (op_q hf (rq_loadB hf H TF.ls35 2 rfl rfl rfl) rfl (by decide) fun a hf => ?_)
           have hS := H.lt_ [false, false, false, true] [] [false, false, false, false, false, false] [1]
           refine aS hS ?_
           obtain ⟨p2, o2, cs2, hx2, hr2, H⟩ := pre_iaddr H Tryz.underlying35 TF.sz73 4 rfl he2
           refine zP 8 rfl rfl rfl rfl hf hS (fun w => rq_iaddrE hf rfl rfl rfl hx2 w) fun a hf => ?_
           obtain ⟨A15, c17, rfl, hl11⟩ := Light_cells hr2
           have H := H.pT hl11
           refine on2 (i := 9) (j := 12) (bi := [true, true, true, true, true, true, true, true, true, true, true, true, false, false]) (bj := [true, true, true, true, true, true, true, true, true, false, true, true, true, false]) (by kernel_rfl) rfl rfl rfl rfl rfl rfl ?_ ?_
           ·refine (op_q hf (rq_loadIN hf H TF.la73 1 0 rfl rfl rfl rfl) rfl (by decide) fun a hf => ?_)
            have hS := H.lt_ [false, false, false, true] [] [false, false, false, false, false, false] [3]
            refine aS hS ?_
            refine nn 12 rfl (op_storeB hf H 0 TF.sz73 rfl rfl rfl rfl rfl rfl (nle rfl) fun w H => ?_)
            refine ⟨fun h => absurd h (by decide), ?_⟩
            refine nn 13 rfl (op_storeB hf H 1 TF.sz73 rfl rfl rfl rfl rfl rfl (nle rfl) fun w H => ?_)
            refine ⟨fun h => absurd h (by decide), ?_⟩
            refine dk ?_
            have H := H.frontM 3 rfl
            have H := H.frontM 3 rfl
            have H := H.frontM 2 rfl
            have H := H.frontM 3 rfl
            have hf := hf.pn [3, 4, 5, 6, 7, 12, 13, 14]
            have H := H.lt_ [true, true, true, true] [] [true, true, true, true, true, true] [0, 2, 4, 5, 6, 7, 8, 9, 10]
            exact ⟨b4, A15, c17, b5, A14, c16, hf, H⟩
           ·refine (op_storeB hf H 0 TF.sz73 rfl rfl rfl rfl rfl rfl (nle rfl) fun w H => ?_)
            refine ⟨fun h => absurd h (by decide), ?_⟩
            refine nn 9 rfl (op_q hf (rq_loadIN hf H TF.la73 1 0 rfl rfl rfl rfl) rfl (by decide) fun a hf => ?_)
            refine ⟨fun h => absurd h (by decide), ?_⟩
            refine nn 13 rfl (op_storeB hf H 1 TF.sz73 rfl rfl rfl rfl rfl rfl (nle rfl) fun w H => ?_)
            refine ⟨fun h => absurd h (by decide), ?_⟩
            refine dk ?_
            have H := H.frontM 3 rfl
            have H := H.frontM 3 rfl
            have H := H.frontM 2 rfl
            have H := H.frontM 3 rfl
            have hf := hf.pn [3, 4, 5, 6, 7, 12, 13, 14]
            have H := H.lt_ [true, true, true, true] [] [true, true, true, true, true, true] [0, 2, 4, 5, 6, 7, 8, 9, 10]
            exact ⟨b4, A15, c17, b5, A14, c16, hf, H⟩
          ·refine (op_storeB hf H 0 TF.sz73 rfl rfl rfl rfl rfl rfl (nle rfl) fun w H => ?_)
           refine ⟨fun h => absurd h (by decide), ?_⟩
           refine nn 6 rfl (op_q hf (rq_loadB hf H TF.ls35 2 rfl rfl rfl) rfl (by decide) fun a hf => ?_)
           refine ⟨fun h => absurd h (by decide), ?_⟩
           obtain ⟨p2, o2, cs2, hx2, hr2, H⟩ := pre_iaddr H Tryz.underlying35 TF.sz73 4 rfl he2
           refine tP 8 rfl rfl rfl rfl hf (by kernel_rfl) (fun h => absurd h (by decide)) (fun w => rq_iaddrE hf rfl rfl rfl hx2 w) fun a hf => ?_
           obtain ⟨A15, c17, rfl, hl11⟩ := Light_cells hr2
           have H := H.pT hl11
           refine nn 9 rfl (op_q hf (rq_loadIN hf H TF.la73 1 0 rfl rfl rfl rfl) rfl (by decide) fun a hf => ?_)
           refine ⟨fun h => absurd h (by decide), ?_⟩
           refine nn 13 rfl (op_storeB hf H 1 TF.sz73 rfl rfl rfl rfl rfl rfl (nle rfl) fun w H => ?_)
           refine ⟨fun h => absurd h (by decide), ?_⟩
           refine dk ?_
           have H := H.frontM 3 rfl
           have H := H.frontM 3 rfl
           have H := H.frontM 2 rfl
           have H := H.frontM 3 rfl
           have hf := hf.pn [3, 4, 5, 6, 7, 12, 13, 14]
           have H := H.lt_ [true, true, true, true] [] [true, true, true, true, true, true] [0, 2, 4, 5, 6, 7, 8, 9, 10]
           exact ⟨b4, A15, c17, b5, A14, c16, hf, H⟩
       rintro a w ⟨b5, A15, c17, b4, A14, c16, hf, H⟩
       refine then_n (sq ?_)
       obtain ⟨c18, hGc18, hR1⟩ := bs_ hR1
       have fh3 := hf.prune [3, 4, 5, 6, 7, 12] rfl
       have Hm3 := H.lt_ [false, false, true, true] [] [true, true, true, true, true, true] [2, 3, 4, 5, 6, 7, 8]
       refine midF 128 (.bool c18) fh3 Hm3 ?_ fun a w hf H => ?_
       ·refine reg (pz 1 hf fun a hf => ?_)
        refine lB 1 hf H TF.ls3 fun a hf => ?_
        refine pz 1 hf fun a hf => ?_
        refine lB 0 hf H TF.ls3 fun a hf => ?_
        refine pz 2 hf fun a hf => ?_
        refine iteB hGc18 (fun hc9 hGc18 => ?_) fun hc9 hGc18 => ?_
        ·have hf := hf.lit 103 rfl hc9
         refine pz 25 hf fun a hf => ?_
         obtain rfl := oi hGc18
         have hf := hf.pn [128, 3, 4, 5, 6, 7, 12]
         have H := H.lt_ [false, false, true, true] [] [true, true, true, true, true, true] [2, 3, 4, 5, 6, 7, 8]
         exact wl_end ⟨hf, H⟩
        ·have hf := hf.lit 103 rfl hc9
         refine pz 1 hf fun a hf => ?_
         refine wlg hf rfl rfl rfl (op_q hf (rq_loadBN hf H TF.la59 1 rfl rfl rfl rfl) rfl (by decide) fun a hf => ?_)
         refine pz 1 hf fun a hf => ?_
         refine wlg hf rfl rfl rfl (op_q hf (rq_loadBN hf H TF.la59 0 rfl rfl rfl rfl) rfl (by decide) fun a hf => ?_)
         obtain ⟨y8, hy8, hGc18⟩ := bs_ hGc18
         refine wlg hf rfl rfl rfl (oC hf TF.cl35 (laws_vRoutes_ok (S := TT) (Route_mkv (x := e.Route) (H.rt 1 rfl)) (Route_mkv (x := e2.Route) (H.rt 0 rfl)) hy8) fun v14 w a hp14 hf => ?_)
         obtain ⟨hb7, hp14⟩ := hp14
         obtain rfl := VR_bool hp14
         have H := H.keep hb7
         refine pz 3 hf fun a hf => ?_
         refine iteB hGc18 (fun hc10 hGc18 => ?_) fun hc10 hGc18 => ?_
         ·have hf := hf.lit 111 rfl hc10
          refine pz 17 hf fun a hf => ?_
          obtain rfl := oi hGc18
          have hf := hf.pn [128, 3, 4, 5, 6, 7, 12]
          have H := H.lt_ [false, false, true, true] [] [true, true, true, true, true, true] [2, 3, 4, 5, 6, 7, 8]
          exact wl_end ⟨hf, H⟩
         ·have hf := hf.lit 111 rfl hc10
          refine pz 2 hf fun a hf => ?_
          refine wlg hf rfl rfl rfl (op_q hf (rq_loadB hf H TF.ls3 1 rfl rfl rfl) rfl (by decide) fun a hf => ?_)
          refine pz 2 hf fun a hf => ?_
          refine wlg hf rfl rfl rfl (op_q hf (rq_loadB hf H TF.ls3 0 rfl rfl rfl) rfl (by decide) fun a hf => ?_)
          refine pz 3 hf fun a hf => ?_
          refine iteB hGc18 (fun hc11 hGc18 => ?_) fun hc11 hGc18 => ?_
          ·have hf := hf.lit 120 rfl hc11
           refine pz 8 hf fun a hf => ?_
           obtain rfl := oi hGc18
           have hf := hf.pn [128, 3, 4, 5, 6, 7, 12]
           have H := H.lt_ [false, false, true, true] [] [true, true, true, true, true, true] [2, 3, 4, 5, 6, 7, 8]
           exact wl_end ⟨hf, H⟩
          ·have hf := hf.lit 120 rfl hc11
           refine pz 2 hf fun a hf => ?_
           refine wlg hf rfl rfl rfl (op_q hf (rq_loadB hf H TF.ls3 0 rfl rfl rfl) rfl (by decide) fun a hf => ?_)
           refine pz 2 hf fun a hf => ?_
           refine wlg hf rfl rfl rfl (op_q hf (rq_loadB hf H TF.ls3 1 rfl rfl rfl) rfl (by decide) fun a hf => ?_)
           refine pz 2 hf fun a hf => ?_
           obtain rfl := oi hGc18
           have hf := hf.pn [128, 3, 4, 5, 6, 7, 12]
           have H := H.lt_ [false, false, true, true] [] [true, true, true, true, true, true] [2, 3, 4, 5, 6, 7, 8]
           exact wl_end ⟨hf, H⟩
       refine then_n (ib hR1 hf (fun hc12 hR1 => ?_) fun hc12 hR1 => ?_)
       ·refine sqz (pz 1 hf fun a hf => ?_)
        refine wl_end (then_n (wp_ret (blk_r (then_r (then_r (blk_r (then_r (then_r (?_)))))))))
        obtain rfl := oi hR1
        replace hF := on_ret hF
        obtain rfl := oi hF
        refine rT hf ?_
        exact ⟨_, rfl, H.bel, mk_bool⟩
       ·refine wp_skip (blk_n (then_n (reg (pz 3 hf fun a hf => ?_))))
        refine wl_end ?_
        have hf := hf.pn [3, 4, 5, 6, 7, 12]
        have H := H.lt_ [true, true] [] [true, true, true, true, true, true] [0, 1, 2, 3, 4, 5, 6]
        exact then_n ⟨(w64 (i + 1), m), hR1, A13, c15, hf, H⟩
      ·refine wp_exit (then_x (then_x (blk_e (?_))))
       have hf := hf.pn [3, 4, 5, 6, 7, 12]
       have H := H.lt_ [true, true] [] [true, true, true, true, true, true] [0, 1, 2, 3, 4, 5, 6]
       exact ⟨(i, m), (Option.some.inj hR1).symm, A13, c15, hf, H⟩
     rintro a w ⟨⟨i2, m2⟩, rfl, A16, c19, hf, H⟩
     replace hF := on_next hF
     try dsimp only at hF
     refine then_n (sq (reg (lN 0 hf H TF.la37 fun a hf => ?_)))
     refine pz 1 hf fun a hf => ?_
     obtain ⟨y9, hy9, hF⟩ := bs_ hF
     refine oc hf TF.cl36 (impl_IsCompact_ok (S := TT) (Plan_mkv (x := y3.1) (H.rt 4 rfl) (H.rt 3 rfl) (H.rt 2 rfl)) mk_bool hy9) fun v15 w a hp15 hf => ?_
     obtain ⟨hb8, v16, v17, rfl, hp16, hp17⟩ := hp15
     obtain rfl := VR_bool hp16
     obtain rfl := VR_bool hp17
     have H := H.keep hb8
     refine pz 5 hf fun a hf => ?_
     refine wl_end (then_n (sq (sq ?_)))
     obtain ⟨c20, hGc20, hF⟩ := bs_ hF
     have fh4 := hf.prune [3, 6] rfl
     have Hm4 := H.lt_ [true, true] [] [true, true, true, false, true, true] [0, 2, 3, 4, 5, 6]
     refine midF 146 (.bool c20) fh4 Hm4 ?_ fun a w hf H => ?_
     ·refine reg (pz 3 hf fun a hf => ?_)
      refine iteB hGc20 (fun hc13 hGc20 => ?_) fun hc13 hGc20 => ?_
      ·have hf := hf.lit 137 rfl hc13
       refine pz 5 hf fun a hf => ?_
       refine wlsu hf rfl rfl rfl rfl (by decide) fun a hf => ?_
       refine wlsu hf rfl rfl rfl rfl (by decide) fun a hf => ?_
       refine pz 2 hf fun a hf => ?_
       obtain rfl := oi hGc20
       have hf := hf.pn [146, 3, 6]
       have H := H.lt_ [true, true] [] [true, true, true, false, true, true] [0, 2, 3, 4, 5, 6]
       exact wl_end ⟨hf, H⟩
      ·have hf := hf.lit 137 rfl hc13
       refine pz 5 hf fun a hf => ?_
       refine iteB hGc20 (fun hc14 hGc20 => ?_) fun hc14 hGc20 => ?_
       ·have hf := hf.lit 142 rfl hc14
        refine pz 4 hf fun a hf => ?_
        obtain rfl := oi hGc20
        have hf := hf.pn [146, 3, 6]
        have H := H.lt_ [true, true] [] [true, true, true, false, true, true] [0, 2, 3, 4, 5, 6]
        exact wl_end ⟨hf, H⟩
       ·have hf := hf.lit 142 rfl hc14
        refine pz 4 hf fun a hf => ?_
        obtain rfl := oi hGc20
        have hf := hf.pn [146, 3, 6]
        have H := H.lt_ [true, true] [] [true, true, true, false, true, true] [0, 2, 3, 4, 5, 6]
        exact wl_end ⟨hf, H⟩
     refine then_n (ib hF hf (fun hc15 hF => ?_) fun hc15 hF => ?_)
     ·refine sqz (pz 1 hf fun a hf => ?_)
      refine wl_end (then_n (wp_ret (then_r (?_))))
      obtain rfl := oi hF
      refine rT hf ?_
      exact ⟨_, rfl, H.bel, mk_bool⟩
     ·refine wp_skip (then_n (sq (reg (lN 1 hf H TF.la37 fun a hf => ?_))))
      obtain ⟨y10, hy10, hF⟩ := bs_ hF
      refine oc hf TF.cl12 (impl_LowestHeight_ok (S := TT) (Plan_mkv (x := ({ Network := y2.1.Network, Lights := m2 } : Plan)) (H.rt 5 rfl) (H.rt 4 rfl) (H.rt 0 rfl)) hy10) fun v18 w a hp18 hf => ?_
      obtain ⟨hb9, v19, v20, rfl, hp19, hp20⟩ := hp18
      obtain rfl := VR_int hp19
      obtain rfl := VR_bool hp20
      have H := H.keep hb9
      refine pz 5 hf fun a hf => ?_
      refine wr (lN 1 hf H TF.la37 fun a hf => ?_)
      obtain ⟨y11, hy11, hF⟩ := bs_ hF
      refine oc hf TF.cl15 (impl_CompactPlan_ok (S := TT) (Plan_mkv (x := ({ Network := y2.1.Network, Lights := m2 } : Plan)) (H.rt 5 rfl) (H.rt 4 rfl) (H.rt 0 rfl)) hy11) fun v21 w a hp21 hf => ?_
      obtain ⟨hb10, F10, v22, v23, rfl, hp22, hp23, hN2⟩ := hp21
      obtain ⟨A17, c21, F11, A18, c22, F12, A19, c23, F13, rfl, rfl, hl12, hl13, hl14⟩ := Plan_vo hp22
      obtain rfl := VR_bool hp23
      have H := H.aO3 hb10 (by first | exact hN2 | simpa using hN2) hl12 hl13 hl14
      have H := H.lend 0 rfl
      have H := H.lend 1 rfl
      have H := H.lend 2 rfl
      refine pz 3 hf fun a hf => ?_
      refine aL hf H TF.zv37 fun b6 a w hf H => ?_
      refine sB 0 hf H TF.sz37 fun w H => ?_
      refine pz 1 hf fun a hf => ?_
      refine wr (lN 1 hf H TF.la37 fun a hf => ?_)
      obtain ⟨y12, hy12, hF⟩ := bs_ hF
      refine oc hf TF.cl37 (impl_PlanHeight_ok (S := TT) (Plan_mkv (x := y3.1) (H.rt 6 rfl) (H.rt 5 rfl) (H.rt 4 rfl)) hy12) fun v24 w a hp24 hf => ?_
      obtain ⟨hb11, v25, v26, rfl, hp25, hp26⟩ := hp24
      obtain rfl := VR_int hp25
      obtain rfl := VR_bool hp26
      have H := H.keep hb11
      refine pz 5 hf fun a hf => ?_
      have hf := hf.pn [17, 18, 19, 20, 21, 22]
      refine wr (lN 0 hf H TF.la37 fun a hf => ?_)
      obtain ⟨y13, hy13, hF⟩ := bs_ hF
      refine oc hf TF.cl37 (impl_PlanHeight_ok (S := TT) (Plan_mkv (x := y11.1) (H.rt 2 rfl) (H.rt 1 rfl) (H.rt 0 rfl)) hy13) fun v27 w a hp27 hf => ?_
      obtain ⟨hb12, v28, v29, rfl, hp28, hp29⟩ := hp27
      obtain rfl := VR_int hp28
      obtain rfl := VR_bool hp29
      have H := H.keep hb12
      refine pz 5 hf fun a hf => ?_
      refine wl_end (then_n (sq ?_))
      obtain ⟨c24, hGc24, hF⟩ := bs_ hF
      have fh5 := hf.prune [] rfl
      have Hm5 := H.lt_ [false, false, false] [] [false, false, false, false, false, false, false, false] []
      refine midF 2 (.bool c24) fh5 Hm5 ?_ fun a w hf H => ?_
      ·refine reg (pz 4 hf fun a hf => ?_)
       refine iteB hGc24 (fun hc16 hGc24 => ?_) fun hc16 hGc24 => ?_
       ·have hf := hf.lit 170 rfl hc16
        refine pz 3 hf fun a hf => ?_
        refine iteB hGc24 (fun hc17 hGc24 => ?_) fun hc17 hGc24 => ?_
        ·have hf := hf.lit 173 rfl hc17
         refine pz 3 hf fun a hf => ?_
         refine iteB hGc24 (fun hc18 hGc24 => ?_) fun hc18 hGc24 => ?_
         ·have hf := hf.lit 176 rfl hc18
          refine pz 2 hf fun a hf => ?_
          refine wlsu hf rfl rfl rfl rfl (by decide) fun a hf => ?_
          refine wlsu hf rfl rfl rfl rfl (by decide) fun a hf => ?_
          refine wlsu hf rfl rfl rfl rfl (by decide) fun a hf => ?_
          refine pz 2 hf fun a hf => ?_
          refine wlsu hf rfl rfl rfl rfl (by decide) fun a hf => ?_
          refine wlsu hf rfl rfl rfl rfl (by decide) fun a hf => ?_
          refine wlsu hf rfl rfl rfl rfl (by decide) fun a hf => ?_
          refine pz 2 hf fun a hf => ?_
          refine wlsu hf rfl rfl rfl rfl (by decide) fun a hf => ?_
          refine wlsu hf rfl rfl rfl rfl (by decide) fun a hf => ?_
          refine pz 4 hf fun a hf => ?_
          obtain rfl := oi hGc24
          have hf := hf.pn [2]
          have H := H.lt_ [false, false, false] [] [false, false, false, false, false, false, false, false] []
          exact wl_end ⟨hf, H⟩
         ·have hf := hf.lit 176 rfl hc18
          refine pz 2 hf fun a hf => ?_
          refine iteB hGc24 (fun hc19 hGc24 => ?_) fun hc19 hGc24 => ?_
          ·have hf := hf.lit 178 rfl hc19
           refine pz 5 hf fun a hf => ?_
           refine iteB hGc24 (fun hc20 hGc24 => ?_) fun hc20 hGc24 => ?_
           ·have hf := hf.lit 183 rfl hc20
            refine pz 5 hf fun a hf => ?_
            refine iteB hGc24 (fun hc21 hGc24 => ?_) fun hc21 hGc24 => ?_
            ·have hf := hf.lit 188 rfl hc21
             refine wlg hf rfl rfl rfl (op_q hf (rq_loadBN hf H TF.la37 0 rfl rfl rfl rfl) rfl (by decide) fun a hf => ?_)
             obtain ⟨y14, hy14, hGc24⟩ := bs_ hGc24
             refine wlg hf rfl rfl rfl (oC hf TF.cl34 (impl_IsValidPlan_ok (S := TT) (Plan_mkv (x := y11.1) (H.rt 2 rfl) (H.rt 1 rfl) (H.rt 0 rfl)) hy14) fun v30 w a hp30 hf => ?_)
             obtain ⟨hb13, hp30⟩ := hp30
             obtain rfl := VR_bool hp30
             have H := H.keep hb13
             refine pz 4 hf fun a hf => ?_
             obtain rfl := oi hGc24
             have hf := hf.pn [2]
             have H := H.lt_ [false, false, false] [] [false, false, false, false, false, false, false, false] []
             exact wl_end ⟨hf, H⟩
            ·have hf := hf.lit 188 rfl hc21
             refine pz 6 hf fun a hf => ?_
             obtain rfl := oi hGc24
             have hf := hf.pn [2]
             have H := H.lt_ [false, false, false] [] [false, false, false, false, false, false, false, false] []
             exact wl_end ⟨hf, H⟩
           ·have hf := hf.lit 183 rfl hc20
            refine pz 11 hf fun a hf => ?_
            obtain rfl := oi hGc24
            have hf := hf.pn [2]
            have H := H.lt_ [false, false, false] [] [false, false, false, false, false, false, false, false] []
            exact wl_end ⟨hf, H⟩
          ·have hf := hf.lit 178 rfl hc19
           refine pz 16 hf fun a hf => ?_
           obtain rfl := oi hGc24
           have hf := hf.pn [2]
           have H := H.lt_ [false, false, false] [] [false, false, false, false, false, false, false, false] []
           exact wl_end ⟨hf, H⟩
        ·have hf := hf.lit 173 rfl hc17
         refine pz 3 hf fun a hf => ?_
         refine wlsu hf rfl rfl rfl rfl (by decide) fun a hf => ?_
         refine wlsu hf rfl rfl rfl rfl (by decide) fun a hf => ?_
         refine wlsu hf rfl rfl rfl rfl (by decide) fun a hf => ?_
         refine wlsu hf rfl rfl rfl rfl (by decide) fun a hf => ?_
         refine wlsu hf rfl rfl rfl rfl (by decide) fun a hf => ?_
         refine wlsu hf rfl rfl rfl rfl (by decide) fun a hf => ?_
         refine wlsu hf rfl rfl rfl rfl (by decide) fun a hf => ?_
         refine wlsu hf rfl rfl rfl rfl (by decide) fun a hf => ?_
         refine wlsu hf rfl rfl rfl rfl (by decide) fun a hf => ?_
         refine wlsu hf rfl rfl rfl rfl (by decide) fun a hf => ?_
         refine wlsu hf rfl rfl rfl rfl (by decide) fun a hf => ?_
         refine wlsu hf rfl rfl rfl rfl (by decide) fun a hf => ?_
         refine wlsu hf rfl rfl rfl rfl (by decide) fun a hf => ?_
         refine wlsu hf rfl rfl rfl rfl (by decide) fun a hf => ?_
         refine wlsu hf rfl rfl rfl rfl (by decide) fun a hf => ?_
         refine pz 3 hf fun a hf => ?_
         obtain rfl := oi hGc24
         have hf := hf.pn [2]
         have H := H.lt_ [false, false, false] [] [false, false, false, false, false, false, false, false] []
         exact wl_end ⟨hf, H⟩
       ·have hf := hf.lit 170 rfl hc16
        refine pz 6 hf fun a hf => ?_
        refine wlsu hf rfl rfl rfl rfl (by decide) fun a hf => ?_
        refine wlsu hf rfl rfl rfl rfl (by decide) fun a hf => ?_
        refine wlsu hf rfl rfl rfl rfl (by decide) fun a hf => ?_
        refine wlsu hf rfl rfl rfl rfl (by decide) fun a hf => ?_
        refine wlsu hf rfl rfl rfl rfl (by decide) fun a hf => ?_
        refine wlsu hf rfl rfl rfl rfl (by decide) fun a hf => ?_
        refine wlsu hf rfl rfl rfl rfl (by decide) fun a hf => ?_
        refine wlsu hf rfl rfl rfl rfl (by decide) fun a hf => ?_
        refine wlsu hf rfl rfl rfl rfl (by decide) fun a hf => ?_
        refine wlsu hf rfl rfl rfl rfl (by decide) fun a hf => ?_
        refine wlsu hf rfl rfl rfl rfl (by decide) fun a hf => ?_
        refine wlsu hf rfl rfl rfl rfl (by decide) fun a hf => ?_
        refine wlsu hf rfl rfl rfl rfl (by decide) fun a hf => ?_
        refine wlsu hf rfl rfl rfl rfl (by decide) fun a hf => ?_
        refine wlsu hf rfl rfl rfl rfl (by decide) fun a hf => ?_
        refine pz 3 hf fun a hf => ?_
        obtain rfl := oi hGc24
        have hf := hf.pn [2]
        have H := H.lt_ [false, false, false] [] [false, false, false, false, false, false, false, false] []
        exact wl_end ⟨hf, H⟩
      refine then_n (wp_ret (?_))
      obtain rfl := oi hF
      refine rT hf ?_
      exact ⟨_, rfl, H.bel, mk_bool⟩
end AT
