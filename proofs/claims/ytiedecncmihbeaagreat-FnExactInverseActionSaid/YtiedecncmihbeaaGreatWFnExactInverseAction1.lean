/- The Go functions do what is told of them, by program (gen.py). -/
import Derived.Test.YtiedecncmihbeaaGreatWFnExactInverseAction0
set_option linter.unusedVariables false
set_option linter.unusedSimpArgs false
set_option maxRecDepth 100000
set_option maxHeartbeats 1000000
namespace AT
open Go Go.RowKit Go.Proofs
variable {fu : Nat} {w0 : World}

theorem spec_l9Own_ok {S : Nat → Prop} {v0_ : Value} {p : Plan} {r : Plan} (h0 : VR w0 S v0_ p) (hF : spec_l9Own fu p = some r) :
    Calls Tryz.prog 81 [v0_].toArray w0 fun e w' => ∃ v, e = .returned v ∧ (Below w0.heap.size w0 w' ∧ ∃ F0, VO w' F0 v r ∧ New w0 w' F0) := by
 obtain ⟨A, c, A2, c2, A3, c3, rfl, hl, hl2, hl3⟩ := Plan_open h0
 have H := Mem.start ⟨w0, []⟩ S
 have H := H.pushArg (MP.val [(.slice A p.Network.Nodes.length c)] p.Network.Nodes) hl
 have H := H.pushArg (MP.val [(.slice A2 p.Network.Fibers.length c2)] p.Network.Fibers) hl2
 have H := H.pushArg (MP.val [(.slice A3 p.Lights.length c3)] p.Lights) hl3
 refine en Tryz.func81 fun a hf => ?_
 rw [spec_l9Own] at hF
 refine sq (reg (wl0 rfl (op_box hf H rfl rfl (by decide) fun b' a w hf H => ?_)))
 refine wl0 rfl (op_alloc hf H TF.zv45 rfl (by decide) fun b2 a w hf H => ?_)
 refine wr (pz 1 hf fun a hf => ?_)
 refine oq hf (rq_loadBN hf H TF.la42 1 rfl rfl rfl rfl) fun a hf => ?_
 obtain ⟨y, hy, hF⟩ := bind_some hF
 refine oc hf TF.cl142 (spec_l2Own_ok (S := TT) (Network_mkv (x := p.Network) (H.rt 2 rfl) (H.rt 1 rfl)) hy) fun v w a hp hf => ?_
 obtain ⟨hb, F, hp2, hN⟩ := hp
 obtain ⟨A4, c4, F2, A5, c5, F3, rfl, rfl, hl4, hl5⟩ := Network_vo hp2
 have H := H.addOwn hb (X := [(⟨F2, MP.own F2 [(.slice A4 y.Nodes.length c4)] (y.Nodes : List ByteArray)⟩ : DI), (⟨F3, MP.own F3 [(.slice A5 y.Fibers.length c5)] (y.Fibers : List Fiber)⟩ : DI)]) (by simpa using hN.1) (ps1 hl4 (ps1 hl5 ps0)) (by simpa using hN.2)
 have H := H.lend 0 rfl
 have H := H.lend 1 rfl
 refine oq hf (rq_build hf (cs := [(.slice A4 y.Nodes.length c4), (.slice A5 y.Fibers.length c5), (.slice none 0 0)]) rfl (fun w => by kernel_rfl)) fun a hf => ?_
 refine wl0 rfl (op_alloc hf H TF.zv45 rfl (by decide) fun b3 a w hf H => ?_)
 refine wl0 rfl (op_storeB hf H 0 TF.sz45 rfl rfl rfl rfl rfl rfl (nle rfl) fun w H => ?_)
 refine wl_end (then_n (sq (sqz (pz 1 hf fun a hf => ?_))))
 refine wl_end (then_n ?_)
 have H := H.nilRow (Light) (.ow []) rfl rfl 52
 obtain ⟨out', hB1, hF⟩ := bind_some hF
 have hf := hf.pn [1, 2, 3, 4]
 have H := H.lt_ [true, true, true] [true] [true, true] [0, 1, 2, 3, 4]
 refine loopC (fun (s : Int × List Light) (a : Act) (w : World) => match s with | (i, m) => ∃ (A6 : Option Addr) (c6 : Nat) (E : Go.TypeId) (Fs : List (List Nat)), Fr a 28 [(1, (.pointer (some ⟨b', 0, none⟩))), (2, (.pointer (some ⟨b2, 0, none⟩))), (3, (.pointer (some ⟨b3, 0, none⟩))), (4, (.int .i64 i))] ∧ Mem ⟨w0, []⟩ S [⟨b3, 45, [(.slice A4 y.Nodes.length c4), (.slice A5 y.Fibers.length c5), (.slice A6 m.length c6)]⟩, ⟨b2, 45, [(.slice none 0 0), (.slice none 0 0), (.slice none 0 0)]⟩, ⟨b', 45, [(.slice A p.Network.Nodes.length c), (.slice A2 p.Network.Fibers.length c2), (.slice A3 p.Lights.length c3)]⟩] [⟨.ow Fs, E, A6, c6, (m : List Light)⟩] [⟨F2, MP.own F2 [(.slice A4 y.Nodes.length c4)] (y.Nodes : List ByteArray)⟩, ⟨F3, MP.own F3 [(.slice A5 y.Fibers.length c5)] (y.Fibers : List Fiber)⟩] [(true, MP.val [(.slice A5 y.Fibers.length c5)] (y.Fibers : List Fiber)), (true, MP.val [(.slice A4 y.Nodes.length c4)] (y.Nodes : List ByteArray)), (false, MP.val [(.slice A3 p.Lights.length c3)] (p.Lights : List Light)), (false, MP.val [(.slice A2 p.Network.Fibers.length c2)] (p.Network.Fibers : List Fiber)), (false, MP.val [(.slice A p.Network.Nodes.length c)] (p.Network.Nodes : List ByteArray))] w) (fun k (s : Int × List Light) => spec_l9Own_L1 fu p k s.1 s.2 = some out') (fun s => out' = s) (0, ([] : List Light)) fu hB1 ⟨none, 0, 52, [], hf, H⟩ (fun s h => by cases h) ?_ ?_
 ·rintro fk ⟨i, m⟩ a w hR1 hI
  replace hR1 : spec_l9Own_L1 fu p (fk + 1) i m = some out' := hR1
  rw [spec_l9Own_L1] at hR1
  obtain ⟨A6, c6, E, Fs, hf, H⟩ := hI
  refine sq (sqz (pz 2 hf fun a hf => ?_))
  refine oq hf (rq_loadB hf H TF.ls43 2 rfl rfl rfl) fun a hf => ?_
  refine pz 2 hf fun a hf => ?_
  refine wl_end (then_n (ib hR1 hf (fun hc hR1 => ?_) fun hc hR1 => ?_))
  ·refine wp_skip (then_n (sq (wp_block (drawn [11] (bs := [false, false, false, false, false, false, false, false, false, false, false, false]) (fuel := 12) (Checked.mixed Tryz.checked) rfl rfl fun w hb => ?_))))
   have H := H.keep hb
   refine zp 0 hf trivial fun a hf => ?_
   refine strT (H.let [true, false, false] [false] [false, false] [] rfl rfl rfl rfl) (fun w H => trivial) fun hS => ?_
   refine tS 1 [1, 9, 10, 11] rfl rfl rfl rfl hf (by kernel_rfl) (by kernel_rfl) hS (fun w H => rq_loadB hf H TF.ls43 0 rfl rfl rfl) fun a hf => ?_
   refine zp 2 hf hS fun a hf => ?_
   refine strT (H.let [true, false, true] [false] [false, false] [] rfl rfl rfl rfl) (fun w H => H.let [true, false] [] [] [] rfl rfl rfl rfl) fun hS => ?_
   refine tS 3 [3, 5, 6, 7, 8, 9, 10, 11] rfl rfl rfl rfl hf (by kernel_rfl) (by kernel_rfl) hS (fun w H => rq_loadB hf H TF.ls43 1 rfl rfl rfl) fun a hf => ?_
   refine zp 4 hf hS fun a hf => ?_
   obtain ⟨e, he, hR1⟩ := bind_some hR1
   obtain ⟨p2, o, cs, hx, hr, H⟩ := pre_iaddr H Tryz.underlying43 TF.sz52 2 rfl he
   refine tP 5 rfl rfl rfl rfl hf (by kernel_rfl) (fun _ => hS) (fun w => rq_iaddrE hf rfl rfl rfl hx w) fun a hf => ?_
   obtain ⟨A7, c7, rfl, hl6⟩ := Light_cells hr
   have H := H.push (false, MP.val [(.slice A7 e.Route.Fibers.length c7)] e.Route.Fibers) hl6
   refine strT (H.let [true, false, true] [false] [false, false] [1] rfl rfl rfl rfl) (fun w H => H.let [true, true] [] [] [] rfl rfl rfl rfl) fun hS => ?_
   refine tS 6 [6, 7, 8, 9, 10, 11] rfl rfl rfl rfl hf (by kernel_rfl) (by kernel_rfl) hS (fun w H => rq_loadIN hf H TF.la52 0 0 rfl rfl rfl rfl) fun a hf => ?_
   obtain ⟨y2, hy2, hR1⟩ := bind_some hR1
   refine n1 7 (by kernel_rfl) rfl rfl (op_call hf TF.cl140 rfl (by decide) (spec_l9Copy_ok (S := TT) (Light_mkv (x := e) (H.rt 0 rfl)) hy2) fun v2 w a hp3 hf => ?_)
   obtain ⟨hb2, F4, hp4, hN2⟩ := hp3
   obtain ⟨A8, c8, F5, rfl, rfl, hl7⟩ := Light_vo hp4
   have H := H.addOwn hb2 (X := [(⟨F5, MP.own F5 [(.slice A8 y2.Route.Fibers.length c8)] (y2.Route.Fibers : List Int)⟩ : DI)]) (by simpa using hN2.1) (ps1 hl7 ps0) (by simpa using hN2.2)
   have H := H.lend 0 rfl
   have hS := H.lt_ [true, false, true] [false] [false, false, false] [2]
   refine ⟨fun _ => hS, ?_⟩
   have H := H.recast (X := [(⟨F5, MP.own F5 [(.slice A8 y2.Route.Fibers.length c8)] (y2.Route.Fibers : List Int)⟩ : DI)]) (Y := [(⟨F5, MP.own F5 [(.int .i64 y2.Id), (.int .i64 y2.Route.Start), (.slice A8 y2.Route.Fibers.length c8), (.int .i64 y2.Block.First), (.int .i64 y2.Block.Count)] (y2 : Light)⟩ : DI)]) (List.Perm.of_eq (by simp)) fun _ => ps1 (Light_ownmk (x := y2) (H.ownAt 0 rfl)) ps0
   refine n1 8 (by kernel_rfl) rfl rfl (op_bsliceO hf 52 H rfl (fun w => by kernel_rfl) (by decide) fun A9 a w hf H => ?_)
   have hS := H.lt_ [true, false, true] [false, false] [false, false] [2]
   refine ⟨fun _ => hS, ?_⟩
   obtain ⟨l, hl, hR1⟩ := bind_some hR1
   have H := H.frontR 1 rfl
   refine n1 9 (by kernel_rfl) rfl rfl (op_appO hf H Tryz.underlying43 TF.ai52 rfl (by decide) rfl rfl hl (by decide) fun E2 A10 c9 a w hf H => ?_)
   have hS := H.lt_ [true, false, true] [false] [false, false] [2]
   refine ⟨fun _ => hS, ?_⟩
   refine zp 10 hf hS fun a hf => ?_
   refine n1 11 (by kernel_rfl) rfl rfl (op_storeB hf H 0 TF.sz43 rfl rfl rfl rfl rfl rfl (nle rfl) fun w H => ?_)
   refine ⟨fun h => absurd h (by decide), ?_⟩
   refine dn (by kernel_rfl) ?_
   have hf := hf.pn [1, 2, 3, 4]
   refine blk_n (then_n (reg (pz 3 hf fun a hf => ?_)))
   refine wl_end ?_
   have hf := hf.pn [1, 2, 3, 4]
   have H := H.lt_ [true, true, true] [true] [true, true] [3, 4, 5, 6, 7]
   exact then_n ⟨(w64 (i + 1), l), hR1, A10, c9, E2, Fs ++ [F5], hf, H⟩
  ·refine wp_exit (then_x (then_x (blk_e (?_))))
   have hf := hf.pn [1, 2, 3, 4]
   have H := H.lt_ [true, true, true] [true] [true, true] [0, 1, 2, 3, 4]
   exact ⟨(i, m), (Option.some.inj hR1).symm, A6, c6, E, Fs, hf, H⟩
 rintro a w ⟨⟨i2, m2⟩, rfl, A11, c10, E3, Fs2, hf, H⟩
 try dsimp only at hF
 refine then_n (sq (reg (oq hf (rq_loadBN hf H TF.la45 0 rfl rfl rfl rfl) fun a hf => ?_)))
 refine wl0 rfl (op_storeB hf H 1 TF.sz45 rfl rfl rfl rfl rfl rfl (nle rfl) fun w H => ?_)
 refine wl_end (then_n (wp_ret (?_)))
 obtain ⟨F6, H⟩ := H.freezeOwn 0 rfl
 have H := H.lend 0 rfl
 have H := H.frontD 2 rfl
 have H := H.frontD 2 rfl
 obtain rfl := Option.some.inj hF
 refine ret_1 (fn := Tryz.f81) (r := .cell 2 45) hf rfl (rv_cellN hf H 1 TF.la45 rfl rfl rfl) ?_
 have hN := H.ends (X := [(⟨F2, MP.own F2 [(.slice A4 y.Nodes.length c4)] (y.Nodes : List ByteArray)⟩ : DI), (⟨F3, MP.own F3 [(.slice A5 y.Fibers.length c5)] (y.Fibers : List Fiber)⟩ : DI), (⟨F6, MP.own F6 [(.slice A11 m2.length c10)] (m2 : List Light)⟩ : DI)])
 simp only [List.flatMap_cons, List.flatMap_nil, List.append_nil, List.append_assoc] at hN
 exact ⟨_, rfl, H.bel, (F2 ++ (F3 ++ F6)), ⟨_, Plan_ownmk (x := ({ Network := y, Lights := m2 } : Plan)) (H.ownAt 0 rfl) (H.ownAt 1 rfl) (H.ownAt 2 rfl), rfl⟩, by first | exact hN | simpa using hN⟩

theorem spec_l9Put_ok {S : Nat → Prop} {v0_ : Value} {v1_ : Value} {p : Plan} {x1 : Light} {r : Plan} (h0 : VR w0 S v0_ p) (h1 : VR w0 S v1_ x1) (hF : spec_l9Put fu p x1 = some r) :
    Calls Tryz.prog 109 [v0_, v1_].toArray w0 fun e w' => ∃ v, e = .returned v ∧ (Below w0.heap.size w0 w' ∧ VR w' (St ⟨w0, []⟩ S [] [] [] true) v r) := by
 obtain ⟨A, c, A2, c2, A3, c3, rfl, hl, hl2, hl3⟩ := Plan_open h0
 obtain ⟨A4, c4, rfl, hl4⟩ := Light_open h1
 have H := Mem.start ⟨w0, []⟩ S
 have H := H.pushArg (MP.val [(.slice A p.Network.Nodes.length c)] p.Network.Nodes) hl
 have H := H.pushArg (MP.val [(.slice A2 p.Network.Fibers.length c2)] p.Network.Fibers) hl2
 have H := H.pushArg (MP.val [(.slice A3 p.Lights.length c3)] p.Lights) hl3
 have H := H.pushArg (MP.val [(.slice A4 x1.Route.Fibers.length c4)] x1.Route.Fibers) hl4
 refine en Tryz.func109 fun a hf => ?_
 rw [spec_l9Put] at hF
 refine sq (reg (wl0 rfl (op_box hf H rfl rfl (by decide) fun b' a w hf H => ?_)))
 refine wl0 rfl (op_box hf H rfl rfl (by decide) fun b2 a w hf H => ?_)
 refine wl0 rfl (op_alloc hf H TF.zv45 rfl (by decide) fun b3 a w hf H => ?_)
 refine wr (oq hf (rq_loadBN hf H TF.la45 2 rfl rfl rfl rfl) fun a hf => ?_)
 obtain ⟨y, hy, hF⟩ := bind_some hF
 refine oc hf TF.cl81 (spec_l9Own_ok (S := TT) (Plan_mkv (x := p) (H.rt 3 rfl) (H.rt 2 rfl) (H.rt 1 rfl)) hy) fun v w a hp hf => ?_
 obtain ⟨hb, F, hp2, hN⟩ := hp
 obtain ⟨A5, c5, F2, A6, c6, F3, A7, c7, F4, rfl, rfl, hl5, hl6, hl7⟩ := Plan_vo hp2
 have H := H.addOwn hb (X := [(⟨F2, MP.own F2 [(.slice A5 y.Network.Nodes.length c5)] (y.Network.Nodes : List ByteArray)⟩ : DI), (⟨F3, MP.own F3 [(.slice A6 y.Network.Fibers.length c6)] (y.Network.Fibers : List Fiber)⟩ : DI), (⟨F4, MP.own F4 [(.slice A7 y.Lights.length c7)] (y.Lights : List Light)⟩ : DI)]) (by simpa using hN.1) (ps1 hl5 (ps1 hl6 (ps1 hl7 ps0))) (by simpa using hN.2)
 have H := H.lend 0 rfl
 have H := H.lend 1 rfl
 have H := H.lend 2 rfl
 refine wl0 rfl (op_alloc hf H TF.zv45 rfl (by decide) fun b4 a w hf H => ?_)
 refine wl0 rfl (op_storeB hf H 0 TF.sz45 rfl rfl rfl rfl rfl rfl (nle rfl) fun w H => ?_)
 refine wr (pz 1 hf fun a hf => ?_)
 refine wl_end (then_n (sq ?_))
 obtain ⟨out', hB1, hF⟩ := bind_some hF
 have hf := hf.pn [3, 4, 5, 6]
 have H := H.lt_ [true, true, true, false] [] [true, true, true] [0, 1, 2, 3]
 refine loopC (fun (s : Int) (a : Act) (w : World) => match s with | i => Fr a 44 [(3, (.pointer (some ⟨b2, 0, none⟩))), (4, (.pointer (some ⟨b3, 0, none⟩))), (5, (.pointer (some ⟨b4, 0, none⟩))), (6, (.int .i64 i))] ∧ Mem ⟨w0, []⟩ S [⟨b4, 45, [(.slice A5 y.Network.Nodes.length c5), (.slice A6 y.Network.Fibers.length c6), (.slice A7 y.Lights.length c7)]⟩, ⟨b3, 45, [(.slice none 0 0), (.slice none 0 0), (.slice none 0 0)]⟩, ⟨b2, 52, [(.int .i64 x1.Id), (.int .i64 x1.Route.Start), (.slice A4 x1.Route.Fibers.length c4), (.int .i64 x1.Block.First), (.int .i64 x1.Block.Count)]⟩] [] [⟨F2, MP.own F2 [(.slice A5 y.Network.Nodes.length c5)] (y.Network.Nodes : List ByteArray)⟩, ⟨F3, MP.own F3 [(.slice A6 y.Network.Fibers.length c6)] (y.Network.Fibers : List Fiber)⟩, ⟨F4, MP.own F4 [(.slice A7 y.Lights.length c7)] (y.Lights : List Light)⟩] [(true, MP.val [(.slice A7 y.Lights.length c7)] (y.Lights : List Light)), (true, MP.val [(.slice A6 y.Network.Fibers.length c6)] (y.Network.Fibers : List Fiber)), (true, MP.val [(.slice A5 y.Network.Nodes.length c5)] (y.Network.Nodes : List ByteArray)), (false, MP.val [(.slice A4 x1.Route.Fibers.length c4)] (x1.Route.Fibers : List Int))] w) (fun k (s : Int) => spec_l9Put_L1 fu x1 y k s = some out') (fun s => out' = s) 0 fu hB1 ⟨hf, H⟩ (fun s h => by cases h) ?_ ?_
 ·rintro fk i a w hR1 hI
  replace hR1 : spec_l9Put_L1 fu x1 y (fk + 1) i = some out' := hR1
  rw [spec_l9Put_L1] at hR1
  obtain ⟨hf, H⟩ := hI
  refine sq (sq ?_)
  obtain ⟨c8, hGc8, hR1⟩ := bind_some hR1
  have fh := hf.prune [3, 4, 5, 6] rfl
  have Hm := H.lt_ [true, true, true] [] [true, true, true] [0, 1, 2, 3]
  refine midF 24 (.bool c8) fh Hm ?_ fun a w hf H => ?_
  ·refine drawn [] (bs := [false, false, false, false, false, false, false, false, false, false, false, false, false, false, false, false]) (fuel := 16) (Checked.mixed Tryz.checked) rfl rfl fun w hb => ?_
   have H := H.keep hb
   refine zp 0 hf trivial fun a hf => ?_
   refine zp 1 hf trivial fun a hf => ?_
   refine strT (H.let [true, false, false] [] [false, false, false] [] rfl rfl rfl rfl) (fun w H => trivial) fun hS => ?_
   refine tS 2 [] rfl rfl rfl rfl hf (by kernel_rfl) (by kernel_rfl) hS (fun w H => rq_loadB hf H TF.ls43 0 rfl rfl rfl) fun a hf => ?_
   refine zp 3 hf hS fun a hf => ?_
   refine zp 4 hf hS fun a hf => ?_
   refine zp 5 hf hS fun a hf => ?_
   refine iteB hGc8 (fun hc hGc8 => ?_) fun hc hGc8 => ?_
   ·have hf := hf.lit 14 rfl hc
    refine zg 6 hf hS fun a hf => ?_
    refine tSg 7 [] rfl rfl rfl rfl rfl rfl hf (by kernel_rfl) (by kernel_rfl) hS (fun w H => rq_loadB hf H TF.ls43 0 rfl rfl rfl) fun a hf => ?_
    refine zg 8 hf hS fun a hf => ?_
    obtain ⟨e, he, hGc8⟩ := bind_some hGc8
    obtain ⟨p2, o, cs, hx, hr, H⟩ := pre_iaddr H Tryz.underlying43 TF.sz52 0 rfl he
    refine tPg 9 rfl rfl rfl rfl rfl rfl hf (by kernel_rfl) (fun _ => hS) (fun w => rq_iaddrE hf rfl rfl rfl hx w) fun a hf => ?_
    obtain ⟨A8, c9, rfl, hl8⟩ := Light_cells hr
    have H := H.push (true, MP.val [(.slice A8 e.Route.Fibers.length c9)] e.Route.Fibers) hl8
    refine zg 10 hf hS fun a hf => ?_
    refine strT (H.let [true, false, false] [] [false, false, false] [1] rfl rfl rfl rfl) (fun w H => H.let [true] [] [] [] rfl rfl rfl rfl) fun hS => ?_
    refine tSg 11 [] rfl rfl rfl rfl rfl rfl hf (by kernel_rfl) (by kernel_rfl) hS (fun w H => rq_loadI hf H TF.ls3 0 0 rfl rfl rfl) fun a hf => ?_
    refine zg 12 hf hS fun a hf => ?_
    refine strT (H.let [true, false, true] [] [false, false, false] [1] rfl rfl rfl rfl) (fun w H => H.let [true, false] [] [] [0] rfl rfl rfl rfl) fun hS => ?_
    refine tSg 13 [] rfl rfl rfl rfl rfl rfl hf (by kernel_rfl) (by kernel_rfl) hS (fun w H => rq_loadB hf H TF.ls3 1 rfl rfl rfl) fun a hf => ?_
    refine zg 14 hf hS fun a hf => ?_
    refine zp 15 hf hS fun a hf => ?_
    refine dn (by kernel_rfl) ?_
    obtain rfl := Option.some.inj hGc8
    have hf := hf.pn [24, 3, 4, 5, 6]
    have H := H.lt_ [true, true, true] [] [true, true, true] [2, 3, 4, 5]
    exact ⟨hf, H⟩
   ·have hf := hf.lit 14 rfl hc
    refine zU 6 hf hS fun a hf => ?_
    refine zU 7 hf hS fun a hf => ?_
    refine zU 8 hf hS fun a hf => ?_
    refine zU 9 hf hS fun a hf => ?_
    refine zU 10 hf hS fun a hf => ?_
    refine zU 11 hf hS fun a hf => ?_
    refine zU 12 hf hS fun a hf => ?_
    refine zU 13 hf hS fun a hf => ?_
    refine zU 14 hf hS fun a hf => ?_
    refine zp 15 hf hS fun a hf => ?_
    refine dn (by kernel_rfl) ?_
    obtain rfl := Option.some.inj hGc8
    have hf := hf.pn [24, 3, 4, 5, 6]
    have H := H.lt_ [true, true, true] [] [true, true, true] [0, 1, 2, 3]
    exact ⟨hf, H⟩
  refine then_n (ib hR1 hf (fun hc2 hR1 => ?_) fun hc2 hR1 => ?_)
  ·refine wp_skip (then_n (wp_block (reg (pz 3 hf fun a hf => ?_))))
   refine wl_end (blk_n ?_)
   have hf := hf.pn [3, 4, 5, 6]
   have H := H.lt_ [true, true, true] [] [true, true, true] [0, 1, 2, 3]
   exact then_n ⟨w64 (i + 1), hR1, hf, H⟩
  ·refine wp_exit (then_x (then_x (blk_e (?_))))
   have hf := hf.pn [3, 4, 5, 6]
   have H := H.lt_ [true, true, true] [] [true, true, true] [0, 1, 2, 3]
   exact ⟨i, (Option.some.inj hR1).symm, hf, H⟩
 rintro a w ⟨out', rfl, hf, H⟩
 refine then_n (sq (drawn [16] (bs := [false, false, false, false, false, false, false, false, false, false, false, false, false, false, false, false, false]) (fuel := 17) (Checked.mixed Tryz.checked) rfl rfl fun w hb => ?_))
 have H := H.keep hb
 refine zp 1 hf trivial fun a hf => ?_
 refine strT (H.let [true, false, false] [] [false, false, false] [] rfl rfl rfl rfl) (fun w H => trivial) fun hS => ?_
 refine tS 2 [2, 4, 5, 7, 8, 9, 14, 15, 16] rfl rfl rfl rfl hf (by kernel_rfl) (by kernel_rfl) hS (fun w H => rq_loadB hf H TF.ls43 0 rfl rfl rfl) fun a hf => ?_
 refine zp 3 hf hS fun a hf => ?_
 obtain ⟨l, hl, hF⟩ := bind_some hF
 obtain ⟨A9, c10, hx2, H⟩ := pre_slice H Tryz.underlying43 TF.sz52 0 (lov := none) (hiv := some (.int .i64 out')) (.inl ⟨rfl, rfl⟩) (.inr rfl) rfl hl
 refine tP 4 rfl rfl rfl rfl hf (by kernel_rfl) (fun _ => hS) (fun w => rq_sliceE hf rfl rfl rfl hx2 w) fun a hf => ?_
 refine strT (H.let [true, false, true] [] [false, false, false] [] rfl rfl rfl rfl) (fun w H => H.let [true, false] [] [] [] rfl rfl rfl rfl) fun hS => ?_
 refine tS 6 [6, 7, 8, 9, 14, 15, 16] rfl rfl rfl rfl hf (by kernel_rfl) (by kernel_rfl) hS (fun w H => rq_loadBN hf H TF.la52 1 rfl rfl rfl rfl) fun a hf => ?_
 refine zp 10 hf hS fun a hf => ?_
 refine tS 11 [11, 13, 14, 15, 16] rfl rfl rfl rfl hf (by kernel_rfl) (by kernel_rfl) hS (fun w H => rq_loadB hf H TF.ls43 0 rfl rfl rfl) fun a hf => ?_
 refine zp 12 hf hS fun a hf => ?_
 obtain ⟨l2, hl2, hF⟩ := bind_some hF
 obtain ⟨A10, c11, hx3, H⟩ := pre_slice H Tryz.underlying43 TF.sz52 1 (lov := some (.int .i64 out')) (hiv := none) (.inr rfl) (.inl ⟨rfl, rfl⟩) rfl hl2
 refine tP 13 rfl rfl rfl rfl hf (by kernel_rfl) (fun _ => hS) (fun w => rq_sliceE hf rfl rfl rfl hx3 w) fun a hf => ?_
 refine n1 0 (by kernel_rfl) rfl rfl (op_bslice hf H (.sh true) rfl 52 ([] : List Light) [] rfl (fun w => by kernel_rfl) rfl (by decide) rfl trivial el0 (by decide) fun A11 a w hf H => ?_)
 have hS := H.lt_ [true, false, true] [false] [false, false, false] []
 refine ⟨fun _ => hS, ?_⟩
 obtain ⟨l3, hl3, hF⟩ := bind_some hF
 refine n1 5 (by kernel_rfl) rfl rfl (op_appI hf H Tryz.underlying43 TF.ai52 rfl (by decide) 0 1 rfl rfl rfl rfl (.inr rfl) hl3 (by decide) fun E A12 c12 a w hf H => ?_)
 have hS := H.lt_ [true, false, true] [false] [false, false, false] []
 refine ⟨fun _ => hS, ?_⟩
 obtain ⟨y2, hy2, hF⟩ := bind_some hF
 refine n1 7 (by kernel_rfl) rfl rfl (op_call hf TF.cl140 rfl (by decide) (spec_l9Copy_ok (S := TT) (Light_mkv (x := x1) (H.rt 5 rfl)) hy2) fun v2 w a hp3 hf => ?_)
 obtain ⟨hb2, F5, hp4, hN2⟩ := hp3
 obtain ⟨A13, c13, F6, rfl, rfl, hl9⟩ := Light_vo hp4
 have H := H.addOwn hb2 (X := [(⟨F6, MP.own F6 [(.slice A13 y2.Route.Fibers.length c13)] (y2.Route.Fibers : List Int)⟩ : DI)]) (by simpa using hN2.1) (ps1 hl9 ps0) (by simpa using hN2.2)
 have H := H.lend 0 rfl
 have hS := H.lt_ [true, false, true] [false] [false, false, false, false] []
 refine ⟨fun _ => hS, ?_⟩
 refine n1 8 (by kernel_rfl) rfl rfl (op_bslice hf H (.sh true) rfl 52 ([y2] : List Light) [(.int .i64 y2.Id), (.int .i64 y2.Route.Start), (.slice A13 y2.Route.Fibers.length c13), (.int .i64 y2.Block.First), (.int .i64 y2.Block.Count)] rfl (fun w => by kernel_rfl) rfl (by decide) rfl trivial (el1 (y := y2) ((Light_mk (x := y2) (H.get 0 rfl)))) (by decide) fun A14 a w hf H => ?_)
 have hS := H.lt_ [true, false, true] [false, false] [false, false, false, false] []
 refine ⟨fun _ => hS, ?_⟩
 obtain ⟨l4, hl4, hF⟩ := bind_some hF
 refine n1 9 (by kernel_rfl) rfl rfl (op_appR hf H Tryz.underlying43 TF.ai52 rfl (by decide) 1 0 rfl rfl rfl rfl (.inr rfl) hl4 (by decide) fun E2 A15 c14 a w hf H => ?_)
 have hS := H.lt_ [true, false, true] [false, false] [false, false, false, false] []
 refine ⟨fun _ => hS, ?_⟩
 obtain ⟨l5, hl5, hF⟩ := bind_some hF
 refine n1 14 (by kernel_rfl) rfl rfl (op_appI hf H Tryz.underlying43 TF.ai52 rfl (by decide) 1 1 rfl rfl rfl rfl (.inr rfl) hl5 (by decide) fun E3 A16 c15 a w hf H => ?_)
 have hS := H.lt_ [true, false, true] [false, false] [false, false, false, false] []
 refine ⟨fun _ => hS, ?_⟩
 refine zp 15 hf hS fun a hf => ?_
 refine n1 16 (by kernel_rfl) rfl rfl (op_storeB hf H 0 TF.sz43 rfl rfl rfl rfl rfl rfl (nle rfl) fun w H => ?_)
 refine ⟨fun h => absurd h (by decide), ?_⟩
 refine dn (by kernel_rfl) ?_
 have hf := hf.pn [4, 5]
 refine then_n (sq (reg (oq hf (rq_loadBN hf H TF.la45 0 rfl rfl rfl rfl) fun a hf => ?_)))
 refine wl0 rfl (op_storeB hf H 1 TF.sz45 rfl rfl rfl rfl rfl rfl (nle rfl) fun w H => ?_)
 refine wl_end (then_n (wp_ret (?_)))
 have H := H.freeze 1 rfl
 obtain rfl := Option.some.inj hF
 refine ret_1 (fn := Tryz.f109) (r := .cell 4 45) hf rfl (rv_cellN hf H 1 TF.la45 rfl rfl rfl) ?_
 exact ⟨_, rfl, H.bel, (Plan_mkv (x := ({ Network := y.Network, Lights := l5 } : Plan)) (rep_end (α := List ByteArray) (H.get 6 rfl)) (rep_end (α := List Fiber) (H.get 5 rfl)) (rep_end (α := List Light) (H.get 0 rfl)))⟩

theorem spec_AddLight_ok {S : Nat → Prop} {v0_ : Value} {v1_ : Value} {p : Plan} {x1 : Light} {r : Plan × Bool} (h0 : VR w0 S v0_ p) (h1 : VR w0 S v1_ x1) (hF : spec_AddLight fu p x1 = some r) :
    Calls Tryz.prog 53 [v0_, v1_].toArray w0 fun e w' => ∃ v, e = .returned v ∧ (Below w0.heap.size w0 w' ∧ ∃ u0 u1, v = .tuple #[u0, u1] ∧ VR w' (St ⟨w0, []⟩ S [] [] [] true) u0 r.1 ∧ VR w' (St ⟨w0, []⟩ S [] [] [] true) u1 r.2) := by
 obtain ⟨A, c, A2, c2, A3, c3, rfl, hl, hl2, hl3⟩ := Plan_open h0
 obtain ⟨A4, c4, rfl, hl4⟩ := Light_open h1
 have H := Mem.start ⟨w0, []⟩ S
 have H := H.pushArg (MP.val [(.slice A p.Network.Nodes.length c)] p.Network.Nodes) hl
 have H := H.pushArg (MP.val [(.slice A2 p.Network.Fibers.length c2)] p.Network.Fibers) hl2
 have H := H.pushArg (MP.val [(.slice A3 p.Lights.length c3)] p.Lights) hl3
 have H := H.pushArg (MP.val [(.slice A4 x1.Route.Fibers.length c4)] x1.Route.Fibers) hl4
 refine en Tryz.func53 fun a hf => ?_
 rw [spec_AddLight] at hF
 refine sq (reg (wl0 rfl (op_box hf H rfl rfl (by decide) fun b' a w hf H => ?_)))
 refine wl0 rfl (op_box hf H rfl rfl (by decide) fun b2 a w hf H => ?_)
 refine wl0 rfl (op_alloc hf H TF.zv45 rfl (by decide) fun b3 a w hf H => ?_)
 refine pz 1 hf fun a hf => ?_
 refine wl_end (then_n (sq (sq (reg (oq hf (rq_loadBN hf H TF.la45 2 rfl rfl rfl rfl) fun a hf => ?_)))))
 obtain ⟨y, hy, hF⟩ := bind_some hF
 refine oc hf TF.cl61 (spec_l9Good_ok (S := TT) (Plan_mkv (x := p) (H.rt 3 rfl) (H.rt 2 rfl) (H.rt 1 rfl)) hy) fun v w a hp hf => ?_
 obtain ⟨hb, hp⟩ := hp
 obtain rfl := VR_bool hp
 have H := H.keep hb
 refine pz 1 hf fun a hf => ?_
 refine wl_end (then_n (ib hF hf (fun hc hF => ?_) fun hc hF => ?_))
 ·refine sq (reg (oq hf (rq_build hf (cs := [(.slice none 0 0), (.slice none 0 0), (.slice none 0 0)]) rfl (fun w => by kernel_rfl)) fun a hf => ?_))
  refine wl0 rfl (op_storeB hf H 0 TF.sz45 rfl rfl rfl rfl rfl rfl (nle rfl) fun w H => ?_)
  refine pz 1 hf fun a hf => ?_
  refine wl_end (then_n (wp_ret (then_r (?_))))
  have H := H.pushNil (ByteArray) true
  have H := H.pushNil (Fiber) true
  have H := H.pushNil (Light) true
  obtain rfl := Option.some.inj hF
  refine ret_2 (fn := Tryz.f53) (r := .cell 4 45) (s := .tmp 5) hf rfl (rv_cellN hf H 0 TF.la45 rfl rfl rfl) (rv_tmp hf rfl) ?_
  exact ⟨_, rfl, H.bel, _, _, rfl, (Plan_mkv (x := ({ Network := ({ Nodes := [], Fibers := [] } : Network), Lights := [] } : Plan)) (rep_end (α := List ByteArray) (H.get 2 rfl)) (rep_end (α := List Fiber) (H.get 1 rfl)) (rep_end (α := List Light) (H.get 0 rfl))), mk_bool⟩
 ·refine wp_skip (then_n (sq (reg (oq hf (rq_loadBN hf H TF.la45 2 rfl rfl rfl rfl) fun a hf => ?_))))
  refine oq hf (rq_loadBN hf H TF.la52 1 rfl rfl rfl rfl) fun a hf => ?_
  obtain ⟨y2, hy2, hF⟩ := bind_some hF
  refine oc hf TF.cl109 (spec_l9Put_ok (S := TT) (Plan_mkv (x := p) (H.rt 3 rfl) (H.rt 2 rfl) (H.rt 1 rfl)) (Light_mkv (x := x1) (H.rt 0 rfl)) hy2) fun v2 w a hp2 hf => ?_
  obtain ⟨hb2, hp2⟩ := hp2
  obtain ⟨A5, c5, A6, c6, A7, c7, rfl, hl5, hl6, hl7⟩ := Plan_open hp2
  replace hl5 := H.resF (f := MP.val [(.slice A5 y2.Network.Nodes.length c5)] y2.Network.Nodes) hl5
  replace hl6 := H.resF (f := MP.val [(.slice A6 y2.Network.Fibers.length c6)] y2.Network.Fibers) hl6
  replace hl7 := H.resF (f := MP.val [(.slice A7 y2.Lights.length c7)] y2.Lights) hl7
  have H := H.keep hb2
  have H := H.push (true, MP.val [(.slice A5 y2.Network.Nodes.length c5)] y2.Network.Nodes) hl5
  have H := H.push (true, MP.val [(.slice A6 y2.Network.Fibers.length c6)] y2.Network.Fibers) hl6
  have H := H.push (true, MP.val [(.slice A7 y2.Lights.length c7)] y2.Lights) hl7
  refine wl0 rfl (op_alloc hf H TF.zv45 rfl (by decide) fun b4 a w hf H => ?_)
  refine wl0 rfl (op_storeB hf H 0 TF.sz45 rfl rfl rfl rfl rfl rfl (nle rfl) fun w H => ?_)
  refine wl_end (then_n (sq (sq (reg (oq hf (rq_loadBN hf H TF.la45 0 rfl rfl rfl rfl) fun a hf => ?_)))))
  obtain ⟨y3, hy3, hF⟩ := bind_some hF
  refine oc hf TF.cl61 (spec_l9Good_ok (S := TT) (Plan_mkv (x := y2) (H.rt 2 rfl) (H.rt 1 rfl) (H.rt 0 rfl)) hy3) fun v3 w a hp3 hf => ?_
  obtain ⟨hb3, hp3⟩ := hp3
  obtain rfl := VR_bool hp3
  have H := H.keep hb3
  refine pz 1 hf fun a hf => ?_
  have hf := hf.pn [4, 6, 16]
  refine wl_end (then_n (ib hF hf (fun hc2 hF => ?_) fun hc2 hF => ?_))
  ·refine sq (reg (oq hf (rq_build hf (cs := [(.slice none 0 0), (.slice none 0 0), (.slice none 0 0)]) rfl (fun w => by kernel_rfl)) fun a hf => ?_))
   refine wl0 rfl (op_storeB hf H 1 TF.sz45 rfl rfl rfl rfl rfl rfl (nle rfl) fun w H => ?_)
   refine pz 1 hf fun a hf => ?_
   refine wl_end (then_n (wp_ret (then_r (?_))))
   have H := H.pushNil (ByteArray) true
   have H := H.pushNil (Fiber) true
   have H := H.pushNil (Light) true
   obtain rfl := Option.some.inj hF
   refine ret_2 (fn := Tryz.f53) (r := .cell 4 45) (s := .tmp 5) hf rfl (rv_cellN hf H 1 TF.la45 rfl rfl rfl) (rv_tmp hf rfl) ?_
   exact ⟨_, rfl, H.bel, _, _, rfl, (Plan_mkv (x := ({ Network := ({ Nodes := [], Fibers := [] } : Network), Lights := [] } : Plan)) (rep_end (α := List ByteArray) (H.get 2 rfl)) (rep_end (α := List Fiber) (H.get 1 rfl)) (rep_end (α := List Light) (H.get 0 rfl))), mk_bool⟩
  ·refine wp_skip (then_n (sq (reg (oq hf (rq_loadBN hf H TF.la45 0 rfl rfl rfl rfl) fun a hf => ?_))))
   refine wl0 rfl (op_storeB hf H 1 TF.sz45 rfl rfl rfl rfl rfl rfl (nle rfl) fun w H => ?_)
   refine pz 1 hf fun a hf => ?_
   refine wl_end (then_n (wp_ret (?_)))
   obtain rfl := Option.some.inj hF
   refine ret_2 (fn := Tryz.f53) (r := .cell 4 45) (s := .tmp 5) hf rfl (rv_cellN hf H 1 TF.la45 rfl rfl rfl) (rv_tmp hf rfl) ?_
   exact ⟨_, rfl, H.bel, _, _, rfl, (Plan_mkv (x := y2) (rep_end (α := List ByteArray) (H.get 2 rfl)) (rep_end (α := List Fiber) (H.get 1 rfl)) (rep_end (α := List Light) (H.get 0 rfl))), mk_bool⟩

theorem spec_l1Same_ok {S : Nat → Prop} {v0_ : Value} {v1_ : Value} {a' : List Int} {b' : List Int} {r : Bool} (h0 : VR w0 S v0_ a') (h1 : VR w0 S v1_ b') (hF : spec_l1Same fu a' b' = some r) :
    Calls Tryz.prog 199 [v0_, v1_].toArray w0 fun e w' => ∃ v, e = .returned v ∧ (Below w0.heap.size w0 w' ∧ VR w' (St ⟨w0, []⟩ S [] [] [] true) v r) := by
 obtain ⟨A, c, rfl, hl⟩ := VR_list h0
 obtain ⟨A2, c2, rfl, hl2⟩ := VR_list h1
 have H := Mem.start ⟨w0, []⟩ S
 have H := H.pushArg (MP.val [(.slice A a'.length c)] a') hl
 have H := H.pushArg (MP.val [(.slice A2 b'.length c2)] b') hl2
 refine en Tryz.func199 fun a hf => ?_
 rw [spec_l1Same] at hF
 refine sqz (pz 1 hf fun a hf => ?_)
 refine wl_end (then_n (sq (sqz (pz 5 hf fun a hf => ?_))))
 refine wl_end (then_n (ib hF hf (fun hc hF => ?_) fun hc hF => ?_))
 ·refine sqz (pz 1 hf fun a hf => ?_)
  refine wl_end (then_n (wp_ret (then_r (?_))))
  obtain rfl := Option.some.inj hF
  refine ret_1 hf rfl (rv_tmp hf rfl) ?_
  exact ⟨_, rfl, H.bel, mk_bool⟩
 ·refine wp_skip (then_n (sq (sqz (pz 1 hf fun a hf => ?_))))
  refine wl_end (then_n ?_)
  obtain ⟨out', hB1, hF⟩ := bind_some hF
  have hf := hf.pn [0, 1, 5]
  have H := H.lt_ [] [] [] [0, 1]
  refine loopC (fun (s : Int) (a : Act) (w : World) => match s with | i => Fr a 26 [(0, (.slice A a'.length c)), (1, (.slice A2 b'.length c2)), (5, (.int .i64 i))] ∧ Mem ⟨w0, []⟩ S [] [] [] [(false, MP.val [(.slice A2 b'.length c2)] (b' : List Int)), (false, MP.val [(.slice A a'.length c)] (a' : List Int))] w) (fun k (s : Int) => spec_l1Same_L1 fu a' b' k s = some out') (fun s => out' = Out.next s) 0 fu hB1 ⟨hf, H⟩ (fun s h => by cases h) ?_ ?_
  ·rintro fk i a w hR1 hI
   replace hR1 : spec_l1Same_L1 fu a' b' (fk + 1) i = some out' := hR1
   rw [spec_l1Same_L1] at hR1
   obtain ⟨hf, H⟩ := hI
   refine sq (sqz (pz 4 hf fun a hf => ?_))
   refine wl_end (then_n (ib hR1 hf (fun hc2 hR1 => ?_) fun hc2 hR1 => ?_))
   ·refine wp_skip (then_n (sq (wp_block (sq (drawn [] (bs := [false, false, false, false, false, false, false, false, false]) (fuel := 9) (Checked.mixed Tryz.checked) rfl rfl fun w hb => ?_)))))
    have H := H.keep hb
    refine zp 0 hf trivial fun a hf => ?_
    refine zp 1 hf trivial fun a hf => ?_
    obtain ⟨e, he, hR1⟩ := bind_some hR1
    obtain ⟨p, o, cs, hx, hr, H⟩ := pre_iaddr H Tryz.underlying29 TF.sz3 1 rfl he
    refine tP 2 rfl rfl rfl rfl hf (by kernel_rfl) (fun _ => trivial) (fun w => rq_iaddrE hf rfl rfl rfl hx w) fun a hf => ?_
    obtain rfl := hr
    refine strT (H.let [] [] [] [0] rfl rfl rfl rfl) (fun w H => trivial) fun hS => ?_
    refine tS 3 [] rfl rfl rfl rfl hf (by kernel_rfl) (by kernel_rfl) hS (fun w H => rq_loadI hf H TF.ls3 0 0 rfl rfl rfl) fun a hf => ?_
    refine zp 4 hf hS fun a hf => ?_
    refine zp 5 hf hS fun a hf => ?_
    obtain ⟨e2, he2, hR1⟩ := bind_some hR1
    obtain ⟨p2, o2, cs2, hx2, hr2, H⟩ := pre_iaddr H Tryz.underlying29 TF.sz3 1 rfl he2
    refine tP 6 rfl rfl rfl rfl hf (by kernel_rfl) (fun _ => hS) (fun w => rq_iaddrE hf rfl rfl rfl hx2 w) fun a hf => ?_
    obtain rfl := hr2
    refine strT (H.let [] [] [] [0, 1] rfl rfl rfl rfl) (fun w H => H.let [] [] [] [1] rfl rfl rfl rfl) fun hS => ?_
    refine tS 7 [] rfl rfl rfl rfl hf (by kernel_rfl) (by kernel_rfl) hS (fun w H => rq_loadI hf H TF.ls3 0 0 rfl rfl rfl) fun a hf => ?_
    refine zp 8 hf hS fun a hf => ?_
    refine dn (by kernel_rfl) ?_
    refine then_n (ib hR1 hf (fun hc3 hR1 => ?_) fun hc3 hR1 => ?_)
    ·refine sqz (pz 1 hf fun a hf => ?_)
     have hf := hf.pn [4]
     refine wl_end (then_n (wp_ret (blk_r (then_r (then_r (blk_r (then_r (then_r (?_)))))))))
     obtain rfl := Option.some.inj hR1
     replace hF := on_ret hF
     obtain rfl := Option.some.inj hF
     refine ret_1 hf rfl (rv_tmp hf rfl) ?_
     exact ⟨_, rfl, H.bel, mk_bool⟩
    ·refine wp_skip (blk_n (then_n (reg (pz 3 hf fun a hf => ?_))))
     have hf := hf.pn [0, 1, 5]
     refine wl_end ?_
     have hf := hf.pn [0, 1, 5]
     have H := H.lt_ [] [] [] [2, 3]
     exact then_n ⟨w64 (i + 1), hR1, hf, H⟩
   ·refine wp_exit (then_x (then_x (blk_e (?_))))
    have hf := hf.pn [0, 1, 5]
    have H := H.lt_ [] [] [] [0, 1]
    exact ⟨i, (Option.some.inj hR1).symm, hf, H⟩
  rintro a w ⟨i2, rfl, hf, H⟩
  replace hF := on_next hF
  refine then_n (sqz (pz 1 hf fun a hf => ?_))
  refine wl_end (then_n (wp_ret (?_)))
  obtain rfl := Option.some.inj hF
  refine ret_1 hf rfl (rv_tmp hf rfl) ?_
  exact ⟨_, rfl, H.bel, mk_bool⟩

theorem spec_l4Same_ok {S : Nat → Prop} {v0_ : Value} {v1_ : Value} {a' : Route} {b' : Route} {r : Bool} (h0 : VR w0 S v0_ a') (h1 : VR w0 S v1_ b') (hF : spec_l4Same fu a' b' = some r) :
    Calls Tryz.prog 170 [v0_, v1_].toArray w0 fun e w' => ∃ v, e = .returned v ∧ (Below w0.heap.size w0 w' ∧ VR w' (St ⟨w0, []⟩ S [] [] [] true) v r) := by
 obtain ⟨A, c, rfl, hl⟩ := Route_open h0
 obtain ⟨A2, c2, rfl, hl2⟩ := Route_open h1
 have H := Mem.start ⟨w0, []⟩ S
 have H := H.pushArg (MP.val [(.slice A a'.Fibers.length c)] a'.Fibers) hl
 have H := H.pushArg (MP.val [(.slice A2 b'.Fibers.length c2)] b'.Fibers) hl2
 refine en Tryz.func170 fun a hf => ?_
 rw [spec_l4Same] at hF
 refine sq (reg (wl0 rfl (op_box hf H rfl rfl (by decide) fun b2 a w hf H => ?_)))
 refine wl0 rfl (op_box hf H rfl rfl (by decide) fun b3 a w hf H => ?_)
 refine pz 1 hf fun a hf => ?_
 refine wl_end (then_n (sq ?_))
 obtain ⟨c3, hGc3, hF⟩ := bind_some hF
 have fh := hf.prune [] rfl
 have Hm := H.lt_ [false, false] [] [] []
 refine midF 4 (.bool c3) fh Hm ?_ fun a w hf H => ?_
 ·refine reg (pz 1 hf fun a hf => ?_)
  refine oq hf (rq_loadB hf H TF.ls3 1 rfl rfl rfl) fun a hf => ?_
  refine pz 1 hf fun a hf => ?_
  refine oq hf (rq_loadB hf H TF.ls3 0 rfl rfl rfl) fun a hf => ?_
  refine pz 2 hf fun a hf => ?_
  refine iteB hGc3 (fun hc hGc3 => ?_) fun hc hGc3 => ?_
  ·have hf := hf.lit 10 rfl hc
   refine pz 1 hf fun a hf => ?_
   refine wlg hf rfl rfl rfl (op_q hf (rq_loadB hf H TF.ls29 1 rfl rfl rfl) rfl (by decide) fun a hf => ?_)
   refine pz 1 hf fun a hf => ?_
   refine wlg hf rfl rfl rfl (op_q hf (rq_loadB hf H TF.ls29 0 rfl rfl rfl) rfl (by decide) fun a hf => ?_)
   obtain ⟨y, hy, hGc3⟩ := bind_some hGc3
   refine wlg hf rfl rfl rfl (op_call hf TF.cl199 rfl (by decide) (spec_l1Same_ok (S := TT) (mk_list (H.rt 1 rfl)) (mk_list (H.rt 0 rfl)) hy) fun v w a hp hf => ?_)
   obtain ⟨hb, hp⟩ := hp
   obtain rfl := VR_bool hp
   have H := H.keep hb
   refine pz 2 hf fun a hf => ?_
   obtain rfl := Option.some.inj hGc3
   have hf := hf.pn [4]
   have H := H.lt_ [false, false] [] [] []
   exact wl_end ⟨hf, H⟩
  ·have hf := hf.lit 10 rfl hc
   refine pz 7 hf fun a hf => ?_
   obtain rfl := Option.some.inj hGc3
   have hf := hf.pn [4]
   have H := H.lt_ [false, false] [] [] []
   exact wl_end ⟨hf, H⟩
 refine then_n (wp_ret (?_))
 obtain rfl := Option.some.inj hF
 refine ret_1 hf rfl (rv_tmp hf rfl) ?_
 exact ⟨_, rfl, H.bel, mk_bool⟩

theorem spec_l20Same_ok {S : Nat → Prop} {v0_ : Value} {v1_ : Value} {x1 : Light} {y : Light} {r : Bool} (h0 : VR w0 S v0_ x1) (h1 : VR w0 S v1_ y) (hF : spec_l20Same fu x1 y = some r) :
    Calls Tryz.prog 119 [v0_, v1_].toArray w0 fun e w' => ∃ v, e = .returned v ∧ (Below w0.heap.size w0 w' ∧ VR w' (St ⟨w0, []⟩ S [] [] [] true) v r) := by
 obtain ⟨A, c, rfl, hl⟩ := Light_open h0
 obtain ⟨A2, c2, rfl, hl2⟩ := Light_open h1
 have H := Mem.start ⟨w0, []⟩ S
 have H := H.pushArg (MP.val [(.slice A x1.Route.Fibers.length c)] x1.Route.Fibers) hl
 have H := H.pushArg (MP.val [(.slice A2 y.Route.Fibers.length c2)] y.Route.Fibers) hl2
 refine en Tryz.func119 fun a hf => ?_
 rw [spec_l20Same] at hF
 refine sq (reg (wl0 rfl (op_box hf H rfl rfl (by decide) fun b' a w hf H => ?_)))
 refine wl0 rfl (op_box hf H rfl rfl (by decide) fun b2 a w hf H => ?_)
 refine pz 1 hf fun a hf => ?_
 refine wl_end (then_n (sq ?_))
 obtain ⟨c3, hGc3, hF⟩ := bind_some hF
 have fh := hf.prune [] rfl
 have Hm := H.lt_ [false, false] [] [] []
 refine midF 4 (.bool c3) fh Hm ?_ fun a w hf H => ?_
 ·refine reg (pz 1 hf fun a hf => ?_)
  refine oq hf (rq_loadB hf H TF.ls3 1 rfl rfl rfl) fun a hf => ?_
  refine pz 1 hf fun a hf => ?_
  refine oq hf (rq_loadB hf H TF.ls3 0 rfl rfl rfl) fun a hf => ?_
  refine pz 2 hf fun a hf => ?_
  refine iteB hGc3 (fun hc hGc3 => ?_) fun hc hGc3 => ?_
  ·have hf := hf.lit 10 rfl hc
   refine pz 1 hf fun a hf => ?_
   refine wlg hf rfl rfl rfl (op_q hf (rq_loadBN hf H TF.la50 1 rfl rfl rfl rfl) rfl (by decide) fun a hf => ?_)
   refine pz 1 hf fun a hf => ?_
   refine wlg hf rfl rfl rfl (op_q hf (rq_loadBN hf H TF.la50 0 rfl rfl rfl rfl) rfl (by decide) fun a hf => ?_)
   refine wlg hf rfl rfl rfl (op_q hf (rq_eqT hf TF.qeqt50 ([x1.Block.First, x1.Block.Count] : List Int) ([y.Block.First, y.Block.Count] : List Int) rfl rfl rfl rfl rfl rfl) rfl (by decide) fun a hf => ?_)
   refine pz 2 hf fun a hf => ?_
   refine iteB hGc3 (fun hc2 hGc3 => ?_) fun hc2 hGc3 => ?_
   ·have hf := hf.lit 17 rfl hc2
    refine pz 1 hf fun a hf => ?_
    refine wlg hf rfl rfl rfl (op_q hf (rq_loadBN hf H TF.la49 1 rfl rfl rfl rfl) rfl (by decide) fun a hf => ?_)
    refine pz 1 hf fun a hf => ?_
    refine wlg hf rfl rfl rfl (op_q hf (rq_loadBN hf H TF.la49 0 rfl rfl rfl rfl) rfl (by decide) fun a hf => ?_)
    obtain ⟨y2, hy2, hGc3⟩ := bind_some hGc3
    refine wlg hf rfl rfl rfl (op_call hf TF.cl170 rfl (by decide) (spec_l4Same_ok (S := TT) (Route_mkv (x := x1.Route) (H.rt 1 rfl)) (Route_mkv (x := y.Route) (H.rt 0 rfl)) hy2) fun v w a hp hf => ?_)
    obtain ⟨hb, hp⟩ := hp
    obtain rfl := VR_bool hp
    have H := H.keep hb
    refine pz 2 hf fun a hf => ?_
    obtain rfl := Option.some.inj hGc3
    have hf := hf.pn [4]
    have H := H.lt_ [false, false] [] [] []
    exact wl_end ⟨hf, H⟩
   ·have hf := hf.lit 17 rfl hc2
    refine pz 7 hf fun a hf => ?_
    obtain rfl := Option.some.inj hGc3
    have hf := hf.pn [4]
    have H := H.lt_ [false, false] [] [] []
    exact wl_end ⟨hf, H⟩
  ·have hf := hf.lit 10 rfl hc
   refine pz 14 hf fun a hf => ?_
   obtain rfl := Option.some.inj hGc3
   have hf := hf.pn [4]
   have H := H.lt_ [false, false] [] [] []
   exact wl_end ⟨hf, H⟩
 refine then_n (wp_ret (?_))
 obtain rfl := Option.some.inj hF
 refine ret_1 hf rfl (rv_tmp hf rfl) ?_
 exact ⟨_, rfl, H.bel, mk_bool⟩

theorem spec_l9Without_ok {S : Nat → Prop} {v0_ : Value} {v1_ : Value} {p : Plan} {i : Int} {r : Plan} (h0 : VR w0 S v0_ p) (h1 : VR w0 S v1_ i) (hF : spec_l9Without fu p i = some r) :
    Calls Tryz.prog 120 [v0_, v1_].toArray w0 fun e w' => ∃ v, e = .returned v ∧ (Below w0.heap.size w0 w' ∧ VR w' (St ⟨w0, []⟩ S [] [] [] true) v r) := by
 obtain ⟨A, c, A2, c2, A3, c3, rfl, hl, hl2, hl3⟩ := Plan_open h0
 obtain rfl := VR_int h1
 have H := Mem.start ⟨w0, []⟩ S
 have H := H.pushArg (MP.val [(.slice A p.Network.Nodes.length c)] p.Network.Nodes) hl
 have H := H.pushArg (MP.val [(.slice A2 p.Network.Fibers.length c2)] p.Network.Fibers) hl2
 have H := H.pushArg (MP.val [(.slice A3 p.Lights.length c3)] p.Lights) hl3
 refine en Tryz.func120 fun a hf => ?_
 rw [spec_l9Without] at hF
 refine sq (reg (wl0 rfl (op_box hf H rfl rfl (by decide) fun b' a w hf H => ?_)))
 refine wl0 rfl (op_alloc hf H TF.zv45 rfl (by decide) fun b2 a w hf H => ?_)
 refine wr (oq hf (rq_loadBN hf H TF.la45 1 rfl rfl rfl rfl) fun a hf => ?_)
 obtain ⟨y, hy, hF⟩ := bind_some hF
 refine oc hf TF.cl81 (spec_l9Own_ok (S := TT) (Plan_mkv (x := p) (H.rt 2 rfl) (H.rt 1 rfl) (H.rt 0 rfl)) hy) fun v w a hp hf => ?_
 obtain ⟨hb, F, hp2, hN⟩ := hp
 obtain ⟨A4, c4, F2, A5, c5, F3, A6, c6, F4, rfl, rfl, hl4, hl5, hl6⟩ := Plan_vo hp2
 have H := H.addOwn hb (X := [(⟨F2, MP.own F2 [(.slice A4 y.Network.Nodes.length c4)] (y.Network.Nodes : List ByteArray)⟩ : DI), (⟨F3, MP.own F3 [(.slice A5 y.Network.Fibers.length c5)] (y.Network.Fibers : List Fiber)⟩ : DI), (⟨F4, MP.own F4 [(.slice A6 y.Lights.length c6)] (y.Lights : List Light)⟩ : DI)]) (by simpa using hN.1) (ps1 hl4 (ps1 hl5 (ps1 hl6 ps0))) (by simpa using hN.2)
 have H := H.lend 0 rfl
 have H := H.lend 1 rfl
 have H := H.lend 2 rfl
 refine wl0 rfl (op_alloc hf H TF.zv45 rfl (by decide) fun b3 a w hf H => ?_)
 refine wl0 rfl (op_storeB hf H 0 TF.sz45 rfl rfl rfl rfl rfl rfl (nle rfl) fun w H => ?_)
 refine wl_end (then_n (sq (drawn [13] (bs := [false, false, false, false, false, false, false, false, false, false, false, false, false, false]) (fuel := 14) (Checked.mixed Tryz.checked) rfl rfl fun w hb => ?_)))
 have H := H.keep hb
 refine zp 1 hf trivial fun a hf => ?_
 refine strT (H.let [true, false, false] [] [false, false, false] [] rfl rfl rfl rfl) (fun w H => trivial) fun hS => ?_
 refine tS 2 [2, 4, 5, 11, 12, 13] rfl rfl rfl rfl hf (by kernel_rfl) (by kernel_rfl) hS (fun w H => rq_loadB hf H TF.ls43 0 rfl rfl rfl) fun a hf => ?_
 refine zp 3 hf hS fun a hf => ?_
 obtain ⟨l, hl, hF⟩ := bind_some hF
 obtain ⟨A7, c7, hx, H⟩ := pre_slice H Tryz.underlying43 TF.sz52 0 (lov := none) (hiv := some (.int .i64 i)) (.inl ⟨rfl, rfl⟩) (.inr rfl) rfl hl
 refine tP 4 rfl rfl rfl rfl hf (by kernel_rfl) (fun _ => hS) (fun w => rq_sliceE hf rfl rfl rfl hx w) fun a hf => ?_
 refine zp 6 hf hS fun a hf => ?_
 refine tS 7 [7, 10, 11, 12, 13] rfl rfl rfl rfl hf (by kernel_rfl) (by kernel_rfl) hS (fun w H => rq_loadB hf H TF.ls43 0 rfl rfl rfl) fun a hf => ?_
 refine zp 8 hf hS fun a hf => ?_
 refine zp 9 hf hS fun a hf => ?_
 obtain ⟨l2, hl2, hF⟩ := bind_some hF
 obtain ⟨A8, c8, hx2, H⟩ := pre_slice H Tryz.underlying43 TF.sz52 1 (lov := some (.int .i64 (w64 (i + 1)))) (hiv := none) (.inr rfl) (.inl ⟨rfl, rfl⟩) rfl hl2
 refine tP 10 rfl rfl rfl rfl hf (by kernel_rfl) (fun _ => hS) (fun w => rq_sliceE hf rfl rfl rfl hx2 w) fun a hf => ?_
 refine n1 0 (by kernel_rfl) rfl rfl (op_bslice hf H (.sh true) rfl 52 ([] : List Light) [] rfl (fun w => by kernel_rfl) rfl (by decide) rfl trivial el0 (by decide) fun A9 a w hf H => ?_)
 have hS := H.lt_ [true, false, false] [false] [false, false, false] []
 refine ⟨fun _ => hS, ?_⟩
 obtain ⟨l3, hl3, hF⟩ := bind_some hF
 refine n1 5 (by kernel_rfl) rfl rfl (op_appI hf H Tryz.underlying43 TF.ai52 rfl (by decide) 0 1 rfl rfl rfl rfl (.inr rfl) hl3 (by decide) fun E A10 c9 a w hf H => ?_)
 have hS := H.lt_ [true, false, false] [false] [false, false, false] []
 refine ⟨fun _ => hS, ?_⟩
 obtain ⟨l4, hl4, hF⟩ := bind_some hF
 refine n1 11 (by kernel_rfl) rfl rfl (op_appI hf H Tryz.underlying43 TF.ai52 rfl (by decide) 0 0 rfl rfl rfl rfl (.inr rfl) hl4 (by decide) fun E2 A11 c10 a w hf H => ?_)
 have hS := H.lt_ [true, false, false] [false] [false, false, false] []
 refine ⟨fun _ => hS, ?_⟩
 refine zp 12 hf hS fun a hf => ?_
 refine n1 13 (by kernel_rfl) rfl rfl (op_storeB hf H 0 TF.sz43 rfl rfl rfl rfl rfl rfl (nle rfl) fun w H => ?_)
 refine ⟨fun h => absurd h (by decide), ?_⟩
 refine dn (by kernel_rfl) ?_
 have hf := hf.pn [4, 5]
 refine then_n (sq (reg (oq hf (rq_loadBN hf H TF.la45 0 rfl rfl rfl rfl) fun a hf => ?_)))
 refine wl0 rfl (op_storeB hf H 1 TF.sz45 rfl rfl rfl rfl rfl rfl (nle rfl) fun w H => ?_)
 refine wl_end (then_n (wp_ret (?_)))
 have H := H.freeze 0 rfl
 obtain rfl := Option.some.inj hF
 refine ret_1 (fn := Tryz.f120) (r := .cell 4 45) hf rfl (rv_cellN hf H 1 TF.la45 rfl rfl rfl) ?_
 exact ⟨_, rfl, H.bel, (Plan_mkv (x := ({ Network := y.Network, Lights := l4 } : Plan)) (rep_end (α := List ByteArray) (H.get 5 rfl)) (rep_end (α := List Fiber) (H.get 4 rfl)) (rep_end (α := List Light) (H.get 0 rfl)))⟩

theorem spec_MoveLight_ok {S : Nat → Prop} {v0_ : Value} {v1_ : Value} {v2_ : Value} {v3_ : Value} {p : Plan} {id : Int} {r' : Route} {b' : Block} {r : Plan × Bool} (h0 : VR w0 S v0_ p) (h1 : VR w0 S v1_ id) (h2 : VR w0 S v2_ r') (h3 : VR w0 S v3_ b') (hF : spec_MoveLight fu p id r' b' = some r) :
    Calls Tryz.prog 121 [v0_, v1_, v2_, v3_].toArray w0 fun e w' => ∃ v, e = .returned v ∧ (Below w0.heap.size w0 w' ∧ ∃ u0 u1, v = .tuple #[u0, u1] ∧ VR w' (St ⟨w0, []⟩ S [] [] [] true) u0 r.1 ∧ VR w' (St ⟨w0, []⟩ S [] [] [] true) u1 r.2) := by
 obtain ⟨A, c, A2, c2, A3, c3, rfl, hl, hl2, hl3⟩ := Plan_open h0
 obtain rfl := VR_int h1
 obtain ⟨A4, c4, rfl, hl4⟩ := Route_open h2
 obtain rfl := Block_open h3
 have H := Mem.start ⟨w0, []⟩ S
 have H := H.pushArg (MP.val [(.slice A p.Network.Nodes.length c)] p.Network.Nodes) hl
 have H := H.pushArg (MP.val [(.slice A2 p.Network.Fibers.length c2)] p.Network.Fibers) hl2
 have H := H.pushArg (MP.val [(.slice A3 p.Lights.length c3)] p.Lights) hl3
 have H := H.pushArg (MP.val [(.slice A4 r'.Fibers.length c4)] r'.Fibers) hl4
 refine en Tryz.func121 fun a hf => ?_
 rw [spec_MoveLight] at hF
 refine sq (reg (wl0 rfl (op_box hf H rfl rfl (by decide) fun b2 a w hf H => ?_)))
 refine wl0 rfl (op_box hf H rfl rfl (by decide) fun b3 a w hf H => ?_)
 refine wl0 rfl (op_box hf H rfl rfl (by decide) fun b4 a w hf H => ?_)
 refine wl0 rfl (op_alloc hf H TF.zv45 rfl (by decide) fun b5 a w hf H => ?_)
 refine pz 1 hf fun a hf => ?_
 refine wl_end (then_n (sq (sq ?_)))
 obtain ⟨c5, hGc5, hF⟩ := bind_some hF
 have fh := hf.prune [1, 4, 6, 7, 8] rfl
 have Hm := H.lt_ [true, true, true, true] [] [] [0, 1, 2, 3]
 refine midF 19 (.bool c5) fh Hm ?_ fun a w hf H => ?_
 ·refine reg (oq hf (rq_loadBN hf H TF.la45 3 rfl rfl rfl rfl) fun a hf => ?_)
  obtain ⟨y, hy, hGc5⟩ := bind_some hGc5
  refine oc hf TF.cl61 (spec_l9Good_ok (S := TT) (Plan_mkv (x := p) (H.rt 3 rfl) (H.rt 2 rfl) (H.rt 1 rfl)) hy) fun v w a hp hf => ?_
  obtain ⟨hb, hp⟩ := hp
  obtain rfl := VR_bool hp
  have H := H.keep hb
  refine pz 2 hf fun a hf => ?_
  refine iteB hGc5 (fun hc hGc5 => ?_) fun hc hGc5 => ?_
  ·have hf := hf.lit 14 rfl hc
   refine pz 5 hf fun a hf => ?_
   obtain rfl := Option.some.inj hGc5
   have hf := hf.pn [19, 1, 4, 6, 7, 8]
   have H := H.lt_ [true, true, true, true] [] [] [0, 1, 2, 3]
   exact wl_end ⟨hf, H⟩
  ·have hf := hf.lit 14 rfl hc
   refine wlg hf rfl rfl rfl (op_q hf (rq_loadBN hf H TF.la45 3 rfl rfl rfl rfl) rfl (by decide) fun a hf => ?_)
   refine pz 1 hf fun a hf => ?_
   obtain ⟨y2, hy2, hGc5⟩ := bind_some hGc5
   refine wlg hf rfl rfl rfl (op_call hf TF.cl101 rfl (by decide) (spec_l9Find_ok (S := TT) (Plan_mkv (x := p) (H.rt 3 rfl) (H.rt 2 rfl) (H.rt 1 rfl)) mk_int hy2) fun v2 w a hp2 hf => ?_)
   obtain ⟨hb2, hp2⟩ := hp2
   obtain rfl := VR_int hp2
   have H := H.keep hb2
   refine pz 2 hf fun a hf => ?_
   obtain rfl := Option.some.inj hGc5
   have hf := hf.pn [19, 1, 4, 6, 7, 8]
   have H := H.lt_ [true, true, true, true] [] [] [0, 1, 2, 3]
   exact wl_end ⟨hf, H⟩
 refine then_n (ib hF hf (fun hc2 hF => ?_) fun hc2 hF => ?_)
 ·refine sq (reg (oq hf (rq_build hf (cs := [(.slice none 0 0), (.slice none 0 0), (.slice none 0 0)]) rfl (fun w => by kernel_rfl)) fun a hf => ?_))
  refine wl0 rfl (op_storeB hf H 0 TF.sz45 rfl rfl rfl rfl rfl rfl (nle rfl) fun w H => ?_)
  refine pz 1 hf fun a hf => ?_
  refine wl_end (then_n (wp_ret (then_r (?_))))
  have H := H.pushNil (ByteArray) true
  have H := H.pushNil (Fiber) true
  have H := H.pushNil (Light) true
  obtain rfl := Option.some.inj hF
  refine ret_2 (fn := Tryz.f121) (r := .cell 8 45) (s := .tmp 9) hf rfl (rv_cellN hf H 0 TF.la45 rfl rfl rfl) (rv_tmp hf rfl) ?_
  exact ⟨_, rfl, H.bel, _, _, rfl, (Plan_mkv (x := ({ Network := ({ Nodes := [], Fibers := [] } : Network), Lights := [] } : Plan)) (rep_end (α := List ByteArray) (H.get 2 rfl)) (rep_end (α := List Fiber) (H.get 1 rfl)) (rep_end (α := List Light) (H.get 0 rfl))), mk_bool⟩
 ·refine wp_skip (then_n (sq (drawn [11] (bs := [false, false, false, false, false, false, false, false, false, false, false, false]) (fuel := 12) (Checked.mixed Tryz.checked) rfl rfl fun w hb => ?_)))
  have H := H.keep hb
  refine strT (H.let [false, false, false, true] [] [] [] rfl rfl rfl rfl) (fun w H => trivial) fun hS => ?_
  refine tS 0 [0, 4, 9, 11] rfl rfl rfl rfl hf (by kernel_rfl) (by kernel_rfl) hS (fun w H => rq_loadBN hf H TF.la45 0 rfl rfl rfl rfl) fun a hf => ?_
  refine tS 1 [1, 3, 4, 9, 11] rfl rfl rfl rfl hf (by kernel_rfl) (by kernel_rfl) hS (fun w H => rq_loadBN hf H TF.la45 0 rfl rfl rfl rfl) fun a hf => ?_
  refine zp 2 hf hS fun a hf => ?_
  refine zp 5 hf hS fun a hf => ?_
  refine strT (H.let [false, false, true, true] [] [] [] rfl rfl rfl rfl) (fun w H => H.let [false, true] [] [] [] rfl rfl rfl rfl) fun hS => ?_
  refine tS 6 [6, 8, 9, 11] rfl rfl rfl rfl hf (by kernel_rfl) (by kernel_rfl) hS (fun w H => rq_loadBN hf H TF.la49 0 rfl rfl rfl rfl) fun a hf => ?_
  refine strT (H.let [false, true, true, true] [] [] [] rfl rfl rfl rfl) (fun w H => H.let [false, true, true] [] [] [] rfl rfl rfl rfl) fun hS => ?_
  refine tS 7 [7, 8, 9, 11] rfl rfl rfl rfl hf (by kernel_rfl) (by kernel_rfl) hS (fun w H => rq_loadBN hf H TF.la50 0 rfl rfl rfl rfl) fun a hf => ?_
  refine tP 8 rfl rfl rfl rfl hf (by kernel_rfl) (fun _ => hS) (fun w => rq_build hf (cs := [(.int .i64 id), (.int .i64 r'.Start), (.slice A4 r'.Fibers.length c4), (.int .i64 b'.First), (.int .i64 b'.Count)]) rfl (fun w => by kernel_rfl)) fun a hf => ?_
  refine on2 (i := 3) (j := 10) (bi := [true, true, true, true, false, true, true, true, true, false, false, false]) (bj := [true, true, true, false, false, true, true, true, true, false, true, false]) (by kernel_rfl) rfl rfl rfl rfl rfl rfl ?_ ?_
  ·obtain ⟨y3, hy3, hF⟩ := bind_some hF
   refine (op_call hf TF.cl101 rfl (by decide) (spec_l9Find_ok (S := TT) (Plan_mkv (x := p) (H.rt 3 rfl) (H.rt 2 rfl) (H.rt 1 rfl)) mk_int hy3) fun v3 w a hp3 hf => ?_)
   obtain ⟨hb3, hp3⟩ := hp3
   obtain rfl := VR_int hp3
   have H := H.keep hb3
   have hS := H.lt_ [false, true, true, true] [] [] []
   refine ⟨fun _ => hS, ?_⟩
   refine on2 (i := 4) (j := 10) (bi := [true, true, true, true, true, true, true, true, true, false, false, false]) (bj := [true, true, true, true, false, true, true, true, true, false, true, false]) (by kernel_rfl) rfl rfl rfl rfl rfl rfl ?_ ?_
   ·obtain ⟨y4, hy4, hF⟩ := bind_some hF
    refine (op_call hf TF.cl120 rfl (by decide) (spec_l9Without_ok (S := TT) (Plan_mkv (x := p) (H.rt 3 rfl) (H.rt 2 rfl) (H.rt 1 rfl)) mk_int hy4) fun v4 w a hp4 hf => ?_)
    obtain ⟨hb4, hp4⟩ := hp4
    obtain ⟨A5, c6, A6, c7, A7, c8, rfl, hl5, hl6, hl7⟩ := Plan_open hp4
    replace hl5 := H.resF (f := MP.val [(.slice A5 y4.Network.Nodes.length c6)] y4.Network.Nodes) hl5
    replace hl6 := H.resF (f := MP.val [(.slice A6 y4.Network.Fibers.length c7)] y4.Network.Fibers) hl6
    replace hl7 := H.resF (f := MP.val [(.slice A7 y4.Lights.length c8)] y4.Lights) hl7
    have H := H.keep hb4
    have H := H.push (true, MP.val [(.slice A5 y4.Network.Nodes.length c6)] y4.Network.Nodes) hl5
    have H := H.push (true, MP.val [(.slice A6 y4.Network.Fibers.length c7)] y4.Network.Fibers) hl6
    have H := H.push (true, MP.val [(.slice A7 y4.Lights.length c8)] y4.Lights) hl7
    have hS := H.lt_ [false, true, true, true] [] [] []
    refine ⟨fun _ => hS, ?_⟩
    refine on2 (i := 9) (j := 10) (bi := [true, true, true, true, true, true, true, true, true, true, false, false]) (bj := [true, true, true, true, true, true, true, true, true, false, true, false]) (by kernel_rfl) rfl rfl rfl rfl rfl rfl ?_ ?_
    ·obtain ⟨y5, hy5, hF⟩ := bind_some hF
     refine (op_call hf TF.cl109 rfl (by decide) (spec_l9Put_ok (S := TT) (Plan_mkv (x := y4) (H.rt 2 rfl) (H.rt 1 rfl) (H.rt 0 rfl)) (Light_mkv (x := ({ Id := id, Route := r', Block := b' } : Light)) (H.rt 3 rfl)) hy5) fun v5 w a hp5 hf => ?_)
     obtain ⟨hb5, hp5⟩ := hp5
     obtain ⟨A8, c9, A9, c10, A10, c11, rfl, hl8, hl9, hl10⟩ := Plan_open hp5
     replace hl8 := H.resF (f := MP.val [(.slice A8 y5.Network.Nodes.length c9)] y5.Network.Nodes) hl8
     replace hl9 := H.resF (f := MP.val [(.slice A9 y5.Network.Fibers.length c10)] y5.Network.Fibers) hl9
     replace hl10 := H.resF (f := MP.val [(.slice A10 y5.Lights.length c11)] y5.Lights) hl10
     have H := H.keep hb5
     have H := H.push (true, MP.val [(.slice A8 y5.Network.Nodes.length c9)] y5.Network.Nodes) hl8
     have H := H.push (true, MP.val [(.slice A9 y5.Network.Fibers.length c10)] y5.Network.Fibers) hl9
     have H := H.push (true, MP.val [(.slice A10 y5.Lights.length c11)] y5.Lights) hl10
     have hS := H.lt_ [false, true, true, true] [] [] []
     refine ⟨fun _ => hS, ?_⟩
     refine n1 10 (by kernel_rfl) rfl rfl (op_alloc hf H TF.zv45 rfl (by decide) fun b6 a w hf H => ?_)
     have hS := H.lt_ [false, false, true, true, true] [] [] []
     refine ⟨fun _ => hS, ?_⟩
     refine n1 11 (by kernel_rfl) rfl rfl (op_storeB hf H 0 TF.sz45 rfl rfl rfl rfl rfl rfl (nle rfl) fun w H => ?_)
     refine ⟨fun h => absurd h (by decide), ?_⟩
     refine dn (by kernel_rfl) ?_
     have hf := hf.pn [8, 10]
     refine then_n (sq (sq (reg (oq hf (rq_loadBN hf H TF.la45 0 rfl rfl rfl rfl) fun a hf => ?_))))
     obtain ⟨y6, hy6, hF⟩ := bind_some hF
     refine oc hf TF.cl61 (spec_l9Good_ok (S := TT) (Plan_mkv (x := y5) (H.rt 2 rfl) (H.rt 1 rfl) (H.rt 0 rfl)) hy6) fun v6 w a hp6 hf => ?_
     obtain ⟨hb6, hp6⟩ := hp6
     obtain rfl := VR_bool hp6
     have H := H.keep hb6
     refine pz 1 hf fun a hf => ?_
     refine wl_end (then_n (ib hF hf (fun hc3 hF => ?_) fun hc3 hF => ?_))
     ·refine sq (reg (oq hf (rq_build hf (cs := [(.slice none 0 0), (.slice none 0 0), (.slice none 0 0)]) rfl (fun w => by kernel_rfl)) fun a hf => ?_))
      refine wl0 rfl (op_storeB hf H 1 TF.sz45 rfl rfl rfl rfl rfl rfl (nle rfl) fun w H => ?_)
      refine pz 1 hf fun a hf => ?_
      refine wl_end (then_n (wp_ret (then_r (?_))))
      have H := H.pushNil (ByteArray) true
      have H := H.pushNil (Fiber) true
      have H := H.pushNil (Light) true
      obtain rfl := Option.some.inj hF
      refine ret_2 (fn := Tryz.f121) (r := .cell 8 45) (s := .tmp 9) hf rfl (rv_cellN hf H 1 TF.la45 rfl rfl rfl) (rv_tmp hf rfl) ?_
      exact ⟨_, rfl, H.bel, _, _, rfl, (Plan_mkv (x := ({ Network := ({ Nodes := [], Fibers := [] } : Network), Lights := [] } : Plan)) (rep_end (α := List ByteArray) (H.get 2 rfl)) (rep_end (α := List Fiber) (H.get 1 rfl)) (rep_end (α := List Light) (H.get 0 rfl))), mk_bool⟩
     ·refine wp_skip (then_n (sq (reg (oq hf (rq_loadBN hf H TF.la45 0 rfl rfl rfl rfl) fun a hf => ?_))))
      refine wl0 rfl (op_storeB hf H 1 TF.sz45 rfl rfl rfl rfl rfl rfl (nle rfl) fun w H => ?_)
      refine pz 1 hf fun a hf => ?_
      refine wl_end (then_n (wp_ret (?_)))
      obtain rfl := Option.some.inj hF
      refine ret_2 (fn := Tryz.f121) (r := .cell 8 45) (s := .tmp 9) hf rfl (rv_cellN hf H 1 TF.la45 rfl rfl rfl) (rv_tmp hf rfl) ?_
      exact ⟨_, rfl, H.bel, _, _, rfl, (Plan_mkv (x := y5) (rep_end (α := List ByteArray) (H.get 2 rfl)) (rep_end (α := List Fiber) (H.get 1 rfl)) (rep_end (α := List Light) (H.get 0 rfl))), mk_bool⟩
    ·refine (op_alloc hf H TF.zv45 rfl (by decide) fun b6 a w hf H => ?_)
     have hS := H.lt_ [false, false, true, true, true] [] [] []
     refine ⟨fun _ => hS, ?_⟩
     obtain ⟨y5, hy5, hF⟩ := bind_some hF
     refine n1 9 (by kernel_rfl) rfl rfl (op_call hf TF.cl109 rfl (by decide) (spec_l9Put_ok (S := TT) (Plan_mkv (x := y4) (H.rt 2 rfl) (H.rt 1 rfl) (H.rt 0 rfl)) (Light_mkv (x := ({ Id := id, Route := r', Block := b' } : Light)) (H.rt 3 rfl)) hy5) fun v5 w a hp5 hf => ?_)
     obtain ⟨hb5, hp5⟩ := hp5
     obtain ⟨A8, c9, A9, c10, A10, c11, rfl, hl8, hl9, hl10⟩ := Plan_open hp5
     replace hl8 := H.resF (f := MP.val [(.slice A8 y5.Network.Nodes.length c9)] y5.Network.Nodes) hl8
     replace hl9 := H.resF (f := MP.val [(.slice A9 y5.Network.Fibers.length c10)] y5.Network.Fibers) hl9
     replace hl10 := H.resF (f := MP.val [(.slice A10 y5.Lights.length c11)] y5.Lights) hl10
     have H := H.keep hb5
     have H := H.push (true, MP.val [(.slice A8 y5.Network.Nodes.length c9)] y5.Network.Nodes) hl8
     have H := H.push (true, MP.val [(.slice A9 y5.Network.Fibers.length c10)] y5.Network.Fibers) hl9
     have H := H.push (true, MP.val [(.slice A10 y5.Lights.length c11)] y5.Lights) hl10
     have hS := H.lt_ [false, false, true, true, true] [] [] []
     refine ⟨fun _ => hS, ?_⟩
     refine n1 11 (by kernel_rfl) rfl rfl (op_storeB hf H 0 TF.sz45 rfl rfl rfl rfl rfl rfl (nle rfl) fun w H => ?_)
     refine ⟨fun h => absurd h (by decide), ?_⟩
     refine dn (by kernel_rfl) ?_
     have hf := hf.pn [8, 10]
     refine then_n (sq (sq (reg (oq hf (rq_loadBN hf H TF.la45 0 rfl rfl rfl rfl) fun a hf => ?_))))
     obtain ⟨y6, hy6, hF⟩ := bind_some hF
     refine oc hf TF.cl61 (spec_l9Good_ok (S := TT) (Plan_mkv (x := y5) (H.rt 2 rfl) (H.rt 1 rfl) (H.rt 0 rfl)) hy6) fun v6 w a hp6 hf => ?_
     obtain ⟨hb6, hp6⟩ := hp6
     obtain rfl := VR_bool hp6
     have H := H.keep hb6
     refine pz 1 hf fun a hf => ?_
     refine wl_end (then_n (ib hF hf (fun hc3 hF => ?_) fun hc3 hF => ?_))
     ·refine sq (reg (oq hf (rq_build hf (cs := [(.slice none 0 0), (.slice none 0 0), (.slice none 0 0)]) rfl (fun w => by kernel_rfl)) fun a hf => ?_))
      refine wl0 rfl (op_storeB hf H 1 TF.sz45 rfl rfl rfl rfl rfl rfl (nle rfl) fun w H => ?_)
      refine pz 1 hf fun a hf => ?_
      refine wl_end (then_n (wp_ret (then_r (?_))))
      have H := H.pushNil (ByteArray) true
      have H := H.pushNil (Fiber) true
      have H := H.pushNil (Light) true
      obtain rfl := Option.some.inj hF
      refine ret_2 (fn := Tryz.f121) (r := .cell 8 45) (s := .tmp 9) hf rfl (rv_cellN hf H 1 TF.la45 rfl rfl rfl) (rv_tmp hf rfl) ?_
      exact ⟨_, rfl, H.bel, _, _, rfl, (Plan_mkv (x := ({ Network := ({ Nodes := [], Fibers := [] } : Network), Lights := [] } : Plan)) (rep_end (α := List ByteArray) (H.get 2 rfl)) (rep_end (α := List Fiber) (H.get 1 rfl)) (rep_end (α := List Light) (H.get 0 rfl))), mk_bool⟩
     ·refine wp_skip (then_n (sq (reg (oq hf (rq_loadBN hf H TF.la45 0 rfl rfl rfl rfl) fun a hf => ?_))))
      refine wl0 rfl (op_storeB hf H 1 TF.sz45 rfl rfl rfl rfl rfl rfl (nle rfl) fun w H => ?_)
      refine pz 1 hf fun a hf => ?_
      refine wl_end (then_n (wp_ret (?_)))
      obtain rfl := Option.some.inj hF
      refine ret_2 (fn := Tryz.f121) (r := .cell 8 45) (s := .tmp 9) hf rfl (rv_cellN hf H 1 TF.la45 rfl rfl rfl) (rv_tmp hf rfl) ?_
      exact ⟨_, rfl, H.bel, _, _, rfl, (Plan_mkv (x := y5) (rep_end (α := List ByteArray) (H.get 2 rfl)) (rep_end (α := List Fiber) (H.get 1 rfl)) (rep_end (α := List Light) (H.get 0 rfl))), mk_bool⟩
   ·refine (op_alloc hf H TF.zv45 rfl (by decide) fun b6 a w hf H => ?_)
    have hS := H.lt_ [false, false, true, true, true] [] [] []
    refine ⟨fun _ => hS, ?_⟩
    obtain ⟨y4, hy4, hF⟩ := bind_some hF
    refine n1 4 (by kernel_rfl) rfl rfl (op_call hf TF.cl120 rfl (by decide) (spec_l9Without_ok (S := TT) (Plan_mkv (x := p) (H.rt 3 rfl) (H.rt 2 rfl) (H.rt 1 rfl)) mk_int hy4) fun v4 w a hp4 hf => ?_)
    obtain ⟨hb4, hp4⟩ := hp4
    obtain ⟨A5, c6, A6, c7, A7, c8, rfl, hl5, hl6, hl7⟩ := Plan_open hp4
    replace hl5 := H.resF (f := MP.val [(.slice A5 y4.Network.Nodes.length c6)] y4.Network.Nodes) hl5
    replace hl6 := H.resF (f := MP.val [(.slice A6 y4.Network.Fibers.length c7)] y4.Network.Fibers) hl6
    replace hl7 := H.resF (f := MP.val [(.slice A7 y4.Lights.length c8)] y4.Lights) hl7
    have H := H.keep hb4
    have H := H.push (true, MP.val [(.slice A5 y4.Network.Nodes.length c6)] y4.Network.Nodes) hl5
    have H := H.push (true, MP.val [(.slice A6 y4.Network.Fibers.length c7)] y4.Network.Fibers) hl6
    have H := H.push (true, MP.val [(.slice A7 y4.Lights.length c8)] y4.Lights) hl7
    have hS := H.lt_ [false, false, true, true, true] [] [] []
    refine ⟨fun _ => hS, ?_⟩
    obtain ⟨y5, hy5, hF⟩ := bind_some hF
    refine n1 9 (by kernel_rfl) rfl rfl (op_call hf TF.cl109 rfl (by decide) (spec_l9Put_ok (S := TT) (Plan_mkv (x := y4) (H.rt 2 rfl) (H.rt 1 rfl) (H.rt 0 rfl)) (Light_mkv (x := ({ Id := id, Route := r', Block := b' } : Light)) (H.rt 3 rfl)) hy5) fun v5 w a hp5 hf => ?_)
    obtain ⟨hb5, hp5⟩ := hp5
    obtain ⟨A8, c9, A9, c10, A10, c11, rfl, hl8, hl9, hl10⟩ := Plan_open hp5
    replace hl8 := H.resF (f := MP.val [(.slice A8 y5.Network.Nodes.length c9)] y5.Network.Nodes) hl8
    replace hl9 := H.resF (f := MP.val [(.slice A9 y5.Network.Fibers.length c10)] y5.Network.Fibers) hl9
    replace hl10 := H.resF (f := MP.val [(.slice A10 y5.Lights.length c11)] y5.Lights) hl10
    have H := H.keep hb5
    have H := H.push (true, MP.val [(.slice A8 y5.Network.Nodes.length c9)] y5.Network.Nodes) hl8
    have H := H.push (true, MP.val [(.slice A9 y5.Network.Fibers.length c10)] y5.Network.Fibers) hl9
    have H := H.push (true, MP.val [(.slice A10 y5.Lights.length c11)] y5.Lights) hl10
    have hS := H.lt_ [false, false, true, true, true] [] [] []
    refine ⟨fun _ => hS, ?_⟩
    refine n1 11 (by kernel_rfl) rfl rfl (op_storeB hf H 0 TF.sz45 rfl rfl rfl rfl rfl rfl (nle rfl) fun w H => ?_)
    refine ⟨fun h => absurd h (by decide), ?_⟩
    refine dn (by kernel_rfl) ?_
    have hf := hf.pn [8, 10]
    refine then_n (sq (sq (reg (oq hf (rq_loadBN hf H TF.la45 0 rfl rfl rfl rfl) fun a hf => ?_))))
    obtain ⟨y6, hy6, hF⟩ := bind_some hF
    refine oc hf TF.cl61 (spec_l9Good_ok (S := TT) (Plan_mkv (x := y5) (H.rt 2 rfl) (H.rt 1 rfl) (H.rt 0 rfl)) hy6) fun v6 w a hp6 hf => ?_
    obtain ⟨hb6, hp6⟩ := hp6
    obtain rfl := VR_bool hp6
    have H := H.keep hb6
    refine pz 1 hf fun a hf => ?_
    refine wl_end (then_n (ib hF hf (fun hc3 hF => ?_) fun hc3 hF => ?_))
    ·refine sq (reg (oq hf (rq_build hf (cs := [(.slice none 0 0), (.slice none 0 0), (.slice none 0 0)]) rfl (fun w => by kernel_rfl)) fun a hf => ?_))
     refine wl0 rfl (op_storeB hf H 1 TF.sz45 rfl rfl rfl rfl rfl rfl (nle rfl) fun w H => ?_)
     refine pz 1 hf fun a hf => ?_
     refine wl_end (then_n (wp_ret (then_r (?_))))
     have H := H.pushNil (ByteArray) true
     have H := H.pushNil (Fiber) true
     have H := H.pushNil (Light) true
     obtain rfl := Option.some.inj hF
     refine ret_2 (fn := Tryz.f121) (r := .cell 8 45) (s := .tmp 9) hf rfl (rv_cellN hf H 1 TF.la45 rfl rfl rfl) (rv_tmp hf rfl) ?_
     exact ⟨_, rfl, H.bel, _, _, rfl, (Plan_mkv (x := ({ Network := ({ Nodes := [], Fibers := [] } : Network), Lights := [] } : Plan)) (rep_end (α := List ByteArray) (H.get 2 rfl)) (rep_end (α := List Fiber) (H.get 1 rfl)) (rep_end (α := List Light) (H.get 0 rfl))), mk_bool⟩
    ·refine wp_skip (then_n (sq (reg (oq hf (rq_loadBN hf H TF.la45 0 rfl rfl rfl rfl) fun a hf => ?_))))
     refine wl0 rfl (op_storeB hf H 1 TF.sz45 rfl rfl rfl rfl rfl rfl (nle rfl) fun w H => ?_)
     refine pz 1 hf fun a hf => ?_
     refine wl_end (then_n (wp_ret (?_)))
     obtain rfl := Option.some.inj hF
     refine ret_2 (fn := Tryz.f121) (r := .cell 8 45) (s := .tmp 9) hf rfl (rv_cellN hf H 1 TF.la45 rfl rfl rfl) (rv_tmp hf rfl) ?_
     exact ⟨_, rfl, H.bel, _, _, rfl, (Plan_mkv (x := y5) (rep_end (α := List ByteArray) (H.get 2 rfl)) (rep_end (α := List Fiber) (H.get 1 rfl)) (rep_end (α := List Light) (H.get 0 rfl))), mk_bool⟩
  ·refine (op_alloc hf H TF.zv45 rfl (by decide) fun b6 a w hf H => ?_)
   have hS := H.lt_ [false, false, true, true, true] [] [] []
   refine ⟨fun _ => hS, ?_⟩
   obtain ⟨y3, hy3, hF⟩ := bind_some hF
   refine n1 3 (by kernel_rfl) rfl rfl (op_call hf TF.cl101 rfl (by decide) (spec_l9Find_ok (S := TT) (Plan_mkv (x := p) (H.rt 3 rfl) (H.rt 2 rfl) (H.rt 1 rfl)) mk_int hy3) fun v3 w a hp3 hf => ?_)
   obtain ⟨hb3, hp3⟩ := hp3
   obtain rfl := VR_int hp3
   have H := H.keep hb3
   have hS := H.lt_ [false, false, true, true, true] [] [] []
   refine ⟨fun _ => hS, ?_⟩
   obtain ⟨y4, hy4, hF⟩ := bind_some hF
   refine n1 4 (by kernel_rfl) rfl rfl (op_call hf TF.cl120 rfl (by decide) (spec_l9Without_ok (S := TT) (Plan_mkv (x := p) (H.rt 3 rfl) (H.rt 2 rfl) (H.rt 1 rfl)) mk_int hy4) fun v4 w a hp4 hf => ?_)
   obtain ⟨hb4, hp4⟩ := hp4
   obtain ⟨A5, c6, A6, c7, A7, c8, rfl, hl5, hl6, hl7⟩ := Plan_open hp4
   replace hl5 := H.resF (f := MP.val [(.slice A5 y4.Network.Nodes.length c6)] y4.Network.Nodes) hl5
   replace hl6 := H.resF (f := MP.val [(.slice A6 y4.Network.Fibers.length c7)] y4.Network.Fibers) hl6
   replace hl7 := H.resF (f := MP.val [(.slice A7 y4.Lights.length c8)] y4.Lights) hl7
   have H := H.keep hb4
   have H := H.push (true, MP.val [(.slice A5 y4.Network.Nodes.length c6)] y4.Network.Nodes) hl5
   have H := H.push (true, MP.val [(.slice A6 y4.Network.Fibers.length c7)] y4.Network.Fibers) hl6
   have H := H.push (true, MP.val [(.slice A7 y4.Lights.length c8)] y4.Lights) hl7
   have hS := H.lt_ [false, false, true, true, true] [] [] []
   refine ⟨fun _ => hS, ?_⟩
   obtain ⟨y5, hy5, hF⟩ := bind_some hF
   refine n1 9 (by kernel_rfl) rfl rfl (op_call hf TF.cl109 rfl (by decide) (spec_l9Put_ok (S := TT) (Plan_mkv (x := y4) (H.rt 2 rfl) (H.rt 1 rfl) (H.rt 0 rfl)) (Light_mkv (x := ({ Id := id, Route := r', Block := b' } : Light)) (H.rt 3 rfl)) hy5) fun v5 w a hp5 hf => ?_)
   obtain ⟨hb5, hp5⟩ := hp5
   obtain ⟨A8, c9, A9, c10, A10, c11, rfl, hl8, hl9, hl10⟩ := Plan_open hp5
   replace hl8 := H.resF (f := MP.val [(.slice A8 y5.Network.Nodes.length c9)] y5.Network.Nodes) hl8
   replace hl9 := H.resF (f := MP.val [(.slice A9 y5.Network.Fibers.length c10)] y5.Network.Fibers) hl9
   replace hl10 := H.resF (f := MP.val [(.slice A10 y5.Lights.length c11)] y5.Lights) hl10
   have H := H.keep hb5
   have H := H.push (true, MP.val [(.slice A8 y5.Network.Nodes.length c9)] y5.Network.Nodes) hl8
   have H := H.push (true, MP.val [(.slice A9 y5.Network.Fibers.length c10)] y5.Network.Fibers) hl9
   have H := H.push (true, MP.val [(.slice A10 y5.Lights.length c11)] y5.Lights) hl10
   have hS := H.lt_ [false, false, true, true, true] [] [] []
   refine ⟨fun _ => hS, ?_⟩
   refine n1 11 (by kernel_rfl) rfl rfl (op_storeB hf H 0 TF.sz45 rfl rfl rfl rfl rfl rfl (nle rfl) fun w H => ?_)
   refine ⟨fun h => absurd h (by decide), ?_⟩
   refine dn (by kernel_rfl) ?_
   have hf := hf.pn [8, 10]
   refine then_n (sq (sq (reg (oq hf (rq_loadBN hf H TF.la45 0 rfl rfl rfl rfl) fun a hf => ?_))))
   obtain ⟨y6, hy6, hF⟩ := bind_some hF
   refine oc hf TF.cl61 (spec_l9Good_ok (S := TT) (Plan_mkv (x := y5) (H.rt 2 rfl) (H.rt 1 rfl) (H.rt 0 rfl)) hy6) fun v6 w a hp6 hf => ?_
   obtain ⟨hb6, hp6⟩ := hp6
   obtain rfl := VR_bool hp6
   have H := H.keep hb6
   refine pz 1 hf fun a hf => ?_
   refine wl_end (then_n (ib hF hf (fun hc3 hF => ?_) fun hc3 hF => ?_))
   ·refine sq (reg (oq hf (rq_build hf (cs := [(.slice none 0 0), (.slice none 0 0), (.slice none 0 0)]) rfl (fun w => by kernel_rfl)) fun a hf => ?_))
    refine wl0 rfl (op_storeB hf H 1 TF.sz45 rfl rfl rfl rfl rfl rfl (nle rfl) fun w H => ?_)
    refine pz 1 hf fun a hf => ?_
    refine wl_end (then_n (wp_ret (then_r (?_))))
    have H := H.pushNil (ByteArray) true
    have H := H.pushNil (Fiber) true
    have H := H.pushNil (Light) true
    obtain rfl := Option.some.inj hF
    refine ret_2 (fn := Tryz.f121) (r := .cell 8 45) (s := .tmp 9) hf rfl (rv_cellN hf H 1 TF.la45 rfl rfl rfl) (rv_tmp hf rfl) ?_
    exact ⟨_, rfl, H.bel, _, _, rfl, (Plan_mkv (x := ({ Network := ({ Nodes := [], Fibers := [] } : Network), Lights := [] } : Plan)) (rep_end (α := List ByteArray) (H.get 2 rfl)) (rep_end (α := List Fiber) (H.get 1 rfl)) (rep_end (α := List Light) (H.get 0 rfl))), mk_bool⟩
   ·refine wp_skip (then_n (sq (reg (oq hf (rq_loadBN hf H TF.la45 0 rfl rfl rfl rfl) fun a hf => ?_))))
    refine wl0 rfl (op_storeB hf H 1 TF.sz45 rfl rfl rfl rfl rfl rfl (nle rfl) fun w H => ?_)
    refine pz 1 hf fun a hf => ?_
    refine wl_end (then_n (wp_ret (?_)))
    obtain rfl := Option.some.inj hF
    refine ret_2 (fn := Tryz.f121) (r := .cell 8 45) (s := .tmp 9) hf rfl (rv_cellN hf H 1 TF.la45 rfl rfl rfl) (rv_tmp hf rfl) ?_
    exact ⟨_, rfl, H.bel, _, _, rfl, (Plan_mkv (x := y5) (rep_end (α := List ByteArray) (H.get 2 rfl)) (rep_end (α := List Fiber) (H.get 1 rfl)) (rep_end (α := List Light) (H.get 0 rfl))), mk_bool⟩

theorem spec_l20Apply_ok {S : Nat → Prop} {v0_ : Value} {v1_ : Value} {p : Plan} {a' : Action} {r : Plan × Bool} (h0 : VR w0 S v0_ p) (h1 : VR w0 S v1_ a') (hF : spec_l20Apply fu p a' = some r) :
    Calls Tryz.prog 62 [v0_, v1_].toArray w0 fun e w' => ∃ v, e = .returned v ∧ (Below w0.heap.size w0 w' ∧ ∃ u0 u1, v = .tuple #[u0, u1] ∧ VR w' (St ⟨w0, []⟩ S [] [] [] true) u0 r.1 ∧ VR w' (St ⟨w0, []⟩ S [] [] [] true) u1 r.2) := by
 obtain ⟨A, c, A2, c2, A3, c3, rfl, hl, hl2, hl3⟩ := Plan_open h0
 obtain ⟨A4, c4, rfl, hl4⟩ := Action_open h1
 have H := Mem.start ⟨w0, []⟩ S
 have H := H.pushArg (MP.val [(.slice A p.Network.Nodes.length c)] p.Network.Nodes) hl
 have H := H.pushArg (MP.val [(.slice A2 p.Network.Fibers.length c2)] p.Network.Fibers) hl2
 have H := H.pushArg (MP.val [(.slice A3 p.Lights.length c3)] p.Lights) hl3
 have H := H.pushArg (MP.val [(.slice A4 a'.Light.Route.Fibers.length c4)] a'.Light.Route.Fibers) hl4
 refine en Tryz.func62 fun a hf => ?_
 rw [spec_l20Apply] at hF
 refine sq (reg (wl0 rfl (op_box hf H rfl rfl (by decide) fun b' a w hf H => ?_)))
 refine wl0 rfl (op_box hf H rfl rfl (by decide) fun b2 a w hf H => ?_)
 refine wl0 rfl (op_alloc hf H TF.zv45 rfl (by decide) fun b3 a w hf H => ?_)
 refine pz 1 hf fun a hf => ?_
 refine wr (oq hf (rq_loadBN hf H TF.la45 2 rfl rfl rfl rfl) fun a hf => ?_)
 refine pz 2 hf fun a hf => ?_
 refine oq hf (rq_loadB hf H TF.ls3 1 rfl rfl rfl) fun a hf => ?_
 obtain ⟨y, hy, hF⟩ := bind_some hF
 refine oc hf TF.cl101 (spec_l9Find_ok (S := TT) (Plan_mkv (x := p) (H.rt 3 rfl) (H.rt 2 rfl) (H.rt 1 rfl)) mk_int hy) fun v w a hp hf => ?_
 obtain ⟨hb, hp⟩ := hp
 obtain rfl := VR_int hp
 have H := H.keep hb
 refine pz 1 hf fun a hf => ?_
 refine wl_end (then_n (sq (sqz (pz 1 hf fun a hf => ?_))))
 refine oq hf (rq_loadB hf H TF.ls3 1 rfl rfl rfl) fun a hf => ?_
 refine wl_end (then_n (wp_block (sqz (pz 2 hf fun a hf => ?_))))
 refine wl_end (then_n (ib hF hf (fun hc hF => ?_) fun hc hF => ?_))
 ·refine sq (reg (oq hf (rq_loadBN hf H TF.la45 2 rfl rfl rfl rfl) fun a hf => ?_))
  refine pz 1 hf fun a hf => ?_
  refine oq hf (rq_loadBN hf H TF.la52 1 rfl rfl rfl rfl) fun a hf => ?_
  obtain ⟨y2, hy2, hF⟩ := bind_some hF
  refine oc hf TF.cl53 (spec_AddLight_ok (S := TT) (Plan_mkv (x := p) (H.rt 3 rfl) (H.rt 2 rfl) (H.rt 1 rfl)) (Light_mkv (x := a'.Light) (H.rt 0 rfl)) hy2) fun v2 w a hp2 hf => ?_
  obtain ⟨hb2, v3, v4, rfl, hp3, hp4⟩ := hp2
  obtain ⟨A5, c5, A6, c6, A7, c7, rfl, hl5, hl6, hl7⟩ := Plan_open hp3
  replace hl5 := H.resF (f := MP.val [(.slice A5 y2.1.Network.Nodes.length c5)] y2.1.Network.Nodes) hl5
  replace hl6 := H.resF (f := MP.val [(.slice A6 y2.1.Network.Fibers.length c6)] y2.1.Network.Fibers) hl6
  replace hl7 := H.resF (f := MP.val [(.slice A7 y2.1.Lights.length c7)] y2.1.Lights) hl7
  obtain rfl := VR_bool hp4
  have H := H.keep hb2
  have H := H.push (true, MP.val [(.slice A5 y2.1.Network.Nodes.length c5)] y2.1.Network.Nodes) hl5
  have H := H.push (true, MP.val [(.slice A6 y2.1.Network.Fibers.length c6)] y2.1.Network.Fibers) hl6
  have H := H.push (true, MP.val [(.slice A7 y2.1.Lights.length c7)] y2.1.Lights) hl7
  refine pz 2 hf fun a hf => ?_
  refine wl0 rfl (op_storeB hf H 0 TF.sz45 rfl rfl rfl rfl rfl rfl (nle rfl) fun w H => ?_)
  refine pz 1 hf fun a hf => ?_
  have hf := hf.pn [4, 5]
  refine wl_end (then_n (wp_ret (blk_r (then_r (?_)))))
  obtain rfl := Option.some.inj hF
  refine ret_2 (fn := Tryz.f62) (r := .cell 4 45) (s := .tmp 5) hf rfl (rv_cellN hf H 0 TF.la45 rfl rfl rfl) (rv_tmp hf rfl) ?_
  exact ⟨_, rfl, H.bel, _, _, rfl, (Plan_mkv (x := y2.1) (rep_end (α := List ByteArray) (H.get 2 rfl)) (rep_end (α := List Fiber) (H.get 1 rfl)) (rep_end (α := List Light) (H.get 0 rfl))), mk_bool⟩
 ·refine sqz (pz 2 hf fun a hf => ?_)
  refine wl_end (then_n (ib hF hf (fun hc2 hF => ?_) fun hc2 hF => ?_))
  ·refine sq ?_
   obtain ⟨c8, hGc8, hF⟩ := bind_some hF
   have fh := hf.prune [2, 4, 6] rfl
   have Hm := H.lt_ [true, false, true] [] [] [1, 2, 3]
   refine midF 35 (.bool c8) fh Hm ?_ fun a w hf H => ?_
   ·refine drawn [] (bs := [false, false, false, false, false, false, false, false, false, false, false, false]) (fuel := 12) (Checked.mixed Tryz.checked) rfl rfl fun w hb => ?_
    have H := H.keep hb
    refine zp 0 hf trivial fun a hf => ?_
    refine zp 1 hf trivial fun a hf => ?_
    refine zp 2 hf trivial fun a hf => ?_
    refine iteB hGc8 (fun hc3 hGc8 => ?_) fun hc3 hGc8 => ?_
    ·have hf := hf.lit 26 rfl hc3
     refine zg 3 hf trivial fun a hf => ?_
     refine strT (H.let [false, false, true] [] [] [] rfl rfl rfl rfl) (fun w H => trivial) fun hS => ?_
     refine tSg 4 [] rfl rfl rfl rfl rfl rfl hf (by kernel_rfl) (by kernel_rfl) hS (fun w H => rq_loadB hf H TF.ls43 0 rfl rfl rfl) fun a hf => ?_
     refine zg 5 hf hS fun a hf => ?_
     obtain ⟨e, he, hGc8⟩ := bind_some hGc8
     obtain ⟨p2, o, cs, hx, hr, H⟩ := pre_iaddr H Tryz.underlying43 TF.sz52 1 rfl he
     refine tPg 6 rfl rfl rfl rfl rfl rfl hf (by kernel_rfl) (fun _ => hS) (fun w => rq_iaddrE hf rfl rfl rfl hx w) fun a hf => ?_
     obtain ⟨A8, c9, rfl, hl8⟩ := Light_cells hr
     have H := H.push (false, MP.val [(.slice A8 e.Route.Fibers.length c9)] e.Route.Fibers) hl8
     refine strT (H.let [false, false, true] [] [] [1] rfl rfl rfl rfl) (fun w H => H.let [true] [] [] [] rfl rfl rfl rfl) fun hS => ?_
     refine tSg 7 [] rfl rfl rfl rfl rfl rfl hf (by kernel_rfl) (by kernel_rfl) hS (fun w H => rq_loadIN hf H TF.la52 0 0 rfl rfl rfl rfl) fun a hf => ?_
     refine zg 8 hf hS fun a hf => ?_
     refine strT (H.let [false, true, true] [] [] [1] rfl rfl rfl rfl) (fun w H => H.let [false, true] [] [] [0] rfl rfl rfl rfl) fun hS => ?_
     refine tSg 9 [] rfl rfl rfl rfl rfl rfl hf (by kernel_rfl) (by kernel_rfl) hS (fun w H => rq_loadBN hf H TF.la52 0 rfl rfl rfl rfl) fun a hf => ?_
     obtain ⟨y3, hy3, hGc8⟩ := bind_some hGc8
     refine n1g 10 (by kernel_rfl) rfl rfl rfl rfl hf (op_call hf TF.cl119 rfl (by decide) (spec_l20Same_ok (S := TT) (Light_mkv (x := e) (H.rt 0 rfl)) (Light_mkv (x := a'.Light) (H.rt 2 rfl)) hy3) fun v5 w a hp5 hf => ?_)
     obtain ⟨hb3, hp5⟩ := hp5
     obtain rfl := VR_bool hp5
     have H := H.keep hb3
     have hS := H.lt_ [false, true, true] [] [] [1]
     refine ⟨fun _ => hS, ?_⟩
     refine zp 11 hf hS fun a hf => ?_
     refine dn (by kernel_rfl) ?_
     obtain rfl := Option.some.inj hGc8
     have hf := hf.pn [35, 2, 4, 6]
     have H := H.lt_ [true, false, true] [] [] [3, 4, 5]
     exact ⟨hf, H⟩
    ·have hf := hf.lit 26 rfl hc3
     refine zU 3 hf trivial fun a hf => ?_
     refine zU 4 hf trivial fun a hf => ?_
     refine zU 5 hf trivial fun a hf => ?_
     refine zU 6 hf trivial fun a hf => ?_
     refine zU 7 hf trivial fun a hf => ?_
     refine zU 8 hf trivial fun a hf => ?_
     refine zU 9 hf trivial fun a hf => ?_
     refine zU 10 hf trivial fun a hf => ?_
     refine zp 11 hf trivial fun a hf => ?_
     refine dn (by kernel_rfl) ?_
     obtain rfl := Option.some.inj hGc8
     have hf := hf.pn [35, 2, 4, 6]
     have H := H.lt_ [true, false, true] [] [] [1, 2, 3]
     exact ⟨hf, H⟩
   refine then_n (ib hF hf (fun hc4 hF => ?_) fun hc4 hF => ?_)
   ·refine sq (reg (oq hf (rq_loadBN hf H TF.la45 1 rfl rfl rfl rfl) fun a hf => ?_))
    refine pz 1 hf fun a hf => ?_
    obtain ⟨y4, hy4, hF⟩ := bind_some hF
    refine oc hf TF.cl120 (spec_l9Without_ok (S := TT) (Plan_mkv (x := p) (H.rt 2 rfl) (H.rt 1 rfl) (H.rt 0 rfl)) mk_int hy4) fun v6 w a hp6 hf => ?_
    obtain ⟨hb4, hp6⟩ := hp6
    obtain ⟨A9, c10, A10, c11, A11, c12, rfl, hl9, hl10, hl11⟩ := Plan_open hp6
    replace hl9 := H.resF (f := MP.val [(.slice A9 y4.Network.Nodes.length c10)] y4.Network.Nodes) hl9
    replace hl10 := H.resF (f := MP.val [(.slice A10 y4.Network.Fibers.length c11)] y4.Network.Fibers) hl10
    replace hl11 := H.resF (f := MP.val [(.slice A11 y4.Lights.length c12)] y4.Lights) hl11
    have H := H.keep hb4
    have H := H.push (true, MP.val [(.slice A9 y4.Network.Nodes.length c10)] y4.Network.Nodes) hl9
    have H := H.push (true, MP.val [(.slice A10 y4.Network.Fibers.length c11)] y4.Network.Fibers) hl10
    have H := H.push (true, MP.val [(.slice A11 y4.Lights.length c12)] y4.Lights) hl11
    refine wl0 rfl (op_storeB hf H 0 TF.sz45 rfl rfl rfl rfl rfl rfl (nle rfl) fun w H => ?_)
    refine pz 1 hf fun a hf => ?_
    refine wl_end (then_n (wp_ret (blk_r (then_r (?_)))))
    obtain rfl := Option.some.inj hF
    refine ret_2 (fn := Tryz.f62) (r := .cell 4 45) (s := .tmp 5) hf rfl (rv_cellN hf H 0 TF.la45 rfl rfl rfl) (rv_tmp hf rfl) ?_
    exact ⟨_, rfl, H.bel, _, _, rfl, (Plan_mkv (x := y4) (rep_end (α := List ByteArray) (H.get 2 rfl)) (rep_end (α := List Fiber) (H.get 1 rfl)) (rep_end (α := List Light) (H.get 0 rfl))), mk_bool⟩
   ·refine wp_skip (blk_n (then_n (sq (reg (oq hf (rq_build hf (cs := [(.slice none 0 0), (.slice none 0 0), (.slice none 0 0)]) rfl (fun w => by kernel_rfl)) fun a hf => ?_)))))
    refine wl0 rfl (op_storeB hf H 0 TF.sz45 rfl rfl rfl rfl rfl rfl (nle rfl) fun w H => ?_)
    refine pz 1 hf fun a hf => ?_
    refine wl_end (then_n (wp_ret (?_)))
    have H := H.pushNil (ByteArray) true
    have H := H.pushNil (Fiber) true
    have H := H.pushNil (Light) true
    obtain rfl := Option.some.inj hF
    refine ret_2 (fn := Tryz.f62) (r := .cell 4 45) (s := .tmp 5) hf rfl (rv_cellN hf H 0 TF.la45 rfl rfl rfl) (rv_tmp hf rfl) ?_
    exact ⟨_, rfl, H.bel, _, _, rfl, (Plan_mkv (x := ({ Network := ({ Nodes := [], Fibers := [] } : Network), Lights := [] } : Plan)) (rep_end (α := List ByteArray) (H.get 2 rfl)) (rep_end (α := List Fiber) (H.get 1 rfl)) (rep_end (α := List Light) (H.get 0 rfl))), mk_bool⟩
  ·refine sqz (pz 2 hf fun a hf => ?_)
   have hf := hf.pn [2, 3, 4, 39]
   refine wl_end (then_n (ib hF hf (fun hc5 hF => ?_) fun hc5 hF => ?_))
   ·refine sq (reg (oq hf (rq_loadBN hf H TF.la45 2 rfl rfl rfl rfl) fun a hf => ?_))
    refine pz 2 hf fun a hf => ?_
    refine oq hf (rq_loadB hf H TF.ls3 1 rfl rfl rfl) fun a hf => ?_
    refine pz 2 hf fun a hf => ?_
    refine oq hf (rq_loadBN hf H TF.la49 1 rfl rfl rfl rfl) fun a hf => ?_
    refine pz 2 hf fun a hf => ?_
    refine oq hf (rq_loadBN hf H TF.la50 1 rfl rfl rfl rfl) fun a hf => ?_
    obtain ⟨y5, hy5, hF⟩ := bind_some hF
    refine oc hf TF.cl121 (spec_MoveLight_ok (S := TT) (Plan_mkv (x := p) (H.rt 3 rfl) (H.rt 2 rfl) (H.rt 1 rfl)) mk_int (Route_mkv (x := a'.Light.Route) (H.rt 0 rfl)) Block_mkv hy5) fun v7 w a hp7 hf => ?_
    obtain ⟨hb5, v8, v9, rfl, hp8, hp9⟩ := hp7
    obtain ⟨A12, c13, A13, c14, A14, c15, rfl, hl12, hl13, hl14⟩ := Plan_open hp8
    replace hl12 := H.resF (f := MP.val [(.slice A12 y5.1.Network.Nodes.length c13)] y5.1.Network.Nodes) hl12
    replace hl13 := H.resF (f := MP.val [(.slice A13 y5.1.Network.Fibers.length c14)] y5.1.Network.Fibers) hl13
    replace hl14 := H.resF (f := MP.val [(.slice A14 y5.1.Lights.length c15)] y5.1.Lights) hl14
    obtain rfl := VR_bool hp9
    have H := H.keep hb5
    have H := H.push (true, MP.val [(.slice A12 y5.1.Network.Nodes.length c13)] y5.1.Network.Nodes) hl12
    have H := H.push (true, MP.val [(.slice A13 y5.1.Network.Fibers.length c14)] y5.1.Network.Fibers) hl13
    have H := H.push (true, MP.val [(.slice A14 y5.1.Lights.length c15)] y5.1.Lights) hl14
    refine pz 2 hf fun a hf => ?_
    refine wl0 rfl (op_storeB hf H 0 TF.sz45 rfl rfl rfl rfl rfl rfl (nle rfl) fun w H => ?_)
    refine pz 1 hf fun a hf => ?_
    have hf := hf.pn [4, 5]
    refine wl_end (then_n (wp_ret (blk_r (then_r (?_)))))
    obtain rfl := Option.some.inj hF
    refine ret_2 (fn := Tryz.f62) (r := .cell 4 45) (s := .tmp 5) hf rfl (rv_cellN hf H 0 TF.la45 rfl rfl rfl) (rv_tmp hf rfl) ?_
    exact ⟨_, rfl, H.bel, _, _, rfl, (Plan_mkv (x := y5.1) (rep_end (α := List ByteArray) (H.get 2 rfl)) (rep_end (α := List Fiber) (H.get 1 rfl)) (rep_end (α := List Light) (H.get 0 rfl))), mk_bool⟩
   ·refine wp_skip (blk_n (then_n (sq (reg (oq hf (rq_build hf (cs := [(.slice none 0 0), (.slice none 0 0), (.slice none 0 0)]) rfl (fun w => by kernel_rfl)) fun a hf => ?_)))))
    refine wl0 rfl (op_storeB hf H 0 TF.sz45 rfl rfl rfl rfl rfl rfl (nle rfl) fun w H => ?_)
    refine pz 1 hf fun a hf => ?_
    refine wl_end (then_n (wp_ret (?_)))
    have H := H.pushNil (ByteArray) true
    have H := H.pushNil (Fiber) true
    have H := H.pushNil (Light) true
    obtain rfl := Option.some.inj hF
    refine ret_2 (fn := Tryz.f62) (r := .cell 4 45) (s := .tmp 5) hf rfl (rv_cellN hf H 0 TF.la45 rfl rfl rfl) (rv_tmp hf rfl) ?_
    exact ⟨_, rfl, H.bel, _, _, rfl, (Plan_mkv (x := ({ Network := ({ Nodes := [], Fibers := [] } : Network), Lights := [] } : Plan)) (rep_end (α := List ByteArray) (H.get 2 rfl)) (rep_end (α := List Fiber) (H.get 1 rfl)) (rep_end (α := List Light) (H.get 0 rfl))), mk_bool⟩

theorem spec_ApplyAction_ok {S : Nat → Prop} {v0_ : Value} {v1_ : Value} {p : Plan} {a' : Action} {r : Plan × Bool} (h0 : VR w0 S v0_ p) (h1 : VR w0 S v1_ a') (hF : spec_ApplyAction fu p a' = some r) :
    Calls Tryz.prog 13 [v0_, v1_].toArray w0 fun e w' => ∃ v, e = .returned v ∧ (Below w0.heap.size w0 w' ∧ ∃ u0 u1, v = .tuple #[u0, u1] ∧ VR w' (St ⟨w0, []⟩ S [] [] [] true) u0 r.1 ∧ VR w' (St ⟨w0, []⟩ S [] [] [] true) u1 r.2) := by
 obtain ⟨A, c, A2, c2, A3, c3, rfl, hl, hl2, hl3⟩ := Plan_open h0
 obtain ⟨A4, c4, rfl, hl4⟩ := Action_open h1
 have H := Mem.start ⟨w0, []⟩ S
 have H := H.pushArg (MP.val [(.slice A p.Network.Nodes.length c)] p.Network.Nodes) hl
 have H := H.pushArg (MP.val [(.slice A2 p.Network.Fibers.length c2)] p.Network.Fibers) hl2
 have H := H.pushArg (MP.val [(.slice A3 p.Lights.length c3)] p.Lights) hl3
 have H := H.pushArg (MP.val [(.slice A4 a'.Light.Route.Fibers.length c4)] a'.Light.Route.Fibers) hl4
 refine en Tryz.func13 fun a hf => ?_
 rw [spec_ApplyAction] at hF
 refine sq (reg (wl0 rfl (op_box hf H rfl rfl (by decide) fun b' a w hf H => ?_)))
 refine wl0 rfl (op_box hf H rfl rfl (by decide) fun b2 a w hf H => ?_)
 refine wl0 rfl (op_alloc hf H TF.zv45 rfl (by decide) fun b3 a w hf H => ?_)
 refine pz 1 hf fun a hf => ?_
 refine wl_end (then_n (sq (sq (reg (oq hf (rq_loadBN hf H TF.la45 2 rfl rfl rfl rfl) fun a hf => ?_)))))
 obtain ⟨y, hy, hF⟩ := bind_some hF
 refine oc hf TF.cl61 (spec_l9Good_ok (S := TT) (Plan_mkv (x := p) (H.rt 3 rfl) (H.rt 2 rfl) (H.rt 1 rfl)) hy) fun v w a hp hf => ?_
 obtain ⟨hb, hp⟩ := hp
 obtain rfl := VR_bool hp
 have H := H.keep hb
 refine pz 1 hf fun a hf => ?_
 refine wl_end (then_n (ib hF hf (fun hc hF => ?_) fun hc hF => ?_))
 ·refine sq (reg (oq hf (rq_build hf (cs := [(.slice none 0 0), (.slice none 0 0), (.slice none 0 0)]) rfl (fun w => by kernel_rfl)) fun a hf => ?_))
  refine wl0 rfl (op_storeB hf H 0 TF.sz45 rfl rfl rfl rfl rfl rfl (nle rfl) fun w H => ?_)
  refine pz 1 hf fun a hf => ?_
  refine wl_end (then_n (wp_ret (then_r (?_))))
  have H := H.pushNil (ByteArray) true
  have H := H.pushNil (Fiber) true
  have H := H.pushNil (Light) true
  obtain rfl := Option.some.inj hF
  refine ret_2 (fn := Tryz.f13) (r := .cell 4 45) (s := .tmp 5) hf rfl (rv_cellN hf H 0 TF.la45 rfl rfl rfl) (rv_tmp hf rfl) ?_
  exact ⟨_, rfl, H.bel, _, _, rfl, (Plan_mkv (x := ({ Network := ({ Nodes := [], Fibers := [] } : Network), Lights := [] } : Plan)) (rep_end (α := List ByteArray) (H.get 2 rfl)) (rep_end (α := List Fiber) (H.get 1 rfl)) (rep_end (α := List Light) (H.get 0 rfl))), mk_bool⟩
 ·refine wp_skip (then_n (sq (reg (oq hf (rq_loadBN hf H TF.la45 2 rfl rfl rfl rfl) fun a hf => ?_))))
  refine oq hf (rq_loadBN hf H TF.la54 1 rfl rfl rfl rfl) fun a hf => ?_
  obtain ⟨y2, hy2, hF⟩ := bind_some hF
  refine oc hf TF.cl62 (spec_l20Apply_ok (S := TT) (Plan_mkv (x := p) (H.rt 3 rfl) (H.rt 2 rfl) (H.rt 1 rfl)) (Action_mkv (x := a') (H.rt 0 rfl)) hy2) fun v2 w a hp2 hf => ?_
  obtain ⟨hb2, v3, v4, rfl, hp3, hp4⟩ := hp2
  obtain ⟨A5, c5, A6, c6, A7, c7, rfl, hl5, hl6, hl7⟩ := Plan_open hp3
  replace hl5 := H.resF (f := MP.val [(.slice A5 y2.1.Network.Nodes.length c5)] y2.1.Network.Nodes) hl5
  replace hl6 := H.resF (f := MP.val [(.slice A6 y2.1.Network.Fibers.length c6)] y2.1.Network.Fibers) hl6
  replace hl7 := H.resF (f := MP.val [(.slice A7 y2.1.Lights.length c7)] y2.1.Lights) hl7
  obtain rfl := VR_bool hp4
  have H := H.keep hb2
  have H := H.push (true, MP.val [(.slice A5 y2.1.Network.Nodes.length c5)] y2.1.Network.Nodes) hl5
  have H := H.push (true, MP.val [(.slice A6 y2.1.Network.Fibers.length c6)] y2.1.Network.Fibers) hl6
  have H := H.push (true, MP.val [(.slice A7 y2.1.Lights.length c7)] y2.1.Lights) hl7
  refine pz 2 hf fun a hf => ?_
  refine wl0 rfl (op_storeB hf H 0 TF.sz45 rfl rfl rfl rfl rfl rfl (nle rfl) fun w H => ?_)
  refine pz 1 hf fun a hf => ?_
  refine wl_end (then_n (wp_ret (?_)))
  obtain rfl := Option.some.inj hF
  refine ret_2 (fn := Tryz.f13) (r := .cell 4 45) (s := .tmp 5) hf rfl (rv_cellN hf H 0 TF.la45 rfl rfl rfl) (rv_tmp hf rfl) ?_
  exact ⟨_, rfl, H.bel, _, _, rfl, (Plan_mkv (x := y2.1) (rep_end (α := List ByteArray) (H.get 2 rfl)) (rep_end (α := List Fiber) (H.get 1 rfl)) (rep_end (α := List Light) (H.get 0 rfl))), mk_bool⟩

theorem impl_within_ok {S : Nat → Prop} {v0_ : Value} {v1_ : Value} {v2_ : Value} {n' : Int} {low : Int} {high : Int} {r : Bool} (h0 : VR w0 S v0_ n') (h1 : VR w0 S v1_ low) (h2 : VR w0 S v2_ high) (hF : impl_within fu n' low high = some r) :
    Calls Tryz.prog 93 [v0_, v1_, v2_].toArray w0 fun e w' => ∃ v, e = .returned v ∧ (Below w0.heap.size w0 w' ∧ VR w' (St ⟨w0, []⟩ S [] [] [] true) v r) := by
 obtain rfl := VR_int h0
 obtain rfl := VR_int h1
 obtain rfl := VR_int h2
 have H := Mem.start ⟨w0, []⟩ S
 refine en Tryz.func93 fun a hf => ?_
 rw [impl_within] at hF
 refine sqz (pz 1 hf fun a hf => ?_)
 refine wl_end (then_n (sq ?_))
 obtain ⟨c, hGc, hF⟩ := bind_some hF
 have fh := hf.prune [] rfl
 have Hm := H.lt_ [] [] [] []
 refine midF 6 (.bool c) fh Hm ?_ fun a w hf H => ?_
 ·refine reg (pz 4 hf fun a hf => ?_)
  refine iteB hGc (fun hc hGc => ?_) fun hc hGc => ?_
  ·have hf := hf.lit 10 rfl hc
   refine pz 5 hf fun a hf => ?_
   obtain rfl := Option.some.inj hGc
   have hf := hf.pn [6]
   have H := H.lt_ [] [] [] []
   exact wl_end ⟨hf, H⟩
  ·have hf := hf.lit 10 rfl hc
   refine pz 5 hf fun a hf => ?_
   obtain rfl := Option.some.inj hGc
   have hf := hf.pn [6]
   have H := H.lt_ [] [] [] []
   exact wl_end ⟨hf, H⟩
 refine then_n (wp_ret (?_))
 obtain rfl := Option.some.inj hF
 refine ret_1 hf rfl (rv_tmp hf rfl) ?_
 exact ⟨_, rfl, H.bel, mk_bool⟩

theorem impl_isName_ok {S : Nat → Prop} {v0_ : Value} {s' : ByteArray} {r : Bool} (h0 : VR w0 S v0_ s') (hF : impl_isName fu s' = some r) :
    Calls Tryz.prog 153 [v0_].toArray w0 fun e w' => ∃ v, e = .returned v ∧ (Below w0.heap.size w0 w' ∧ VR w' (St ⟨w0, []⟩ S [] [] [] true) v r) := by
 obtain rfl := VR_str h0
 have H := Mem.start ⟨w0, []⟩ S
 refine en Tryz.func153 fun a hf => ?_
 rw [impl_isName] at hF
 refine sqz (pz 1 hf fun a hf => ?_)
 refine wl_end (then_n (sq (sqz (pz 3 hf fun a hf => ?_))))
 refine wl_end (then_n ?_)
 obtain ⟨out', hB1, hF⟩ := bind_some hF
 have hf := hf.pn [0, 7, 8]
 have H := H.lt_ [] [] [] []
 refine loopC (fun (s : Int) (a : Act) (w : World) => match s with | i => Fr a 45 [(0, (.string s')), (7, (.int .i64 (s'.size : Int))), (8, (.int .i64 i))] ∧ Mem ⟨w0, []⟩ S [] [] [] [] w) (fun k (s : Int) => impl_isName_L1 fu s' k s = some out') (fun s => out' = Out.next s) 0 fu hB1 ⟨hf, H⟩ (fun s h => by cases h) ?_ ?_
 ·rintro fk i a w hR1 hI
  replace hR1 : impl_isName_L1 fu s' (fk + 1) i = some out' := hR1
  rw [impl_isName_L1] at hR1
  obtain ⟨hf, H⟩ := hI
  refine sqz (pz 1 hf fun a hf => ?_)
  refine wl_end (then_n (sq (ib hR1 hf (fun hc hR1 => ?_) fun hc hR1 => ?_)))
  ·refine wp_skip (then_n (sq (wp_block (sqz (pz 2 hf fun a hf => ?_)))))
   refine wl_end (then_n (sq (drawn [] (bs := [false, false, false, false, false, false, false, false, false, false, false, false, false, false, false, false, false, false, false, false, false, false]) (fuel := 22) (Checked.mixed Tryz.checked) rfl rfl fun w hb => ?_)))
   have H := H.keep hb
   refine zp 0 hf trivial fun a hf => ?_
   refine zp 1 hf trivial fun a hf => ?_
   obtain ⟨e, he, hR1⟩ := bind_some hR1
   refine tP 2 rfl rfl rfl rfl hf (by kernel_rfl) (fun _ => trivial) (fun w => rq_indexS hf Tryz.underlying9 rfl rfl he) fun a hf => ?_
   refine tP 3 rfl rfl rfl rfl hf (by kernel_rfl) (fun _ => trivial) (fun w => rq_geK hf rfl rfl) fun a hf => ?_
   refine zp 4 hf trivial fun a hf => ?_
   refine zp 10 hf trivial fun a hf => ?_
   refine zp 11 hf trivial fun a hf => ?_
   obtain ⟨e2, he2, hR1⟩ := bind_some hR1
   refine tP 12 rfl rfl rfl rfl hf (by kernel_rfl) (fun _ => trivial) (fun w => rq_indexS hf Tryz.underlying9 rfl rfl he2) fun a hf => ?_
   refine tP 13 rfl rfl rfl rfl hf (by kernel_rfl) (fun _ => trivial) (fun w => rq_geK hf rfl rfl) fun a hf => ?_
   refine zp 14 hf trivial fun a hf => ?_
   refine iteB hR1 (fun hc2 hR1 => ?_) fun hc2 hR1 => ?_
   ·have hf := hf.lit 15 rfl hc2
    refine zg 5 hf trivial fun a hf => ?_
    refine zg 6 hf trivial fun a hf => ?_
    obtain ⟨e3, he3, hR1⟩ := bind_some hR1
    refine tPg 7 rfl rfl rfl rfl rfl rfl hf (by kernel_rfl) (fun _ => trivial) (fun w => rq_indexS hf Tryz.underlying9 rfl rfl he3) fun a hf => ?_
    refine tPg 8 rfl rfl rfl rfl rfl rfl hf (by kernel_rfl) (fun _ => trivial) (fun w => rq_leK hf rfl rfl) fun a hf => ?_
    refine zp 9 hf trivial fun a hf => ?_
    refine zp 20 hf trivial fun a hf => ?_
    refine iteB hR1 (fun hc3 hR1 => ?_) fun hc3 hR1 => ?_
    ·have hf := hf.lit 25 rfl hc3
     refine zg 15 hf trivial fun a hf => ?_
     refine zg 16 hf trivial fun a hf => ?_
     obtain ⟨e4, he4, hR1⟩ := bind_some hR1
     refine tPg 17 rfl rfl rfl rfl rfl rfl hf (by kernel_rfl) (fun _ => trivial) (fun w => rq_indexS hf Tryz.underlying9 rfl rfl he4) fun a hf => ?_
     refine tPg 18 rfl rfl rfl rfl rfl rfl hf (by kernel_rfl) (fun _ => trivial) (fun w => rq_leK hf rfl rfl) fun a hf => ?_
     refine zp 19 hf trivial fun a hf => ?_
     refine zp 21 hf trivial fun a hf => ?_
     refine dn (by kernel_rfl) ?_
     have hf := hf.pn [0, 3, 4, 5, 7, 8, 16, 17, 18, 19, 26, 27, 28, 29]
     refine then_n (sq ?_)
     obtain ⟨c, hGc, hR1⟩ := bind_some hR1
     have fh := hf.prune [0, 7, 8, 16, 17, 18, 19, 26, 27, 28, 29] rfl
     have Hm := H.lt_ [] [] [] []
     refine midF 40 (.bool c) fh Hm ?_ fun a w hf H => ?_
     ·refine reg (pz 3 hf fun a hf => ?_)
      refine iteB hGc (fun hc4 hGc => ?_) fun hc4 hGc => ?_
      ·have hf := hf.lit 33 rfl hc4
       refine pz 3 hf fun a hf => ?_
       refine iteB hGc (fun hc5 hGc => ?_) fun hc5 hGc => ?_
       ·have hf := hf.lit 36 rfl hc5
        refine pz 4 hf fun a hf => ?_
        obtain rfl := Option.some.inj hGc
        have hf := hf.pn [40, 0, 7, 8, 16, 17, 18, 19, 26, 27, 28, 29]
        have H := H.lt_ [] [] [] []
        exact wl_end ⟨hf, H⟩
       ·have hf := hf.lit 36 rfl hc5
        refine pz 4 hf fun a hf => ?_
        obtain rfl := Option.some.inj hGc
        have hf := hf.pn [40, 0, 7, 8, 16, 17, 18, 19, 26, 27, 28, 29]
        have H := H.lt_ [] [] [] []
        exact wl_end ⟨hf, H⟩
      ·have hf := hf.lit 33 rfl hc4
       refine pz 3 hf fun a hf => ?_
       refine wlsu hf rfl rfl rfl rfl (by decide) fun a hf => ?_
       refine wlsu hf rfl rfl rfl rfl (by decide) fun a hf => ?_
       refine pz 2 hf fun a hf => ?_
       obtain rfl := Option.some.inj hGc
       have hf := hf.pn [40, 0, 7, 8, 16, 17, 18, 19, 26, 27, 28, 29]
       have H := H.lt_ [] [] [] []
       exact wl_end ⟨hf, H⟩
     refine then_n (ib hR1 hf (fun hc6 hR1 => ?_) fun hc6 hR1 => ?_)
     ·refine sqz (pz 1 hf fun a hf => ?_)
      refine wl_end (then_n (wp_ret (blk_r (then_r (then_r (blk_r (then_r (then_r (?_)))))))))
      obtain rfl := Option.some.inj hR1
      replace hF := on_ret hF
      obtain rfl := Option.some.inj hF
      refine ret_1 hf rfl (rv_tmp hf rfl) ?_
      exact ⟨_, rfl, H.bel, mk_bool⟩
     ·refine wp_skip (blk_n (then_n (reg (pz 2 hf fun a hf => ?_))))
      refine wl_end ?_
      have hf := hf.pn [0, 7, 8]
      have H := H.lt_ [] [] [] []
      exact then_n ⟨w64 (i + 1), hR1, hf, H⟩
    ·have hf := hf.lit 25 rfl hc3
     refine zU 15 hf trivial fun a hf => ?_
     refine zU 16 hf trivial fun a hf => ?_
     refine zU 17 hf trivial fun a hf => ?_
     refine zU 18 hf trivial fun a hf => ?_
     refine zp 19 hf trivial fun a hf => ?_
     refine zp 21 hf trivial fun a hf => ?_
     refine dn (by kernel_rfl) ?_
     have hf := hf.pn [0, 3, 4, 5, 7, 8, 16, 17, 18, 19]
     refine then_n (sq ?_)
     obtain ⟨c2, hGc2, hR1⟩ := bind_some hR1
     have fh2 := hf.prune [0, 7, 8, 16, 17, 18, 19] rfl
     have Hm2 := H.lt_ [] [] [] []
     refine midF 40 (.bool c2) fh2 Hm2 ?_ fun a w hf H => ?_
     ·refine reg (pz 3 hf fun a hf => ?_)
      refine iteB hGc2 (fun hc7 hGc2 => ?_) fun hc7 hGc2 => ?_
      ·have hf := hf.lit 33 rfl hc7
       refine pz 3 hf fun a hf => ?_
       refine iteB hGc2 (fun hc8 hGc2 => ?_) fun hc8 hGc2 => ?_
       ·have hf := hf.lit 36 rfl hc8
        refine pz 4 hf fun a hf => ?_
        obtain rfl := Option.some.inj hGc2
        have hf := hf.pn [40, 0, 7, 8, 16, 17, 18, 19]
        have H := H.lt_ [] [] [] []
        exact wl_end ⟨hf, H⟩
       ·have hf := hf.lit 36 rfl hc8
        refine pz 4 hf fun a hf => ?_
        obtain rfl := Option.some.inj hGc2
        have hf := hf.pn [40, 0, 7, 8, 16, 17, 18, 19]
        have H := H.lt_ [] [] [] []
        exact wl_end ⟨hf, H⟩
      ·have hf := hf.lit 33 rfl hc7
       refine pz 3 hf fun a hf => ?_
       refine wlsu hf rfl rfl rfl rfl (by decide) fun a hf => ?_
       refine wlsu hf rfl rfl rfl rfl (by decide) fun a hf => ?_
       refine pz 2 hf fun a hf => ?_
       obtain rfl := Option.some.inj hGc2
       have hf := hf.pn [40, 0, 7, 8, 16, 17, 18, 19]
       have H := H.lt_ [] [] [] []
       exact wl_end ⟨hf, H⟩
     refine then_n (ib hR1 hf (fun hc9 hR1 => ?_) fun hc9 hR1 => ?_)
     ·refine sqz (pz 1 hf fun a hf => ?_)
      refine wl_end (then_n (wp_ret (blk_r (then_r (then_r (blk_r (then_r (then_r (?_)))))))))
      obtain rfl := Option.some.inj hR1
      replace hF := on_ret hF
      obtain rfl := Option.some.inj hF
      refine ret_1 hf rfl (rv_tmp hf rfl) ?_
      exact ⟨_, rfl, H.bel, mk_bool⟩
     ·refine wp_skip (blk_n (then_n (reg (pz 2 hf fun a hf => ?_))))
      refine wl_end ?_
      have hf := hf.pn [0, 7, 8]
      have H := H.lt_ [] [] [] []
      exact then_n ⟨w64 (i + 1), hR1, hf, H⟩
   ·have hf := hf.lit 15 rfl hc2
    refine zU 5 hf trivial fun a hf => ?_
    refine zU 6 hf trivial fun a hf => ?_
    refine zU 7 hf trivial fun a hf => ?_
    refine zU 8 hf trivial fun a hf => ?_
    refine zp 9 hf trivial fun a hf => ?_
    refine zp 20 hf trivial fun a hf => ?_
    refine iteB hR1 (fun hc10 hR1 => ?_) fun hc10 hR1 => ?_
    ·have hf := hf.lit 25 rfl hc10
     refine zg 15 hf trivial fun a hf => ?_
     refine zg 16 hf trivial fun a hf => ?_
     obtain ⟨e5, he5, hR1⟩ := bind_some hR1
     refine tPg 17 rfl rfl rfl rfl rfl rfl hf (by kernel_rfl) (fun _ => trivial) (fun w => rq_indexS hf Tryz.underlying9 rfl rfl he5) fun a hf => ?_
     refine tPg 18 rfl rfl rfl rfl rfl rfl hf (by kernel_rfl) (fun _ => trivial) (fun w => rq_leK hf rfl rfl) fun a hf => ?_
     refine zp 19 hf trivial fun a hf => ?_
     refine zp 21 hf trivial fun a hf => ?_
     refine dn (by kernel_rfl) ?_
     have hf := hf.pn [0, 3, 4, 5, 7, 8, 26, 27, 28, 29]
     refine then_n (sq ?_)
     obtain ⟨c3, hGc3, hR1⟩ := bind_some hR1
     have fh3 := hf.prune [0, 7, 8, 26, 27, 28, 29] rfl
     have Hm3 := H.lt_ [] [] [] []
     refine midF 40 (.bool c3) fh3 Hm3 ?_ fun a w hf H => ?_
     ·refine reg (pz 3 hf fun a hf => ?_)
      refine iteB hGc3 (fun hc11 hGc3 => ?_) fun hc11 hGc3 => ?_
      ·have hf := hf.lit 33 rfl hc11
       refine pz 3 hf fun a hf => ?_
       refine iteB hGc3 (fun hc12 hGc3 => ?_) fun hc12 hGc3 => ?_
       ·have hf := hf.lit 36 rfl hc12
        refine pz 4 hf fun a hf => ?_
        obtain rfl := Option.some.inj hGc3
        have hf := hf.pn [40, 0, 7, 8, 26, 27, 28, 29]
        have H := H.lt_ [] [] [] []
        exact wl_end ⟨hf, H⟩
       ·have hf := hf.lit 36 rfl hc12
        refine pz 4 hf fun a hf => ?_
        obtain rfl := Option.some.inj hGc3
        have hf := hf.pn [40, 0, 7, 8, 26, 27, 28, 29]
        have H := H.lt_ [] [] [] []
        exact wl_end ⟨hf, H⟩
      ·have hf := hf.lit 33 rfl hc11
       refine pz 3 hf fun a hf => ?_
       refine wlsu hf rfl rfl rfl rfl (by decide) fun a hf => ?_
       refine wlsu hf rfl rfl rfl rfl (by decide) fun a hf => ?_
       refine pz 2 hf fun a hf => ?_
       obtain rfl := Option.some.inj hGc3
       have hf := hf.pn [40, 0, 7, 8, 26, 27, 28, 29]
       have H := H.lt_ [] [] [] []
       exact wl_end ⟨hf, H⟩
     refine then_n (ib hR1 hf (fun hc13 hR1 => ?_) fun hc13 hR1 => ?_)
     ·refine sqz (pz 1 hf fun a hf => ?_)
      refine wl_end (then_n (wp_ret (blk_r (then_r (then_r (blk_r (then_r (then_r (?_)))))))))
      obtain rfl := Option.some.inj hR1
      replace hF := on_ret hF
      obtain rfl := Option.some.inj hF
      refine ret_1 hf rfl (rv_tmp hf rfl) ?_
      exact ⟨_, rfl, H.bel, mk_bool⟩
     ·refine wp_skip (blk_n (then_n (reg (pz 2 hf fun a hf => ?_))))
      refine wl_end ?_
      have hf := hf.pn [0, 7, 8]
      have H := H.lt_ [] [] [] []
      exact then_n ⟨w64 (i + 1), hR1, hf, H⟩
    ·have hf := hf.lit 25 rfl hc10
     refine zU 15 hf trivial fun a hf => ?_
     refine zU 16 hf trivial fun a hf => ?_
     refine zU 17 hf trivial fun a hf => ?_
     refine zU 18 hf trivial fun a hf => ?_
     refine zp 19 hf trivial fun a hf => ?_
     refine zp 21 hf trivial fun a hf => ?_
     refine dn (by kernel_rfl) ?_
     have hf := hf.pn [0, 3, 4, 5, 7, 8]
     refine then_n (sq ?_)
     obtain ⟨c4, hGc4, hR1⟩ := bind_some hR1
     have fh4 := hf.prune [0, 7, 8] rfl
     have Hm4 := H.lt_ [] [] [] []
     refine midF 40 (.bool c4) fh4 Hm4 ?_ fun a w hf H => ?_
     ·refine reg (pz 3 hf fun a hf => ?_)
      refine iteB hGc4 (fun hc14 hGc4 => ?_) fun hc14 hGc4 => ?_
      ·have hf := hf.lit 33 rfl hc14
       refine pz 3 hf fun a hf => ?_
       refine iteB hGc4 (fun hc15 hGc4 => ?_) fun hc15 hGc4 => ?_
       ·have hf := hf.lit 36 rfl hc15
        refine pz 4 hf fun a hf => ?_
        obtain rfl := Option.some.inj hGc4
        have hf := hf.pn [40, 0, 7, 8]
        have H := H.lt_ [] [] [] []
        exact wl_end ⟨hf, H⟩
       ·have hf := hf.lit 36 rfl hc15
        refine pz 4 hf fun a hf => ?_
        obtain rfl := Option.some.inj hGc4
        have hf := hf.pn [40, 0, 7, 8]
        have H := H.lt_ [] [] [] []
        exact wl_end ⟨hf, H⟩
      ·have hf := hf.lit 33 rfl hc14
       refine pz 3 hf fun a hf => ?_
       refine wlsu hf rfl rfl rfl rfl (by decide) fun a hf => ?_
       refine wlsu hf rfl rfl rfl rfl (by decide) fun a hf => ?_
       refine pz 2 hf fun a hf => ?_
       obtain rfl := Option.some.inj hGc4
       have hf := hf.pn [40, 0, 7, 8]
       have H := H.lt_ [] [] [] []
       exact wl_end ⟨hf, H⟩
     refine then_n (ib hR1 hf (fun hc16 hR1 => ?_) fun hc16 hR1 => ?_)
     ·refine sqz (pz 1 hf fun a hf => ?_)
      refine wl_end (then_n (wp_ret (blk_r (then_r (then_r (blk_r (then_r (then_r (?_)))))))))
      obtain rfl := Option.some.inj hR1
      replace hF := on_ret hF
      obtain rfl := Option.some.inj hF
      refine ret_1 hf rfl (rv_tmp hf rfl) ?_
      exact ⟨_, rfl, H.bel, mk_bool⟩
     ·refine wp_skip (blk_n (then_n (reg (pz 2 hf fun a hf => ?_))))
      refine wl_end ?_
      have hf := hf.pn [0, 7, 8]
      have H := H.lt_ [] [] [] []
      exact then_n ⟨w64 (i + 1), hR1, hf, H⟩
  ·refine wp_exit (then_x (then_x (blk_e (?_))))
   have hf := hf.pn [0, 7, 8]
   have H := H.lt_ [] [] [] []
   exact ⟨i, (Option.some.inj hR1).symm, hf, H⟩
 rintro a w ⟨i2, rfl, hf, H⟩
 replace hF := on_next hF
 refine then_n (sqz (pz 2 hf fun a hf => ?_))
 obtain ⟨y, hy, hF⟩ := bind_some hF
 refine oc hf TF.cl93 (impl_within_ok (S := TT) mk_int mk_int mk_int hy) fun v w a hp hf => ?_
 obtain ⟨hb, hp⟩ := hp
 obtain rfl := VR_bool hp
 have H := H.keep hb
 refine pz 1 hf fun a hf => ?_
 refine wl_end (then_n (wp_ret (?_)))
 obtain rfl := Option.some.inj hF
 refine ret_1 hf rfl (rv_tmp hf rfl) ?_
 exact ⟨_, rfl, H.bel, mk_bool⟩

/- slices.Index[[]string,string] -/
theorem slices_Index_string_string_ok {S : Nat → Prop} {v0_ : Value} {v1_ : Value} {s' : List ByteArray} {v : ByteArray} {r : Int} (h0 : VR w0 S v0_ s') (h1 : VR w0 S v1_ v) (hF : slices_Index_string_string fu s' v = some r) :
    Calls Tryz.prog 191 [v0_, v1_].toArray w0 fun e w' => ∃ v, e = .returned v ∧ (Below w0.heap.size w0 w' ∧ VR w' (St ⟨w0, []⟩ S [] [] [] true) v r) := by
 obtain ⟨A, c, rfl, hl⟩ := VR_list h0
 obtain rfl := VR_str h1
 have H := Mem.start ⟨w0, []⟩ S
 have H := H.pushArg (MP.val [(.slice A s'.length c)] s') hl
 refine en Tryz.func191 fun a hf => ?_
 rw [slices_Index_string_string] at hF
 refine sqz (pz 1 hf fun a hf => ?_)
 refine wl_end (then_n (sq (sqz (pz 3 hf fun a hf => ?_))))
 refine wl_end (then_n ?_)
 obtain ⟨out', hB1, hF⟩ := bind_some hF
 have hf := hf.pn [0, 1, 7, 8]
 have H := H.lt_ [] [] [] [0]
 refine loopC (fun (s : Int) (a : Act) (w : World) => match s with | i => Fr a 19 [(0, (.slice A s'.length c)), (1, (.string v)), (7, (.int .i64 (s'.length : Int))), (8, (.int .i64 i))] ∧ Mem ⟨w0, []⟩ S [] [] [] [(false, MP.val [(.slice A s'.length c)] (s' : List ByteArray))] w) (fun k (s : Int) => slices_Index_string_string_L1 fu s' v k s = some out') (fun s => out' = Out.next s) 0 fu hB1 ⟨hf, H⟩ (fun s h => by cases h) ?_ ?_
 ·rintro fk i a w hR1 hI
  replace hR1 : slices_Index_string_string_L1 fu s' v (fk + 1) i = some out' := hR1
  rw [slices_Index_string_string_L1] at hR1
  obtain ⟨hf, H⟩ := hI
  refine sqz (pz 1 hf fun a hf => ?_)
  refine wl_end (then_n (sq (ib hR1 hf (fun hc hR1 => ?_) fun hc hR1 => ?_)))
  ·refine wp_skip (then_n (sq (wp_block (sqz (pz 2 hf fun a hf => ?_)))))
   refine wr (pz 3 hf fun a hf => ?_)
   obtain ⟨e, he, hR1⟩ := bind_some hR1
   refine wl0 rfl (op_iaddr hf H Tryz.underlying22 TF.sz9 0 rfl rfl rfl he (by decide) fun p o cs a hf hr H => ?_)
   obtain rfl := hr
   refine oq hf (rq_loadI hf H TF.ls9 0 0 rfl rfl rfl) fun a hf => ?_
   refine pz 1 hf fun a hf => ?_
   refine wl_end (then_n (ib hR1 hf (fun hc2 hR1 => ?_) fun hc2 hR1 => ?_))
   ·refine sqz (pz 2 hf fun a hf => ?_)
    have hf := hf.pn [4]
    refine wl_end (then_n (wp_ret (blk_r (then_r (then_r (blk_r (then_r (then_r (?_)))))))))
    obtain rfl := Option.some.inj hR1
    replace hF := on_ret hF
    obtain rfl := Option.some.inj hF
    refine ret_1 hf rfl (rv_tmp hf rfl) ?_
    exact ⟨_, rfl, H.bel, mk_int⟩
   ·refine wp_skip (blk_n (then_n (reg (pz 2 hf fun a hf => ?_))))
    refine wl_end ?_
    have hf := hf.pn [0, 1, 7, 8]
    have H := H.lt_ [] [] [] [1]
    exact then_n ⟨w64 (i + 1), hR1, hf, H⟩
  ·refine wp_exit (then_x (then_x (blk_e (?_))))
   have hf := hf.pn [0, 1, 7, 8]
   have H := H.lt_ [] [] [] [0]
   exact ⟨i, (Option.some.inj hR1).symm, hf, H⟩
 rintro a w ⟨i2, rfl, hf, H⟩
 replace hF := on_next hF
 refine then_n (sqz (pz 1 hf fun a hf => ?_))
 refine wl_end (then_n (wp_ret (?_)))
 obtain rfl := Option.some.inj hF
 refine ret_1 hf rfl (rv_tmp hf rfl) ?_
 exact ⟨_, rfl, H.bel, mk_int⟩

/- slices.Contains[[]string,string] -/
theorem slices_Contains_string_string_ok {S : Nat → Prop} {v0_ : Value} {v1_ : Value} {s' : List ByteArray} {v : ByteArray} {r : Bool} (h0 : VR w0 S v0_ s') (h1 : VR w0 S v1_ v) (hF : slices_Contains_string_string fu s' v = some r) :
    Calls Tryz.prog 154 [v0_, v1_].toArray w0 fun e w' => ∃ v, e = .returned v ∧ (Below w0.heap.size w0 w' ∧ VR w' (St ⟨w0, []⟩ S [] [] [] true) v r) := by
 obtain ⟨A, c, rfl, hl⟩ := VR_list h0
 obtain rfl := VR_str h1
 have H := Mem.start ⟨w0, []⟩ S
 have H := H.pushArg (MP.val [(.slice A s'.length c)] s') hl
 refine en Tryz.func154 fun a hf => ?_
 rw [slices_Contains_string_string] at hF
 refine sqz (pz 1 hf fun a hf => ?_)
 refine wr (pz 2 hf fun a hf => ?_)
 obtain ⟨y, hy, hF⟩ := bind_some hF
 refine oc hf TF.cl191 (slices_Index_string_string_ok (S := TT) (mk_list (H.rt 0 rfl)) mk_str hy) fun v2 w a hp hf => ?_
 obtain ⟨hb, hp⟩ := hp
 obtain rfl := VR_int hp
 have H := H.keep hb
 refine pz 2 hf fun a hf => ?_
 refine wl_end (then_n (wp_ret (?_)))
 obtain rfl := Option.some.inj hF
 refine ret_1 hf rfl (rv_tmp hf rfl) ?_
 exact ⟨_, rfl, H.bel, mk_bool⟩

/- cmp.isNaN[int] -/
theorem cmp_isNaN_int_ok {S : Nat → Prop} {v0_ : Value} {x1 : Int} {r : Bool} (h0 : VR w0 S v0_ x1) (hF : cmp_isNaN_int fu x1 = some r) :
    Calls Tryz.prog 210 [v0_].toArray w0 fun e w' => ∃ v, e = .returned v ∧ (Below w0.heap.size w0 w' ∧ VR w' (St ⟨w0, []⟩ S [] [] [] true) v r) := by
 obtain rfl := VR_int h0
 have H := Mem.start ⟨w0, []⟩ S
 refine en Tryz.func210 fun a hf => ?_
 rw [cmp_isNaN_int] at hF
 refine sqz (pz 1 hf fun a hf => ?_)
 refine wr (pz 4 hf fun a hf => ?_)
 refine wl_end (then_n (wp_ret (?_)))
 obtain rfl := Option.some.inj hF
 refine ret_1 hf rfl (rv_tmp hf rfl) ?_
 exact ⟨_, rfl, H.bel, mk_bool⟩

/- cmp.Compare[int] -/
theorem cmp_Compare_int_ok {S : Nat → Prop} {v0_ : Value} {v1_ : Value} {x1 : Int} {y : Int} {r : Int} (h0 : VR w0 S v0_ x1) (h1 : VR w0 S v1_ y) (hF : cmp_Compare_int fu x1 y = some r) :
    Calls Tryz.prog 193 [v0_, v1_].toArray w0 fun e w' => ∃ v, e = .returned v ∧ (Below w0.heap.size w0 w' ∧ VR w' (St ⟨w0, []⟩ S [] [] [] true) v r) := by
 obtain rfl := VR_int h0
 obtain rfl := VR_int h1
 have H := Mem.start ⟨w0, []⟩ S
 refine en Tryz.func193 fun a hf => ?_
 rw [cmp_Compare_int] at hF
 refine sqz (pz 1 hf fun a hf => ?_)
 refine wr (pz 1 hf fun a hf => ?_)
 obtain ⟨y2, hy2, hF⟩ := bind_some hF
 refine oc hf TF.cl210 (cmp_isNaN_int_ok (S := TT) mk_int hy2) fun v w a hp hf => ?_
 obtain ⟨hb, hp⟩ := hp
 obtain rfl := VR_bool hp
 have H := H.keep hb
 refine pz 1 hf fun a hf => ?_
 refine wr (pz 1 hf fun a hf => ?_)
 obtain ⟨y3, hy3, hF⟩ := bind_some hF
 refine oc hf TF.cl210 (cmp_isNaN_int_ok (S := TT) mk_int hy3) fun v2 w a hp2 hf => ?_
 obtain ⟨hb2, hp2⟩ := hp2
 obtain rfl := VR_bool hp2
 have H := H.keep hb2
 refine pz 1 hf fun a hf => ?_
 refine wl_end (then_n (sq (sqz (pz 1 hf fun a hf => ?_))))
 refine wl_end (then_n (ib hF hf (fun hc hF => ?_) fun hc hF => ?_))
 ·refine sq (sqz (pz 1 hf fun a hf => ?_))
  refine wl_end (then_n (ib hF hf (fun hc2 hF => ?_) fun hc2 hF => ?_))
  ·refine sqz (pz 1 hf fun a hf => ?_)
   refine wl_end (then_n (wp_ret (then_r (then_r (?_)))))
   obtain rfl := Option.some.inj hF
   refine ret_1 hf rfl (rv_tmp hf rfl) ?_
   exact ⟨_, rfl, H.bel, mk_int⟩
  ·refine wp_skip (then_n (sqz (pz 1 hf fun a hf => ?_)))
   refine wl_end (then_n (wp_ret (then_r (?_))))
   obtain rfl := Option.some.inj hF
   refine ret_1 hf rfl (rv_tmp hf rfl) ?_
   exact ⟨_, rfl, H.bel, mk_int⟩
 ·refine wp_skip (then_n (sq (sqz (pz 1 hf fun a hf => ?_))))
  refine wl_end (then_n (ib hF hf (fun hc3 hF => ?_) fun hc3 hF => ?_))
  ·refine sqz (pz 1 hf fun a hf => ?_)
   refine wl_end (then_n (wp_ret (then_r (?_))))
   obtain rfl := Option.some.inj hF
   refine ret_1 hf rfl (rv_tmp hf rfl) ?_
   exact ⟨_, rfl, H.bel, mk_int⟩
  ·refine wp_skip (then_n (sq (sqz (pz 3 hf fun a hf => ?_))))
   refine wl_end (then_n (ib hF hf (fun hc4 hF => ?_) fun hc4 hF => ?_))
   ·refine sqz (pz 1 hf fun a hf => ?_)
    have hf := hf.pn [4]
    refine wl_end (then_n (wp_ret (then_r (?_))))
    obtain rfl := Option.some.inj hF
    refine ret_1 hf rfl (rv_tmp hf rfl) ?_
    exact ⟨_, rfl, H.bel, mk_int⟩
   ·refine wp_skip (then_n (sq (sqz (pz 3 hf fun a hf => ?_))))
    have hf := hf.pn [19]
    refine wl_end (then_n (ib hF hf (fun hc5 hF => ?_) fun hc5 hF => ?_))
    ·refine sqz (pz 1 hf fun a hf => ?_)
     refine wl_end (then_n (wp_ret (then_r (?_))))
     obtain rfl := Option.some.inj hF
     refine ret_1 hf rfl (rv_tmp hf rfl) ?_
     exact ⟨_, rfl, H.bel, mk_int⟩
    ·refine wp_skip (then_n (sqz (pz 1 hf fun a hf => ?_)))
     refine wl_end (then_n (wp_ret (?_)))
     obtain rfl := Option.some.inj hF
     refine ret_1 hf rfl (rv_tmp hf rfl) ?_
     exact ⟨_, rfl, H.bel, mk_int⟩

/- cmp.Or[int] -/
theorem cmp_Or_int_ok {S : Nat → Prop} {v0_ : Value} {vals : List Int} {r : Int} (h0 : VR w0 S v0_ vals) (hF : cmp_Or_int fu vals = some r) :
    Calls Tryz.prog 192 [v0_].toArray w0 fun e w' => ∃ v, e = .returned v ∧ (Below w0.heap.size w0 w' ∧ VR w' (St ⟨w0, []⟩ S [] [] [] true) v r) := by
 obtain ⟨A, c, rfl, hl⟩ := VR_list h0
 have H := Mem.start ⟨w0, []⟩ S
 have H := H.pushArg (MP.val [(.slice A vals.length c)] vals) hl
 refine en Tryz.func192 fun a hf => ?_
 rw [cmp_Or_int] at hF
 refine sqz (pz 1 hf fun a hf => ?_)
 refine wr (pz 1 hf fun a hf => ?_)
 refine wl_end (then_n (sq (sqz (pz 3 hf fun a hf => ?_))))
 refine wl_end (then_n ?_)
 obtain ⟨out', hB1, hF⟩ := bind_some hF
 have hf := hf.pn [3, 6, 7, 8]
 have H := H.lt_ [] [] [] [0]
 refine loopC (fun (s : Int) (a : Act) (w : World) => match s with | i => Fr a 18 [(3, (.int .i64 0)), (6, (.slice A vals.length c)), (7, (.int .i64 (vals.length : Int))), (8, (.int .i64 i))] ∧ Mem ⟨w0, []⟩ S [] [] [] [(false, MP.val [(.slice A vals.length c)] (vals : List Int))] w) (fun k (s : Int) => cmp_Or_int_L1 fu vals k s = some out') (fun s => out' = Out.next s) 0 fu hB1 ⟨hf, H⟩ (fun s h => by cases h) ?_ ?_
 ·rintro fk i a w hR1 hI
  replace hR1 : cmp_Or_int_L1 fu vals (fk + 1) i = some out' := hR1
  rw [cmp_Or_int_L1] at hR1
  obtain ⟨hf, H⟩ := hI
  refine sqz (pz 1 hf fun a hf => ?_)
  refine wl_end (then_n (sq (ib hR1 hf (fun hc hR1 => ?_) fun hc hR1 => ?_)))
  ·refine wp_skip (then_n (sq (wp_block (sq (reg ?_)))))
   obtain ⟨e, he, hR1⟩ := bind_some hR1
   refine wl0 rfl (op_iaddr hf H Tryz.underlying29 TF.sz3 0 rfl rfl rfl he (by decide) fun p o cs a hf hr H => ?_)
   obtain rfl := hr
   refine oq hf (rq_loadI hf H TF.ls3 0 0 rfl rfl rfl) fun a hf => ?_
   refine pz 1 hf fun a hf => ?_
   refine wr (pz 3 hf fun a hf => ?_)
   refine wl_end (then_n (ib hR1 hf (fun hc2 hR1 => ?_) fun hc2 hR1 => ?_))
   ·refine sqz (pz 2 hf fun a hf => ?_)
    refine wl_end (then_n (wp_ret (blk_r (then_r (then_r (blk_r (then_r (then_r (?_)))))))))
    obtain rfl := Option.some.inj hR1
    replace hF := on_ret hF
    obtain rfl := Option.some.inj hF
    refine ret_1 hf rfl (rv_tmp hf rfl) ?_
    exact ⟨_, rfl, H.bel, mk_int⟩
   ·refine wp_skip (blk_n (then_n (reg (pz 2 hf fun a hf => ?_))))
    refine wl_end ?_
    have hf := hf.pn [3, 6, 7, 8]
    have H := H.lt_ [] [] [] [1]
    exact then_n ⟨w64 (i + 1), hR1, hf, H⟩
  ·refine wp_exit (then_x (then_x (blk_e (?_))))
   have hf := hf.pn [3, 6, 7, 8]
   have H := H.lt_ [] [] [] [0]
   exact ⟨i, (Option.some.inj hR1).symm, hf, H⟩
 rintro a w ⟨i2, rfl, hf, H⟩
 replace hF := on_next hF
 refine then_n (sqz (pz 2 hf fun a hf => ?_))
 refine wl_end (then_n (wp_ret (?_)))
 obtain rfl := Option.some.inj hF
 refine ret_1 hf rfl (rv_tmp hf rfl) ?_
 exact ⟨_, rfl, H.bel, mk_int⟩

theorem impl_compareFibers_ok {S : Nat → Prop} {v0_ : Value} {v1_ : Value} {a' : Fiber} {b' : Fiber} {r : Int} (h0 : VR w0 S v0_ a') (h1 : VR w0 S v1_ b') (hF : impl_compareFibers fu a' b' = some r) :
    Calls Tryz.prog 155 [v0_, v1_].toArray w0 fun e w' => ∃ v, e = .returned v ∧ (Below w0.heap.size w0 w' ∧ VR w' (St ⟨w0, []⟩ S [] [] [] true) v r) := by
 obtain rfl := Fiber_open h0
 obtain rfl := Fiber_open h1
 have H := Mem.start ⟨w0, []⟩ S
 refine en Tryz.func155 fun a hf => ?_
 rw [impl_compareFibers] at hF
 refine sq (reg (wl0 rfl (op_box hf H rfl rfl (by decide) fun b2 a w hf H => ?_)))
 refine wl0 rfl (op_box hf H rfl rfl (by decide) fun b3 a w hf H => ?_)
 refine pz 1 hf fun a hf => ?_
 refine wl_end (then_n (sq (drawn [] (bs := [false, false, false, false, false, false, false, false, false, false, false, false, false, false, false, false, false, false, false, false, false, false, false]) (fuel := 23) (Checked.mixed Tryz.checked) rfl rfl fun w hb => ?_)))
 have H := H.keep hb
 refine zp 0 hf trivial fun a hf => ?_
 refine strT (H.let [false, true] [] [] [] rfl rfl rfl rfl) (fun w H => trivial) fun hS => ?_
 refine tS 1 [] rfl rfl rfl rfl hf (by kernel_rfl) (by kernel_rfl) hS (fun w H => rq_loadB hf H TF.ls3 0 rfl rfl rfl) fun a hf => ?_
 refine zp 2 hf hS fun a hf => ?_
 refine strT H (fun w H => H.let [false, true] [] [] [] rfl rfl rfl rfl) fun hS => ?_
 refine tS 3 [] rfl rfl rfl rfl hf (by kernel_rfl) (by kernel_rfl) hS (fun w H => rq_loadB hf H TF.ls3 0 rfl rfl rfl) fun a hf => ?_
 refine zp 5 hf hS fun a hf => ?_
 refine tS 6 [] rfl rfl rfl rfl hf (by kernel_rfl) (by kernel_rfl) hS (fun w H => rq_loadB hf H TF.ls3 1 rfl rfl rfl) fun a hf => ?_
 refine zp 7 hf hS fun a hf => ?_
 refine tS 8 [] rfl rfl rfl rfl hf (by kernel_rfl) (by kernel_rfl) hS (fun w H => rq_loadB hf H TF.ls3 0 rfl rfl rfl) fun a hf => ?_
 refine zp 10 hf hS fun a hf => ?_
 refine tS 11 [] rfl rfl rfl rfl hf (by kernel_rfl) (by kernel_rfl) hS (fun w H => rq_loadB hf H TF.ls3 1 rfl rfl rfl) fun a hf => ?_
 refine zp 12 hf hS fun a hf => ?_
 refine tS 13 [] rfl rfl rfl rfl hf (by kernel_rfl) (by kernel_rfl) hS (fun w H => rq_loadB hf H TF.ls3 0 rfl rfl rfl) fun a hf => ?_
 refine zp 15 hf hS fun a hf => ?_
 refine tS 16 [] rfl rfl rfl rfl hf (by kernel_rfl) (by kernel_rfl) hS (fun w H => rq_loadB hf H TF.ls3 1 rfl rfl rfl) fun a hf => ?_
 refine zp 17 hf hS fun a hf => ?_
 refine tS 18 [] rfl rfl rfl rfl hf (by kernel_rfl) (by kernel_rfl) hS (fun w H => rq_loadB hf H TF.ls3 0 rfl rfl rfl) fun a hf => ?_
 obtain ⟨y, hy, hF⟩ := bind_some hF
 refine n1 4 (by kernel_rfl) rfl rfl (op_call hf TF.cl193 rfl (by decide) (cmp_Compare_int_ok (S := TT) mk_int mk_int hy) fun v w a hp hf => ?_)
 obtain ⟨hb, hp⟩ := hp
 obtain rfl := VR_int hp
 have H := H.keep hb
 have hS := H
 refine ⟨fun _ => hS, ?_⟩
 obtain ⟨y2, hy2, hF⟩ := bind_some hF
 refine n1 9 (by kernel_rfl) rfl rfl (op_call hf TF.cl193 rfl (by decide) (cmp_Compare_int_ok (S := TT) mk_int mk_int hy2) fun v2 w a hp2 hf => ?_)
 obtain ⟨hb2, hp2⟩ := hp2
 obtain rfl := VR_int hp2
 have H := H.keep hb2
 have hS := H
 refine ⟨fun _ => hS, ?_⟩
 obtain ⟨y3, hy3, hF⟩ := bind_some hF
 refine n1 14 (by kernel_rfl) rfl rfl (op_call hf TF.cl193 rfl (by decide) (cmp_Compare_int_ok (S := TT) mk_int mk_int hy3) fun v3 w a hp3 hf => ?_)
 obtain ⟨hb3, hp3⟩ := hp3
 obtain rfl := VR_int hp3
 have H := H.keep hb3
 have hS := H
 refine ⟨fun _ => hS, ?_⟩
 obtain ⟨y4, hy4, hF⟩ := bind_some hF
 refine n1 19 (by kernel_rfl) rfl rfl (op_call hf TF.cl193 rfl (by decide) (cmp_Compare_int_ok (S := TT) mk_int mk_int hy4) fun v4 w a hp4 hf => ?_)
 obtain ⟨hb4, hp4⟩ := hp4
 obtain rfl := VR_int hp4
 have H := H.keep hb4
 have hS := H
 refine ⟨fun _ => hS, ?_⟩
 refine n1 20 (by kernel_rfl) rfl rfl (op_bslice hf H (.sh true) rfl 3 ([y, y2, y3, y4] : List Int) [(.int .i64 y), (.int .i64 y2), (.int .i64 y3), (.int .i64 y4)] rfl (fun w => by kernel_rfl) rfl (by decide) rfl trivial (elI [y, y2, y3, y4]) (by decide) fun A a w hf H => ?_)
 have hS := H.lt_ [true, true] [false] [] []
 refine ⟨fun _ => hS, ?_⟩
 obtain ⟨y5, hy5, hF⟩ := bind_some hF
 refine n1 21 (by kernel_rfl) rfl rfl (op_call hf TF.cl192 rfl (by decide) (cmp_Or_int_ok (S := TT) (mk_list (H.rowTrue 0 rfl)) hy5) fun v5 w a hp5 hf => ?_)
 obtain ⟨hb5, hp5⟩ := hp5
 obtain rfl := VR_int hp5
 have H := H.keep hb5
 have hS := H.lt_ [true, true] [false] [] []
 refine ⟨fun _ => hS, ?_⟩
 refine zp 22 hf hS fun a hf => ?_
 refine dn (by kernel_rfl) ?_
 have hf := hf.pn [4]
 refine then_n (wp_ret (?_))
 obtain rfl := Option.some.inj hF
 refine ret_1 hf rfl (rv_tmp hf rfl) ?_
 exact ⟨_, rfl, H.bel, mk_int⟩

theorem impl_IsValidNetwork_ok {S : Nat → Prop} {v0_ : Value} {n' : Network} {r : Bool} (h0 : VR w0 S v0_ n') (hF : impl_IsValidNetwork fu n' = some r) :
    Calls Tryz.prog 102 [v0_].toArray w0 fun e w' => ∃ v, e = .returned v ∧ (Below w0.heap.size w0 w' ∧ VR w' (St ⟨w0, []⟩ S [] [] [] true) v r) := by
 obtain ⟨A, c, A2, c2, rfl, hl, hl2⟩ := Network_open h0
 have H := Mem.start ⟨w0, []⟩ S
 have H := H.pushArg (MP.val [(.slice A n'.Nodes.length c)] n'.Nodes) hl
 have H := H.pushArg (MP.val [(.slice A2 n'.Fibers.length c2)] n'.Fibers) hl2
 refine en Tryz.func102 fun a hf => ?_
 rw [impl_IsValidNetwork] at hF
 refine sq (reg (wl0 rfl (op_box hf H rfl rfl (by decide) fun b' a w hf H => ?_)))
 refine pz 1 hf fun a hf => ?_
 refine wl_end (then_n (sq (sqz (pz 1 hf fun a hf => ?_))))
 refine oq hf (rq_loadB hf H TF.ls22 0 rfl rfl rfl) fun a hf => ?_
 refine pz 2 hf fun a hf => ?_
 refine wl_end (then_n ?_)
 obtain ⟨out', hB1, hF⟩ := bind_some hF
 have hf := hf.pn [1, 8, 9, 10]
 have H := H.lt_ [true] [] [] [0, 1]
 refine loopC (fun (s : Int) (a : Act) (w : World) => match s with | i => Fr a 91 [(1, (.pointer (some ⟨b', 0, none⟩))), (8, (.slice A n'.Nodes.length c)), (9, (.int .i64 (n'.Nodes.length : Int))), (10, (.int .i64 i))] ∧ Mem ⟨w0, []⟩ S [⟨b', 42, [(.slice A n'.Nodes.length c), (.slice A2 n'.Fibers.length c2)]⟩] [] [] [(false, MP.val [(.slice A2 n'.Fibers.length c2)] (n'.Fibers : List Fiber)), (false, MP.val [(.slice A n'.Nodes.length c)] (n'.Nodes : List ByteArray))] w) (fun k (s : Int) => impl_IsValidNetwork_L1 fu n' k s = some out') (fun s => out' = Out.next s) 0 fu hB1 ⟨hf, H⟩ (fun s h => by cases h) ?_ ?_
 ·rintro fk i a w hR1 hI
  replace hR1 : impl_IsValidNetwork_L1 fu n' (fk + 1) i = some out' := hR1
  rw [impl_IsValidNetwork_L1] at hR1
  obtain ⟨hf, H⟩ := hI
  refine sqz (pz 1 hf fun a hf => ?_)
  refine wl_end (then_n (sq (ib hR1 hf (fun hc hR1 => ?_) fun hc hR1 => ?_)))
  ·refine wp_skip (then_n (sq (wp_block (sqz (pz 1 hf fun a hf => ?_)))))
   obtain ⟨e, he, hR1⟩ := bind_some hR1
   refine wl0 rfl (op_iaddr hf H Tryz.underlying22 TF.sz9 1 rfl rfl rfl he (by decide) fun p o cs a hf hr H => ?_)
   obtain rfl := hr
   refine oq hf (rq_loadI hf H TF.ls9 0 0 rfl rfl rfl) fun a hf => ?_
   refine pz 2 hf fun a hf => ?_
   refine wl_end (then_n (sq ?_))
   obtain ⟨c3, hGc3, hR1⟩ := bind_some hR1
   have fh := hf.prune [1, 8, 9, 10] rfl
   have Hm := H.lt_ [true] [] [] [1, 2]
   refine midF 25 (.bool c3) fh Hm ?_ fun a w hf H => ?_
   ·refine reg (pz 1 hf fun a hf => ?_)
    obtain ⟨y, hy, hGc3⟩ := bind_some hGc3
    refine oc hf TF.cl153 (impl_isName_ok (S := TT) mk_str hy) fun v w a hp hf => ?_
    obtain ⟨hb, hp⟩ := hp
    obtain rfl := VR_bool hp
    have H := H.keep hb
    refine pz 2 hf fun a hf => ?_
    refine iteB hGc3 (fun hc2 hGc3 => ?_) fun hc2 hGc3 => ?_
    ·have hf := hf.lit 18 rfl hc2
     refine pz 7 hf fun a hf => ?_
     obtain rfl := Option.some.inj hGc3
     have hf := hf.pn [25, 1, 8, 9, 10]
     have H := H.lt_ [true] [] [] [1, 2]
     exact wl_end ⟨hf, H⟩
    ·have hf := hf.lit 18 rfl hc2
     refine pz 1 hf fun a hf => ?_
     refine wlg hf rfl rfl rfl (op_q hf (rq_loadB hf H TF.ls22 0 rfl rfl rfl) rfl (by decide) fun a hf => ?_)
     refine pz 1 hf fun a hf => ?_
     obtain ⟨l, hl, hGc3⟩ := bind_some hGc3
     refine wlg hf rfl rfl rfl (op_sliceI hf H Tryz.underlying22 TF.sz9 2 rfl rfl rfl rfl hl (by decide) fun A3 c4 a hf H => ?_)
     refine pz 1 hf fun a hf => ?_
     obtain ⟨y2, hy2, hGc3⟩ := bind_some hGc3
     refine wlg hf rfl rfl rfl (op_call hf TF.cl154 rfl (by decide) (slices_Contains_string_string_ok (S := TT) (mk_list (H.rt 0 rfl)) mk_str hy2) fun v2 w a hp2 hf => ?_)
     obtain ⟨hb2, hp2⟩ := hp2
     obtain rfl := VR_bool hp2
     have H := H.keep hb2
     refine pz 1 hf fun a hf => ?_
     obtain rfl := Option.some.inj hGc3
     have hf := hf.pn [25, 1, 8, 9, 10]
     have H := H.lt_ [true] [] [] [2, 3]
     exact wl_end ⟨hf, H⟩
   refine then_n (ib hR1 hf (fun hc3 hR1 => ?_) fun hc3 hR1 => ?_)
   ·refine sqz (pz 1 hf fun a hf => ?_)
    refine wl_end (then_n (wp_ret (blk_r (then_r (then_r (blk_r (then_r (then_r (?_)))))))))
    obtain rfl := Option.some.inj hR1
    replace hF := on_ret hF
    obtain rfl := Option.some.inj hF
    refine ret_1 hf rfl (rv_tmp hf rfl) ?_
    exact ⟨_, rfl, H.bel, mk_bool⟩
   ·refine wp_skip (blk_n (then_n (reg (pz 2 hf fun a hf => ?_))))
    refine wl_end ?_
    have hf := hf.pn [1, 8, 9, 10]
    have H := H.lt_ [true] [] [] [0, 1]
    exact then_n ⟨w64 (i + 1), hR1, hf, H⟩
  ·refine wp_exit (then_x (then_x (blk_e (?_))))
   have hf := hf.pn [1, 8, 9, 10]
   have H := H.lt_ [true] [] [] [0, 1]
   exact ⟨i, (Option.some.inj hR1).symm, hf, H⟩
 rintro a w ⟨i2, rfl, hf, H⟩
 replace hF := on_next hF
 refine then_n (sq (sqz (pz 1 hf fun a hf => ?_)))
 refine oq hf (rq_loadB hf H TF.ls40 0 rfl rfl rfl) fun a hf => ?_
 refine pz 2 hf fun a hf => ?_
 refine wl_end (then_n ?_)
 obtain ⟨out2, hB1, hF⟩ := bind_some hF
 have hf := hf.pn [1, 28, 29, 30]
 have H := H.lt_ [true] [] [] [0, 1]
 refine loopC (fun (s : Int) (a : Act) (w : World) => match s with | i3 => Fr a 91 [(1, (.pointer (some ⟨b', 0, none⟩))), (28, (.slice A2 n'.Fibers.length c2)), (29, (.int .i64 (n'.Fibers.length : Int))), (30, (.int .i64 i3))] ∧ Mem ⟨w0, []⟩ S [⟨b', 42, [(.slice A n'.Nodes.length c), (.slice A2 n'.Fibers.length c2)]⟩] [] [] [(false, MP.val [(.slice A2 n'.Fibers.length c2)] (n'.Fibers : List Fiber)), (false, MP.val [(.slice A n'.Nodes.length c)] (n'.Nodes : List ByteArray))] w) (fun k (s : Int) => impl_IsValidNetwork_L2 fu n' k s = some out2) (fun s => out2 = Out.next s) 0 fu hB1 ⟨hf, H⟩ (fun s h => by cases h) ?_ ?_
 ·rintro fk i3 a w hR1 hI
  replace hR1 : impl_IsValidNetwork_L2 fu n' (fk + 1) i3 = some out2 := hR1
  rw [impl_IsValidNetwork_L2] at hR1
  obtain ⟨hf, H⟩ := hI
  refine sqz (pz 1 hf fun a hf => ?_)
  refine wl_end (then_n (sq (ib hR1 hf (fun hc4 hR1 => ?_) fun hc4 hR1 => ?_)))
  ·refine wp_skip (then_n (sq (wp_block (sqz (pz 1 hf fun a hf => ?_)))))
   obtain ⟨e2, he2, hR1⟩ := bind_some hR1
   refine wl0 rfl (op_iaddr hf H Tryz.underlying40 TF.sz164 0 rfl rfl rfl he2 (by decide) fun p2 o2 cs2 a hf hr2 H => ?_)
   obtain rfl := Fiber_cells hr2
   refine oq hf (rq_loadIN hf H TF.la164 0 0 rfl rfl rfl rfl) fun a hf => ?_
   refine wl0 rfl (op_alloc hf H TF.zv164 rfl (by decide) fun b2 a w hf H => ?_)
   refine pz 1 hf fun a hf => ?_
   refine wl0 rfl (op_storeB hf H 0 TF.sz164 rfl rfl rfl rfl rfl rfl (nle rfl) fun w H => ?_)
   refine wl_end (then_n (sq ?_))
   obtain ⟨c5, hGc5, hR1⟩ := bind_some hR1
   have fh2 := hf.prune [1, 28, 29, 30] rfl
   have Hm2 := H.lt_ [false, true] [] [] [1, 2]
   refine midF 79 (.bool c5) fh2 Hm2 ?_ fun a w hf H => ?_
   ·refine drawn [] (bs := [false, false, false, false, false, false, false, false, false, false, false, false, false, false, false, false, false, false, false, false, false, false, false, false, false, false, false, false, false, false, false, false, false, false, false, false, false, false, false, false, false, false, false, false, false]) (fuel := 45) (Checked.mixed Tryz.checked) rfl rfl fun w hb => ?_
    have H := H.keep hb
    refine zp 0 hf trivial fun a hf => ?_
    refine strT (H.let [true, false] [] [] [] rfl rfl rfl rfl) (fun w H => trivial) fun hS => ?_
    refine tS 1 [] rfl rfl rfl rfl hf (by kernel_rfl) (by kernel_rfl) hS (fun w H => rq_loadB hf H TF.ls3 0 rfl rfl rfl) fun a hf => ?_
    refine zp 2 hf hS fun a hf => ?_
    refine zp 3 hf hS fun a hf => ?_
    refine iteB hGc5 (fun hc5 hGc5 => ?_) fun hc5 hGc5 => ?_
    ·have hf := hf.lit 38 rfl hc5
     refine zU 4 hf hS fun a hf => ?_
     refine zU 5 hf hS fun a hf => ?_
     refine zU 6 hf hS fun a hf => ?_
     refine zU 7 hf hS fun a hf => ?_
     refine zU 8 hf hS fun a hf => ?_
     refine zp 9 hf hS fun a hf => ?_
     refine zp 10 hf hS fun a hf => ?_
     refine zU 11 hf hS fun a hf => ?_
     refine zU 12 hf hS fun a hf => ?_
     refine zU 13 hf hS fun a hf => ?_
     refine zU 14 hf hS fun a hf => ?_
     refine zU 15 hf hS fun a hf => ?_
     refine zU 16 hf hS fun a hf => ?_
     refine zp 17 hf hS fun a hf => ?_
     refine zp 18 hf hS fun a hf => ?_
     refine zU 19 hf hS fun a hf => ?_
     refine zU 20 hf hS fun a hf => ?_
     refine zU 21 hf hS fun a hf => ?_
     refine zU 22 hf hS fun a hf => ?_
     refine zp 23 hf hS fun a hf => ?_
     refine zp 24 hf hS fun a hf => ?_
     refine zU 25 hf hS fun a hf => ?_
     refine zU 26 hf hS fun a hf => ?_
     refine zU 27 hf hS fun a hf => ?_
     refine zU 28 hf hS fun a hf => ?_
     refine zp 29 hf hS fun a hf => ?_
     refine zp 30 hf hS fun a hf => ?_
     refine zU 31 hf hS fun a hf => ?_
     refine zU 32 hf hS fun a hf => ?_
     refine zU 33 hf hS fun a hf => ?_
     refine zV 34 hf hS fun a hf => ?_
     refine zV 35 hf hS fun a hf => ?_
     refine zV 36 hf hS fun a hf => ?_
     refine zV 37 hf hS fun a hf => ?_
     refine zV 38 hf hS fun a hf => ?_
     refine zV 39 hf hS fun a hf => ?_
     refine zV 40 hf hS fun a hf => ?_
     refine zV 41 hf hS fun a hf => ?_
     refine zV 42 hf hS fun a hf => ?_
     refine zU 43 hf hS fun a hf => ?_
     refine zp 44 hf hS fun a hf => ?_
     refine dn (by kernel_rfl) ?_
     obtain rfl := Option.some.inj hGc5
     have hf := hf.pn [79, 1, 28, 29, 30]
     have H := H.lt_ [false, true] [] [] [1, 2]
     exact ⟨hf, H⟩
    ·have hf := hf.lit 38 rfl hc5
     refine zg 4 hf hS fun a hf => ?_
     refine tSg 5 [] rfl rfl rfl rfl rfl rfl hf (by kernel_rfl) (by kernel_rfl) hS (fun w H => rq_loadB hf H TF.ls3 0 rfl rfl rfl) fun a hf => ?_
     refine zg 6 hf hS fun a hf => ?_
     refine tSg 7 [] rfl rfl rfl rfl rfl rfl hf (by kernel_rfl) (by kernel_rfl) hS (fun w H => rq_loadB hf H TF.ls3 0 rfl rfl rfl) fun a hf => ?_
     refine zg 8 hf hS fun a hf => ?_
     refine zp 9 hf hS fun a hf => ?_
     refine zp 10 hf hS fun a hf => ?_
     refine iteB hGc5 (fun hc6 hGc5 => ?_) fun hc6 hGc5 => ?_
     ·have hf := hf.lit 45 rfl hc6
      refine zU 11 hf hS fun a hf => ?_
      refine zU 12 hf hS fun a hf => ?_
      refine zU 13 hf hS fun a hf => ?_
      refine zU 14 hf hS fun a hf => ?_
      refine zU 15 hf hS fun a hf => ?_
      refine zU 16 hf hS fun a hf => ?_
      refine zp 17 hf hS fun a hf => ?_
      refine zp 18 hf hS fun a hf => ?_
      refine zU 19 hf hS fun a hf => ?_
      refine zU 20 hf hS fun a hf => ?_
      refine zU 21 hf hS fun a hf => ?_
      refine zU 22 hf hS fun a hf => ?_
      refine zp 23 hf hS fun a hf => ?_
      refine zp 24 hf hS fun a hf => ?_
      refine zU 25 hf hS fun a hf => ?_
      refine zU 26 hf hS fun a hf => ?_
      refine zU 27 hf hS fun a hf => ?_
      refine zU 28 hf hS fun a hf => ?_
      refine zp 29 hf hS fun a hf => ?_
      refine zp 30 hf hS fun a hf => ?_
      refine zU 31 hf hS fun a hf => ?_
      refine zU 32 hf hS fun a hf => ?_
      refine zU 33 hf hS fun a hf => ?_
      refine zV 34 hf hS fun a hf => ?_
      refine zV 35 hf hS fun a hf => ?_
      refine zV 36 hf hS fun a hf => ?_
      refine zV 37 hf hS fun a hf => ?_
      refine zV 38 hf hS fun a hf => ?_
      refine zV 39 hf hS fun a hf => ?_
      refine zV 40 hf hS fun a hf => ?_
      refine zV 41 hf hS fun a hf => ?_
      refine zV 42 hf hS fun a hf => ?_
      refine zU 43 hf hS fun a hf => ?_
      refine zp 44 hf hS fun a hf => ?_
      refine dn (by kernel_rfl) ?_
      obtain rfl := Option.some.inj hGc5
      have hf := hf.pn [79, 1, 28, 29, 30]
      have H := H.lt_ [false, true] [] [] [1, 2]
      exact ⟨hf, H⟩
     ·have hf := hf.lit 45 rfl hc6
      refine zg 11 hf hS fun a hf => ?_
      refine tSg 12 [] rfl rfl rfl rfl rfl rfl hf (by kernel_rfl) (by kernel_rfl) hS (fun w H => rq_loadB hf H TF.ls3 0 rfl rfl rfl) fun a hf => ?_
      refine zg 13 hf hS fun a hf => ?_
      refine strT (H.let [true, true] [] [] [] rfl rfl rfl rfl) (fun w H => H.let [true, false] [] [] [] rfl rfl rfl rfl) fun hS => ?_
      refine tSg 14 [] rfl rfl rfl rfl rfl rfl hf (by kernel_rfl) (by kernel_rfl) hS (fun w H => rq_loadB hf H TF.ls22 1 rfl rfl rfl) fun a hf => ?_
      refine zg 15 hf hS fun a hf => ?_
      refine zg 16 hf hS fun a hf => ?_
      refine zp 17 hf hS fun a hf => ?_
      refine zp 18 hf hS fun a hf => ?_
      refine iteB hGc5 (fun hc7 hGc5 => ?_) fun hc7 hGc5 => ?_
      ·have hf := hf.lit 53 rfl hc7
       refine zU 19 hf hS fun a hf => ?_
       refine zU 20 hf hS fun a hf => ?_
       refine zU 21 hf hS fun a hf => ?_
       refine zU 22 hf hS fun a hf => ?_
       refine zp 23 hf hS fun a hf => ?_
       refine zp 24 hf hS fun a hf => ?_
       refine zU 25 hf hS fun a hf => ?_
       refine zU 26 hf hS fun a hf => ?_
       refine zU 27 hf hS fun a hf => ?_
       refine zU 28 hf hS fun a hf => ?_
       refine zp 29 hf hS fun a hf => ?_
       refine zp 30 hf hS fun a hf => ?_
       refine zU 31 hf hS fun a hf => ?_
       refine zU 32 hf hS fun a hf => ?_
       refine zU 33 hf hS fun a hf => ?_
       refine zV 34 hf hS fun a hf => ?_
       refine zV 35 hf hS fun a hf => ?_
       refine zV 36 hf hS fun a hf => ?_
       refine zV 37 hf hS fun a hf => ?_
       refine zV 38 hf hS fun a hf => ?_
       refine zV 39 hf hS fun a hf => ?_
       refine zV 40 hf hS fun a hf => ?_
       refine zV 41 hf hS fun a hf => ?_
       refine zV 42 hf hS fun a hf => ?_
       refine zU 43 hf hS fun a hf => ?_
       refine zp 44 hf hS fun a hf => ?_
       refine dn (by kernel_rfl) ?_
       obtain rfl := Option.some.inj hGc5
       have hf := hf.pn [79, 1, 28, 29, 30]
       have H := H.lt_ [false, true] [] [] [1, 2]
       exact ⟨hf, H⟩
      ·have hf := hf.lit 53 rfl hc7
       refine zg 19 hf hS fun a hf => ?_
       refine tSg 20 [] rfl rfl rfl rfl rfl rfl hf (by kernel_rfl) (by kernel_rfl) hS (fun w H => rq_loadB hf H TF.ls3 0 rfl rfl rfl) fun a hf => ?_
       obtain ⟨y3, hy3, hGc5⟩ := bind_some hGc5
       refine n1g 21 (by kernel_rfl) rfl rfl rfl rfl hf (op_call hf TF.cl93 rfl (by decide) (impl_within_ok (S := TT) mk_int mk_int mk_int hy3) fun v3 w a hp3 hf => ?_)
       obtain ⟨hb3, hp3⟩ := hp3
       obtain rfl := VR_bool hp3
       have H := H.keep hb3
       have hS := H.lt_ [true, true] [] [] []
       refine ⟨fun _ => hS, ?_⟩
       refine zg 22 hf hS fun a hf => ?_
       refine zp 23 hf hS fun a hf => ?_
       refine zp 24 hf hS fun a hf => ?_
       refine iteB hGc5 (fun hc8 hGc5 => ?_) fun hc8 hGc5 => ?_
       ·have hf := hf.lit 59 rfl hc8
        refine zU 25 hf hS fun a hf => ?_
        refine zU 26 hf hS fun a hf => ?_
        refine zU 27 hf hS fun a hf => ?_
        refine zU 28 hf hS fun a hf => ?_
        refine zp 29 hf hS fun a hf => ?_
        refine zp 30 hf hS fun a hf => ?_
        refine zU 31 hf hS fun a hf => ?_
        refine zU 32 hf hS fun a hf => ?_
        refine zU 33 hf hS fun a hf => ?_
        refine zV 34 hf hS fun a hf => ?_
        refine zV 35 hf hS fun a hf => ?_
        refine zV 36 hf hS fun a hf => ?_
        refine zV 37 hf hS fun a hf => ?_
        refine zV 38 hf hS fun a hf => ?_
        refine zV 39 hf hS fun a hf => ?_
        refine zV 40 hf hS fun a hf => ?_
        refine zV 41 hf hS fun a hf => ?_
        refine zV 42 hf hS fun a hf => ?_
        refine zU 43 hf hS fun a hf => ?_
        refine zp 44 hf hS fun a hf => ?_
        refine dn (by kernel_rfl) ?_
        obtain rfl := Option.some.inj hGc5
        have hf := hf.pn [79, 1, 28, 29, 30]
        have H := H.lt_ [false, true] [] [] [1, 2]
        exact ⟨hf, H⟩
       ·have hf := hf.lit 59 rfl hc8
        refine zg 25 hf hS fun a hf => ?_
        refine tSg 26 [] rfl rfl rfl rfl rfl rfl hf (by kernel_rfl) (by kernel_rfl) hS (fun w H => rq_loadB hf H TF.ls3 0 rfl rfl rfl) fun a hf => ?_
        obtain ⟨y4, hy4, hGc5⟩ := bind_some hGc5
        refine n1g 27 (by kernel_rfl) rfl rfl rfl rfl hf (op_call hf TF.cl93 rfl (by decide) (impl_within_ok (S := TT) mk_int mk_int mk_int hy4) fun v4 w a hp4 hf => ?_)
        obtain ⟨hb4, hp4⟩ := hp4
        obtain rfl := VR_bool hp4
        have H := H.keep hb4
        have hS := H.lt_ [true, true] [] [] []
        refine ⟨fun _ => hS, ?_⟩
        refine zg 28 hf hS fun a hf => ?_
        refine zp 29 hf hS fun a hf => ?_
        refine zp 30 hf hS fun a hf => ?_
        refine iteB hGc5 (fun hc9 hGc5 => ?_) fun hc9 hGc5 => ?_
        ·have hf := hf.lit 65 rfl hc9
         refine zU 31 hf hS fun a hf => ?_
         refine zU 32 hf hS fun a hf => ?_
         refine zU 33 hf hS fun a hf => ?_
         refine zV 34 hf hS fun a hf => ?_
         refine zV 35 hf hS fun a hf => ?_
         refine zV 36 hf hS fun a hf => ?_
         refine zV 37 hf hS fun a hf => ?_
         refine zV 38 hf hS fun a hf => ?_
         refine zV 39 hf hS fun a hf => ?_
         refine zV 40 hf hS fun a hf => ?_
         refine zV 41 hf hS fun a hf => ?_
         refine zV 42 hf hS fun a hf => ?_
         refine zU 43 hf hS fun a hf => ?_
         refine zp 44 hf hS fun a hf => ?_
         refine dn (by kernel_rfl) ?_
         obtain rfl := Option.some.inj hGc5
         have hf := hf.pn [79, 1, 28, 29, 30]
         have H := H.lt_ [false, true] [] [] [1, 2]
         exact ⟨hf, H⟩
        ·have hf := hf.lit 65 rfl hc9
         refine zg 31 hf hS fun a hf => ?_
         refine zg 32 hf hS fun a hf => ?_
         refine zg 33 hf hS fun a hf => ?_
         refine iteB hGc5 (fun hc10 hGc5 => ?_) fun hc10 hGc5 => ?_
         ·have hf := hf.lit 68 rfl hc10
          refine zg 34 hf hS fun a hf => ?_
          refine tSg 35 [] rfl rfl rfl rfl rfl rfl hf (by kernel_rfl) (by kernel_rfl) hS (fun w H => rq_loadB hf H TF.ls40 1 rfl rfl rfl) fun a hf => ?_
          refine zg 36 hf hS fun a hf => ?_
          refine zg 37 hf hS fun a hf => ?_
          obtain ⟨e3, he3, hGc5⟩ := bind_some hGc5
          obtain ⟨p3, o3, cs3, hx, hr3, H⟩ := pre_iaddr H Tryz.underlying40 TF.sz164 1 rfl he3
          refine tPg 38 rfl rfl rfl rfl rfl rfl hf (by kernel_rfl) (fun _ => hS) (fun w => rq_iaddrE hf rfl rfl rfl hx w) fun a hf => ?_
          obtain rfl := Fiber_cells hr3
          refine strT (H.let [true, true] [] [] [0] rfl rfl rfl rfl) (fun w H => H.let [true, true] [] [] [] rfl rfl rfl rfl) fun hS => ?_
          refine tSg 39 [] rfl rfl rfl rfl rfl rfl hf (by kernel_rfl) (by kernel_rfl) hS (fun w H => rq_loadIN hf H TF.la164 0 0 rfl rfl rfl rfl) fun a hf => ?_
          refine tSg 40 [] rfl rfl rfl rfl rfl rfl hf (by kernel_rfl) (by kernel_rfl) hS (fun w H => rq_loadBN hf H TF.la164 0 rfl rfl rfl rfl) fun a hf => ?_
          obtain ⟨y5, hy5, hGc5⟩ := bind_some hGc5
          refine n1g 41 (by kernel_rfl) rfl rfl rfl rfl hf (op_call hf TF.cl155 rfl (by decide) (impl_compareFibers_ok (S := TT) Fiber_mkv Fiber_mkv hy5) fun v5 w a hp5 hf => ?_)
          obtain ⟨hb5, hp5⟩ := hp5
          obtain rfl := VR_int hp5
          have H := H.keep hb5
          have hS := H.lt_ [true, true] [] [] [0]
          refine ⟨fun _ => hS, ?_⟩
          refine zg 42 hf hS fun a hf => ?_
          refine zg 43 hf hS fun a hf => ?_
          refine zp 44 hf hS fun a hf => ?_
          refine dn (by kernel_rfl) ?_
          obtain rfl := Option.some.inj hGc5
          have hf := hf.pn [79, 1, 28, 29, 30]
          have H := H.lt_ [false, true] [] [] [2, 3]
          exact ⟨hf, H⟩
         ·have hf := hf.lit 68 rfl hc10
          refine zU 34 hf hS fun a hf => ?_
          refine zU 35 hf hS fun a hf => ?_
          refine zU 36 hf hS fun a hf => ?_
          refine zU 37 hf hS fun a hf => ?_
          refine zU 38 hf hS fun a hf => ?_
          refine zU 39 hf hS fun a hf => ?_
          refine zU 40 hf hS fun a hf => ?_
          refine zU 41 hf hS fun a hf => ?_
          refine zU 42 hf hS fun a hf => ?_
          refine zg 43 hf hS fun a hf => ?_
          refine zp 44 hf hS fun a hf => ?_
          refine dn (by kernel_rfl) ?_
          obtain rfl := Option.some.inj hGc5
          have hf := hf.pn [79, 1, 28, 29, 30]
          have H := H.lt_ [false, true] [] [] [1, 2]
          exact ⟨hf, H⟩
   refine then_n (ib hR1 hf (fun hc11 hR1 => ?_) fun hc11 hR1 => ?_)
   ·refine sqz (pz 1 hf fun a hf => ?_)
    refine wl_end (then_n (wp_ret (blk_r (then_r (then_r (blk_r (then_r (then_r (?_)))))))))
    obtain rfl := Option.some.inj hR1
    replace hF := on_ret hF
    obtain rfl := Option.some.inj hF
    refine ret_1 hf rfl (rv_tmp hf rfl) ?_
    exact ⟨_, rfl, H.bel, mk_bool⟩
   ·refine wp_skip (blk_n (then_n (reg (pz 2 hf fun a hf => ?_))))
    refine wl_end ?_
    have hf := hf.pn [1, 28, 29, 30]
    have H := H.lt_ [true] [] [] [0, 1]
    exact then_n ⟨w64 (i3 + 1), hR1, hf, H⟩
  ·refine wp_exit (then_x (then_x (blk_e (?_))))
   have hf := hf.pn [1, 28, 29, 30]
   have H := H.lt_ [true] [] [] [0, 1]
   exact ⟨i3, (Option.some.inj hR1).symm, hf, H⟩
 rintro a w ⟨i4, rfl, hf, H⟩
 replace hF := on_next hF
 refine then_n (sq ?_)
 obtain ⟨c6, hGc6, hF⟩ := bind_some hF
 have fh3 := hf.prune [] rfl
 have Hm3 := H.lt_ [false] [] [] []
 refine midF 2 (.bool c6) fh3 Hm3 ?_ fun a w hf H => ?_
 ·refine reg (pz 1 hf fun a hf => ?_)
  refine oq hf (rq_loadB hf H TF.ls22 0 rfl rfl rfl) fun a hf => ?_
  refine pz 1 hf fun a hf => ?_
  obtain ⟨y6, hy6, hGc6⟩ := bind_some hGc6
  refine oc hf TF.cl93 (impl_within_ok (S := TT) mk_int mk_int mk_int hy6) fun v6 w a hp6 hf => ?_
  obtain ⟨hb6, hp6⟩ := hp6
  obtain rfl := VR_bool hp6
  have H := H.keep hb6
  refine pz 1 hf fun a hf => ?_
  refine iteB hGc6 (fun hc12 hGc6 => ?_) fun hc12 hGc6 => ?_
  ·have hf := hf.lit 85 rfl hc12
   refine pz 1 hf fun a hf => ?_
   refine wlg hf rfl rfl rfl (op_q hf (rq_loadB hf H TF.ls40 0 rfl rfl rfl) rfl (by decide) fun a hf => ?_)
   refine pz 4 hf fun a hf => ?_
   obtain rfl := Option.some.inj hGc6
   have hf := hf.pn [2]
   have H := H.lt_ [false] [] [] []
   exact wl_end ⟨hf, H⟩
  ·have hf := hf.lit 85 rfl hc12
   refine pz 6 hf fun a hf => ?_
   obtain rfl := Option.some.inj hGc6
   have hf := hf.pn [2]
   have H := H.lt_ [false] [] [] []
   exact wl_end ⟨hf, H⟩
 refine then_n (wp_ret (?_))
 obtain rfl := Option.some.inj hF
 refine ret_1 hf rfl (rv_tmp hf rfl) ?_
 exact ⟨_, rfl, H.bel, mk_bool⟩

theorem impl_otherEnd_ok {S : Nat → Prop} {v0_ : Value} {v1_ : Value} {f : Fiber} {node : Int} {r : Int} (h0 : VR w0 S v0_ f) (h1 : VR w0 S v1_ node) (hF : impl_otherEnd fu f node = some r) :
    Calls Tryz.prog 194 [v0_, v1_].toArray w0 fun e w' => ∃ v, e = .returned v ∧ (Below w0.heap.size w0 w' ∧ VR w' (St ⟨w0, []⟩ S [] [] [] true) v r) := by
 obtain rfl := Fiber_open h0
 obtain rfl := VR_int h1
 have H := Mem.start ⟨w0, []⟩ S
 refine en Tryz.func194 fun a hf => ?_
 rw [impl_otherEnd] at hF
 refine sq (reg (wl0 rfl (op_box hf H rfl rfl (by decide) fun b' a w hf H => ?_)))
 refine pz 1 hf fun a hf => ?_
 refine wl_end (then_n (sq (sqz (pz 1 hf fun a hf => ?_))))
 refine wl_end (then_n (wp_block (sqz (pz 1 hf fun a hf => ?_))))
 refine oq hf (rq_loadB hf H TF.ls3 0 rfl rfl rfl) fun a hf => ?_
 refine pz 2 hf fun a hf => ?_
 refine wl_end (then_n (ib hF hf (fun hc hF => ?_) fun hc hF => ?_))
 ·refine sqz (pz 1 hf fun a hf => ?_)
  refine oq hf (rq_loadB hf H TF.ls3 0 rfl rfl rfl) fun a hf => ?_
  refine pz 1 hf fun a hf => ?_
  refine wl_end (then_n (wp_ret (blk_r (then_r (?_)))))
  obtain rfl := Option.some.inj hF
  refine ret_1 hf rfl (rv_tmp hf rfl) ?_
  exact ⟨_, rfl, H.bel, mk_int⟩
 ·refine sqz (pz 1 hf fun a hf => ?_)
  refine oq hf (rq_loadB hf H TF.ls3 0 rfl rfl rfl) fun a hf => ?_
  refine pz 2 hf fun a hf => ?_
  refine wl_end (then_n (ib hF hf (fun hc2 hF => ?_) fun hc2 hF => ?_))
  ·refine sqz (pz 1 hf fun a hf => ?_)
   refine oq hf (rq_loadB hf H TF.ls3 0 rfl rfl rfl) fun a hf => ?_
   refine pz 1 hf fun a hf => ?_
   have hf := hf.pn [4]
   refine wl_end (then_n (wp_ret (blk_r (then_r (?_)))))
   obtain rfl := Option.some.inj hF
   refine ret_1 hf rfl (rv_tmp hf rfl) ?_
   exact ⟨_, rfl, H.bel, mk_int⟩
  ·refine wp_skip (blk_n (then_n (sqz (pz 1 hf fun a hf => ?_))))
   refine wl_end (then_n (wp_ret (?_)))
   obtain rfl := Option.some.inj hF
   refine ret_1 hf rfl (rv_tmp hf rfl) ?_
   exact ⟨_, rfl, H.bel, mk_int⟩

/- slices.Index[[]int,int] -/
theorem slices_Index_int_int_ok {S : Nat → Prop} {v0_ : Value} {v1_ : Value} {s' : List Int} {v : Int} {r : Int} (h0 : VR w0 S v0_ s') (h1 : VR w0 S v1_ v) (hF : slices_Index_int_int fu s' v = some r) :
    Calls Tryz.prog 207 [v0_, v1_].toArray w0 fun e w' => ∃ v, e = .returned v ∧ (Below w0.heap.size w0 w' ∧ VR w' (St ⟨w0, []⟩ S [] [] [] true) v r) := by
 obtain ⟨A, c, rfl, hl⟩ := VR_list h0
 obtain rfl := VR_int h1
 have H := Mem.start ⟨w0, []⟩ S
 have H := H.pushArg (MP.val [(.slice A s'.length c)] s') hl
 refine en Tryz.func207 fun a hf => ?_
 rw [slices_Index_int_int] at hF
 refine sqz (pz 1 hf fun a hf => ?_)
 refine wl_end (then_n (sq (sqz (pz 3 hf fun a hf => ?_))))
 refine wl_end (then_n ?_)
 obtain ⟨out', hB1, hF⟩ := bind_some hF
 have hf := hf.pn [0, 1, 7, 8]
 have H := H.lt_ [] [] [] [0]
 refine loopC (fun (s : Int) (a : Act) (w : World) => match s with | i => Fr a 19 [(0, (.slice A s'.length c)), (1, (.int .i64 v)), (7, (.int .i64 (s'.length : Int))), (8, (.int .i64 i))] ∧ Mem ⟨w0, []⟩ S [] [] [] [(false, MP.val [(.slice A s'.length c)] (s' : List Int))] w) (fun k (s : Int) => slices_Index_int_int_L1 fu s' v k s = some out') (fun s => out' = Out.next s) 0 fu hB1 ⟨hf, H⟩ (fun s h => by cases h) ?_ ?_
 ·rintro fk i a w hR1 hI
  replace hR1 : slices_Index_int_int_L1 fu s' v (fk + 1) i = some out' := hR1
  rw [slices_Index_int_int_L1] at hR1
  obtain ⟨hf, H⟩ := hI
  refine sqz (pz 1 hf fun a hf => ?_)
  refine wl_end (then_n (sq (ib hR1 hf (fun hc hR1 => ?_) fun hc hR1 => ?_)))
  ·refine wp_skip (then_n (sq (wp_block (sqz (pz 2 hf fun a hf => ?_)))))
   refine wr (pz 3 hf fun a hf => ?_)
   obtain ⟨e, he, hR1⟩ := bind_some hR1
   refine wl0 rfl (op_iaddr hf H Tryz.underlying29 TF.sz3 0 rfl rfl rfl he (by decide) fun p o cs a hf hr H => ?_)
   obtain rfl := hr
   refine oq hf (rq_loadI hf H TF.ls3 0 0 rfl rfl rfl) fun a hf => ?_
   refine pz 1 hf fun a hf => ?_
   refine wl_end (then_n (ib hR1 hf (fun hc2 hR1 => ?_) fun hc2 hR1 => ?_))
   ·refine sqz (pz 2 hf fun a hf => ?_)
    have hf := hf.pn [4]
    refine wl_end (then_n (wp_ret (blk_r (then_r (then_r (blk_r (then_r (then_r (?_)))))))))
    obtain rfl := Option.some.inj hR1
    replace hF := on_ret hF
    obtain rfl := Option.some.inj hF
    refine ret_1 hf rfl (rv_tmp hf rfl) ?_
    exact ⟨_, rfl, H.bel, mk_int⟩
   ·refine wp_skip (blk_n (then_n (reg (pz 2 hf fun a hf => ?_))))
    refine wl_end ?_
    have hf := hf.pn [0, 1, 7, 8]
    have H := H.lt_ [] [] [] [1]
    exact then_n ⟨w64 (i + 1), hR1, hf, H⟩
  ·refine wp_exit (then_x (then_x (blk_e (?_))))
   have hf := hf.pn [0, 1, 7, 8]
   have H := H.lt_ [] [] [] [0]
   exact ⟨i, (Option.some.inj hR1).symm, hf, H⟩
 rintro a w ⟨i2, rfl, hf, H⟩
 replace hF := on_next hF
 refine then_n (sqz (pz 1 hf fun a hf => ?_))
 refine wl_end (then_n (wp_ret (?_)))
 obtain rfl := Option.some.inj hF
 refine ret_1 hf rfl (rv_tmp hf rfl) ?_
 exact ⟨_, rfl, H.bel, mk_int⟩

/- slices.Contains[[]int,int] -/
theorem slices_Contains_int_int_ok {S : Nat → Prop} {v0_ : Value} {v1_ : Value} {s' : List Int} {v : Int} {r : Bool} (h0 : VR w0 S v0_ s') (h1 : VR w0 S v1_ v) (hF : slices_Contains_int_int fu s' v = some r) :
    Calls Tryz.prog 187 [v0_, v1_].toArray w0 fun e w' => ∃ v, e = .returned v ∧ (Below w0.heap.size w0 w' ∧ VR w' (St ⟨w0, []⟩ S [] [] [] true) v r) := by
 obtain ⟨A, c, rfl, hl⟩ := VR_list h0
 obtain rfl := VR_int h1
 have H := Mem.start ⟨w0, []⟩ S
 have H := H.pushArg (MP.val [(.slice A s'.length c)] s') hl
 refine en Tryz.func187 fun a hf => ?_
 rw [slices_Contains_int_int] at hF
 refine sqz (pz 1 hf fun a hf => ?_)
 refine wr (pz 2 hf fun a hf => ?_)
 obtain ⟨y, hy, hF⟩ := bind_some hF
 refine oc hf TF.cl207 (slices_Index_int_int_ok (S := TT) (mk_list (H.rt 0 rfl)) mk_int hy) fun v2 w a hp hf => ?_
 obtain ⟨hb, hp⟩ := hp
 obtain rfl := VR_int hp
 have H := H.keep hb
 refine pz 2 hf fun a hf => ?_
 refine wl_end (then_n (wp_ret (?_)))
 obtain rfl := Option.some.inj hF
 refine ret_1 hf rfl (rv_tmp hf rfl) ?_
 exact ⟨_, rfl, H.bel, mk_bool⟩

theorem impl_visited_ok {S : Nat → Prop} {v0_ : Value} {v1_ : Value} {n' : Network} {r' : Route} {r : List Int × Bool} (h0 : VR w0 S v0_ n') (h1 : VR w0 S v1_ r') (hF : impl_visited fu n' r' = some r) :
    Calls Tryz.prog 156 [v0_, v1_].toArray w0 fun e w' => ∃ v, e = .returned v ∧ (Below w0.heap.size w0 w' ∧ ∃ F0, ∃ u0 u1, v = .tuple #[u0, u1] ∧ VO w' F0 u0 r.1 ∧ VR w' (St ⟨w0, []⟩ S [] [] [] true) u1 r.2 ∧ New w0 w' F0) := by
 obtain ⟨A, c, A2, c2, rfl, hl, hl2⟩ := Network_open h0
 obtain ⟨A3, c3, rfl, hl3⟩ := Route_open h1
 have H := Mem.start ⟨w0, []⟩ S
 have H := H.pushArg (MP.val [(.slice A n'.Nodes.length c)] n'.Nodes) hl
 have H := H.pushArg (MP.val [(.slice A2 n'.Fibers.length c2)] n'.Fibers) hl2
 have H := H.pushArg (MP.val [(.slice A3 r'.Fibers.length c3)] r'.Fibers) hl3
 refine en Tryz.func156 fun a hf => ?_
 rw [impl_visited] at hF
 refine sq (reg (wl0 rfl (op_box hf H rfl rfl (by decide) fun b' a w hf H => ?_)))
 refine wl0 rfl (op_box hf H rfl rfl (by decide) fun b2 a w hf H => ?_)
 refine pz 2 hf fun a hf => ?_
 refine wl_end (then_n (sq (sq ?_)))
 obtain ⟨c4, hGc4, hF⟩ := bind_some hF
 have fh := hf.prune [2, 3] rfl
 have Hm := H.lt_ [true, true] [] [] [0, 1, 2]
 refine midF 23 (.bool c4) fh Hm ?_ fun a w hf H => ?_
 ·refine reg (pz 1 hf fun a hf => ?_)
  refine oq hf (rq_loadB hf H TF.ls3 0 rfl rfl rfl) fun a hf => ?_
  refine pz 1 hf fun a hf => ?_
  refine oq hf (rq_loadB hf H TF.ls22 1 rfl rfl rfl) fun a hf => ?_
  refine pz 2 hf fun a hf => ?_
  obtain ⟨y, hy, hGc4⟩ := bind_some hGc4
  refine oc hf TF.cl93 (impl_within_ok (S := TT) mk_int mk_int mk_int hy) fun v w a hp hf => ?_
  obtain ⟨hb, hp⟩ := hp
  obtain rfl := VR_bool hp
  have H := H.keep hb
  refine pz 2 hf fun a hf => ?_
  refine iteB hGc4 (fun hc hGc4 => ?_) fun hc hGc4 => ?_
  ·have hf := hf.lit 18 rfl hc
   refine pz 5 hf fun a hf => ?_
   obtain rfl := Option.some.inj hGc4
   have hf := hf.pn [23, 2, 3]
   have H := H.lt_ [true, true] [] [] [0, 1, 2]
   exact wl_end ⟨hf, H⟩
  ·have hf := hf.lit 18 rfl hc
   refine pz 1 hf fun a hf => ?_
   refine wlg hf rfl rfl rfl (op_q hf (rq_loadB hf H TF.ls29 0 rfl rfl rfl) rfl (by decide) fun a hf => ?_)
   refine pz 3 hf fun a hf => ?_
   obtain rfl := Option.some.inj hGc4
   have hf := hf.pn [23, 2, 3]
   have H := H.lt_ [true, true] [] [] [0, 1, 2]
   exact wl_end ⟨hf, H⟩
 refine then_n (ib hF hf (fun hc2 hF => ?_) fun hc2 hF => ?_)
 ·refine sqz (pz 2 hf fun a hf => ?_)
  refine wl_end (then_n (wp_ret (then_r (?_))))
  have H := H.ownNil (Int)
  have H := H.lend 0 rfl
  obtain rfl := Option.some.inj hF
  refine ret_2 (fn := Tryz.f156) (r := .tmp 4) (s := .tmp 5) hf rfl (rv_tmp hf rfl) (rv_tmp hf rfl) ?_
  have hN := H.ends (X := [(⟨[], MP.own [] [(.slice none 0 0)] ([] : List Int)⟩ : DI)])
  simp only [List.flatMap_cons, List.flatMap_nil, List.append_nil, List.append_assoc] at hN
  exact ⟨_, rfl, H.bel, [], _, _, rfl, (mko_list (H.ownAt 0 rfl)), mk_bool, by first | exact hN | simpa using hN⟩
 ·refine wp_skip (then_n (sq (drawn [] (bs := [false, false, false, false, false, false, false]) (fuel := 7) (Checked.mixed Tryz.checked) rfl rfl fun w hb => ?_)))
  have H := H.keep hb
  refine zp 0 hf trivial fun a hf => ?_
  refine strT (H.let [true, false] [] [] [] rfl rfl rfl rfl) (fun w H => trivial) fun hS => ?_
  refine tS 1 [] rfl rfl rfl rfl hf (by kernel_rfl) (by kernel_rfl) hS (fun w H => rq_loadB hf H TF.ls3 0 rfl rfl rfl) fun a hf => ?_
  refine zp 3 hf hS fun a hf => ?_
  refine tS 4 [] rfl rfl rfl rfl hf (by kernel_rfl) (by kernel_rfl) hS (fun w H => rq_loadB hf H TF.ls3 0 rfl rfl rfl) fun a hf => ?_
  refine n1 2 (by kernel_rfl) rfl rfl (op_bslice hf H (.sh true) rfl 3 ([r'.Start] : List Int) [(.int .i64 r'.Start)] rfl (fun w => by kernel_rfl) rfl (by decide) rfl trivial (el1 (y := r'.Start) (rfl)) (by decide) fun A4 a w hf H => ?_)
  have hS := H.lt_ [true, false] [false] [] []
  refine ⟨fun _ => hS, ?_⟩
  refine zp 5 hf hS fun a hf => ?_
  refine zp 6 hf hS fun a hf => ?_
  refine dn (by kernel_rfl) ?_
  refine then_n (sq (sqz (pz 1 hf fun a hf => ?_)))
  refine oq hf (rq_loadB hf H TF.ls29 0 rfl rfl rfl) fun a hf => ?_
  refine pz 2 hf fun a hf => ?_
  refine wl_end (then_n ?_)
  obtain ⟨out2, hB1, hF⟩ := bind_some hF
  have hf := hf.pn [2, 6, 7, 30, 31, 32]
  have H := H.lt_ [false, true] [true] [] [0, 1, 2]
  refine loopC (fun (s : List Int × Int × Int) (a : Act) (w : World) => match s with | (out', at', i) => ∃ (A5 : Option Addr) (c5 : Nat) (E : Go.TypeId), Fr a 63 [(2, (.pointer (some ⟨b', 0, none⟩))), (6, (.slice A5 out'.length c5)), (7, (.int .i64 at')), (30, (.slice A3 r'.Fibers.length c3)), (31, (.int .i64 (r'.Fibers.length : Int))), (32, (.int .i64 i))] ∧ Mem ⟨w0, []⟩ S [⟨b', 42, [(.slice A n'.Nodes.length c), (.slice A2 n'.Fibers.length c2)]⟩] [⟨.sh true, E, A5, c5, (out' : List Int)⟩] [] [(false, MP.val [(.slice A3 r'.Fibers.length c3)] (r'.Fibers : List Int)), (false, MP.val [(.slice A2 n'.Fibers.length c2)] (n'.Fibers : List Fiber)), (false, MP.val [(.slice A n'.Nodes.length c)] (n'.Nodes : List ByteArray))] w) (fun k (s : List Int × Int × Int) => impl_visited_L1 fu n' r' k s.1 s.2.1 s.2.2 = some out2) (fun s => out2 = Out.next s) ([r'.Start], r'.Start, 0) fu hB1 ⟨A4, 1, 3, hf, H⟩ (fun s h => by cases h) ?_ ?_
  ·rintro fk ⟨out', at', i⟩ a w hR1 hI
   replace hR1 : impl_visited_L1 fu n' r' (fk + 1) out' at' i = some out2 := hR1
   rw [impl_visited_L1] at hR1
   obtain ⟨A5, c5, E, hf, H⟩ := hI
   refine sqz (pz 1 hf fun a hf => ?_)
   refine wl_end (then_n (sq (ib hR1 hf (fun hc3 hR1 => ?_) fun hc3 hR1 => ?_)))
   ·refine wp_skip (then_n (sq (wp_block (sq (reg ?_)))))
    obtain ⟨e, he, hR1⟩ := bind_some hR1
    refine wl0 rfl (op_iaddr hf H Tryz.underlying29 TF.sz3 0 rfl rfl rfl he (by decide) fun p o cs a hf hr H => ?_)
    obtain rfl := hr
    refine oq hf (rq_loadI hf H TF.ls3 0 0 rfl rfl rfl) fun a hf => ?_
    refine pz 1 hf fun a hf => ?_
    refine wl_end (then_n (sq (sqz (pz 2 hf fun a hf => ?_))))
    refine oq hf (rq_loadB hf H TF.ls40 0 rfl rfl rfl) fun a hf => ?_
    refine pz 2 hf fun a hf => ?_
    obtain ⟨y2, hy2, hR1⟩ := bind_some hR1
    refine oc hf TF.cl93 (impl_within_ok (S := TT) mk_int mk_int mk_int hy2) fun v2 w a hp2 hf => ?_
    obtain ⟨hb2, hp2⟩ := hp2
    obtain rfl := VR_bool hp2
    have H := H.keep hb2
    refine pz 1 hf fun a hf => ?_
    refine wl_end (then_n (ib hR1 hf (fun hc4 hR1 => ?_) fun hc4 hR1 => ?_))
    ·refine sqz (pz 2 hf fun a hf => ?_)
     have hf := hf.pn [4, 5]
     refine wl_end (then_n (wp_ret (then_r (blk_r (then_r (then_r (blk_r (then_r (then_r (?_))))))))))
     have H := H.ownNil (Int)
     have H := H.lend 0 rfl
     obtain rfl := Option.some.inj hR1
     replace hF := on_ret hF
     obtain rfl := Option.some.inj hF
     refine ret_2 (fn := Tryz.f156) (r := .tmp 4) (s := .tmp 5) hf rfl (rv_tmp hf rfl) (rv_tmp hf rfl) ?_
     have hN := H.ends (X := [(⟨[], MP.own [] [(.slice none 0 0)] ([] : List Int)⟩ : DI)])
     simp only [List.flatMap_cons, List.flatMap_nil, List.append_nil, List.append_assoc] at hN
     exact ⟨_, rfl, H.bel, [], _, _, rfl, (mko_list (H.ownAt 0 rfl)), mk_bool, by first | exact hN | simpa using hN⟩
    ·refine wp_skip (then_n (sqz (pz 1 hf fun a hf => ?_)))
     refine oq hf (rq_loadB hf H TF.ls40 0 rfl rfl rfl) fun a hf => ?_
     refine pz 1 hf fun a hf => ?_
     obtain ⟨e2, he2, hR1⟩ := bind_some hR1
     refine wl0 rfl (op_iaddr hf H Tryz.underlying40 TF.sz164 2 rfl rfl rfl he2 (by decide) fun p2 o2 cs2 a hf hr2 H => ?_)
     obtain rfl := Fiber_cells hr2
     refine oq hf (rq_loadIN hf H TF.la164 0 0 rfl rfl rfl rfl) fun a hf => ?_
     refine pz 1 hf fun a hf => ?_
     obtain ⟨y3, hy3, hR1⟩ := bind_some hR1
     refine oc hf TF.cl194 (impl_otherEnd_ok (S := TT) Fiber_mkv mk_int hy3) fun v3 w a hp3 hf => ?_
     obtain ⟨hb3, hp3⟩ := hp3
     obtain rfl := VR_int hp3
     have H := H.keep hb3
     refine pz 1 hf fun a hf => ?_
     have hf := hf.pn [2, 6, 7, 30, 31, 32]
     refine wl_end (then_n (sq (sq ?_)))
     obtain ⟨c6, hGc6, hR1⟩ := bind_some hR1
     have fh2 := hf.prune [2, 6, 7, 30, 31, 32] rfl
     have Hm2 := H.lt_ [true] [true] [] [2, 3, 4]
     refine midF 56 (.bool c6) fh2 Hm2 ?_ fun a w hf H => ?_
     ·refine reg (pz 3 hf fun a hf => ?_)
      refine iteB hGc6 (fun hc5 hGc6 => ?_) fun hc5 hGc6 => ?_
      ·have hf := hf.lit 52 rfl hc5
       refine pz 4 hf fun a hf => ?_
       obtain rfl := Option.some.inj hGc6
       have hf := hf.pn [56, 2, 6, 7, 30, 31, 32]
       have H := H.lt_ [true] [true] [] [2, 3, 4]
       exact wl_end ⟨hf, H⟩
      ·have hf := hf.lit 52 rfl hc5
       refine pz 2 hf fun a hf => ?_
       obtain ⟨y4, hy4, hGc6⟩ := bind_some hGc6
       refine wlg hf rfl rfl rfl (op_call hf TF.cl187 rfl (by decide) (slices_Contains_int_int_ok (S := TT) (mk_list (H.rowTrue 0 rfl)) mk_int hy4) fun v4 w a hp4 hf => ?_)
       obtain ⟨hb4, hp4⟩ := hp4
       obtain rfl := VR_bool hp4
       have H := H.keep hb4
       refine pz 1 hf fun a hf => ?_
       obtain rfl := Option.some.inj hGc6
       have hf := hf.pn [56, 2, 6, 7, 30, 31, 32]
       have H := H.lt_ [true] [true] [] [2, 3, 4]
       exact wl_end ⟨hf, H⟩
     refine then_n (ib hR1 hf (fun hc6 hR1 => ?_) fun hc6 hR1 => ?_)
     ·refine sqz (pz 2 hf fun a hf => ?_)
      refine wl_end (then_n (wp_ret (then_r (blk_r (then_r (then_r (blk_r (then_r (then_r (?_))))))))))
      have H := H.ownNil (Int)
      have H := H.lend 0 rfl
      obtain rfl := Option.some.inj hR1
      replace hF := on_ret hF
      obtain rfl := Option.some.inj hF
      refine ret_2 (fn := Tryz.f156) (r := .tmp 4) (s := .tmp 5) hf rfl (rv_tmp hf rfl) (rv_tmp hf rfl) ?_
      have hN := H.ends (X := [(⟨[], MP.own [] [(.slice none 0 0)] ([] : List Int)⟩ : DI)])
      simp only [List.flatMap_cons, List.flatMap_nil, List.append_nil, List.append_assoc] at hN
      exact ⟨_, rfl, H.bel, [], _, _, rfl, (mko_list (H.ownAt 0 rfl)), mk_bool, by first | exact hN | simpa using hN⟩
     ·refine wp_skip (then_n (reg (pz 2 hf fun a hf => ?_)))
      refine wl0 rfl (op_bslice hf H (.sh true) rfl 3 ([y3] : List Int) [(.int .i64 y3)] rfl (fun w => by kernel_rfl) rfl (by decide) rfl trivial (el1 (y := y3) (rfl)) (by decide) fun A6 a w hf H => ?_)
      obtain ⟨l, hl, hR1⟩ := bind_some hR1
      refine wl0 rfl (op_appR hf H Tryz.underlying29 TF.ai3 rfl (by decide) 1 0 rfl rfl rfl rfl (.inr rfl) hl (by decide) fun E2 A7 c7 a w hf H => ?_)
      refine pz 1 hf fun a hf => ?_
      refine wl_end (blk_n (then_n (reg (pz 2 hf fun a hf => ?_))))
      refine wl_end ?_
      have hf := hf.pn [2, 6, 7, 30, 31, 32]
      have H := H.lt_ [true] [false, true] [] [0, 1, 2]
      exact then_n ⟨(l, y3, w64 (i + 1)), hR1, A7, c7, E2, hf, H⟩
   ·refine wp_exit (then_x (then_x (blk_e (?_))))
    have hf := hf.pn [2, 6, 7, 30, 31, 32]
    have H := H.lt_ [true] [true] [] [0, 1, 2]
    exact ⟨(out', at', i), (Option.some.inj hR1).symm, A5, c5, E, hf, H⟩
  rintro a w ⟨⟨out3, at2, i2⟩, rfl, A8, c8, E3, hf, H⟩
  replace hF := on_next hF
  try dsimp only at hF
  refine then_n (sqz (pz 3 hf fun a hf => ?_))
  refine wl_end (then_n (wp_ret (?_)))
  have H := H.rowOwn 0 rfl rfl
  obtain ⟨F, H⟩ := H.freezeOwn 0 rfl
  have H := H.lend 0 rfl
  obtain rfl := Option.some.inj hF
  refine ret_2 (fn := Tryz.f156) (r := .tmp 4) (s := .tmp 5) hf rfl (rv_tmp hf rfl) (rv_tmp hf rfl) ?_
  have hN := H.ends (X := [(⟨F, MP.own F [(.slice A8 out3.length c8)] (out3 : List Int)⟩ : DI)])
  simp only [List.flatMap_cons, List.flatMap_nil, List.append_nil, List.append_assoc] at hN
  exact ⟨_, rfl, H.bel, F, _, _, rfl, (mko_list (H.ownAt 0 rfl)), mk_bool, by first | exact hN | simpa using hN⟩

theorem impl_IsValidBlock_ok {S : Nat → Prop} {v0_ : Value} {b' : Block} {r : Bool} (h0 : VR w0 S v0_ b') (hF : impl_IsValidBlock fu b' = some r) :
    Calls Tryz.prog 157 [v0_].toArray w0 fun e w' => ∃ v, e = .returned v ∧ (Below w0.heap.size w0 w' ∧ VR w' (St ⟨w0, []⟩ S [] [] [] true) v r) := by
 obtain rfl := Block_open h0
 have H := Mem.start ⟨w0, []⟩ S
 refine en Tryz.func157 fun a hf => ?_
 rw [impl_IsValidBlock] at hF
 refine sq (reg (wl0 rfl (op_box hf H rfl rfl (by decide) fun b2 a w hf H => ?_)))
 refine pz 1 hf fun a hf => ?_
 refine wl_end (then_n (sq ?_))
 obtain ⟨c, hGc, hF⟩ := bind_some hF
 have fh := hf.prune [] rfl
 have Hm := H.lt_ [false] [] [] []
 refine midF 2 (.bool c) fh Hm ?_ fun a w hf H => ?_
 ·refine reg (pz 1 hf fun a hf => ?_)
  refine oq hf (rq_loadB hf H TF.ls3 0 rfl rfl rfl) fun a hf => ?_
  refine pz 2 hf fun a hf => ?_
  refine iteB hGc (fun hc hGc => ?_) fun hc hGc => ?_
  ·have hf := hf.lit 6 rfl hc
   refine pz 1 hf fun a hf => ?_
   refine wlg hf rfl rfl rfl (op_q hf (rq_loadB hf H TF.ls3 0 rfl rfl rfl) rfl (by decide) fun a hf => ?_)
   obtain ⟨y, hy, hGc⟩ := bind_some hGc
   refine wlg hf rfl rfl rfl (op_call hf TF.cl93 rfl (by decide) (impl_within_ok (S := TT) mk_int mk_int mk_int hy) fun v w a hp hf => ?_)
   obtain ⟨hb, hp⟩ := hp
   obtain rfl := VR_bool hp
   have H := H.keep hb
   refine pz 2 hf fun a hf => ?_
   refine iteB hGc (fun hc2 hGc => ?_) fun hc2 hGc => ?_
   ·have hf := hf.lit 11 rfl hc2
    refine pz 1 hf fun a hf => ?_
    refine wlg hf rfl rfl rfl (op_q hf (rq_loadB hf H TF.ls3 0 rfl rfl rfl) rfl (by decide) fun a hf => ?_)
    refine pz 1 hf fun a hf => ?_
    refine wlg hf rfl rfl rfl (op_q hf (rq_loadB hf H TF.ls3 0 rfl rfl rfl) rfl (by decide) fun a hf => ?_)
    refine pz 4 hf fun a hf => ?_
    obtain rfl := Option.some.inj hGc
    have hf := hf.pn [2]
    have H := H.lt_ [false] [] [] []
    exact wl_end ⟨hf, H⟩
   ·have hf := hf.lit 11 rfl hc2
    refine pz 8 hf fun a hf => ?_
    obtain rfl := Option.some.inj hGc
    have hf := hf.pn [2]
    have H := H.lt_ [false] [] [] []
    exact wl_end ⟨hf, H⟩
  ·have hf := hf.lit 6 rfl hc
   refine pz 13 hf fun a hf => ?_
   obtain rfl := Option.some.inj hGc
   have hf := hf.pn [2]
   have H := H.lt_ [false] [] [] []
   exact wl_end ⟨hf, H⟩
 refine then_n (wp_ret (?_))
 obtain rfl := Option.some.inj hF
 refine ret_1 hf rfl (rv_tmp hf rfl) ?_
 exact ⟨_, rfl, H.bel, mk_bool⟩

theorem impl_isLight_ok {S : Nat → Prop} {v0_ : Value} {v1_ : Value} {n' : Network} {x1 : Light} {r : Bool} (h0 : VR w0 S v0_ n') (h1 : VR w0 S v1_ x1) (hF : impl_isLight fu n' x1 = some r) :
    Calls Tryz.prog 103 [v0_, v1_].toArray w0 fun e w' => ∃ v, e = .returned v ∧ (Below w0.heap.size w0 w' ∧ VR w' (St ⟨w0, []⟩ S [] [] [] true) v r) := by
 obtain ⟨A, c, A2, c2, rfl, hl, hl2⟩ := Network_open h0
 obtain ⟨A3, c3, rfl, hl3⟩ := Light_open h1
 have H := Mem.start ⟨w0, []⟩ S
 have H := H.pushArg (MP.val [(.slice A n'.Nodes.length c)] n'.Nodes) hl
 have H := H.pushArg (MP.val [(.slice A2 n'.Fibers.length c2)] n'.Fibers) hl2
 have H := H.pushArg (MP.val [(.slice A3 x1.Route.Fibers.length c3)] x1.Route.Fibers) hl3
 refine en Tryz.func103 fun a hf => ?_
 rw [impl_isLight] at hF
 refine sq (reg (wl0 rfl (op_box hf H rfl rfl (by decide) fun b' a w hf H => ?_)))
 refine wl0 rfl (op_box hf H rfl rfl (by decide) fun b2 a w hf H => ?_)
 refine pz 1 hf fun a hf => ?_
 refine wr (oq hf (rq_loadBN hf H TF.la42 1 rfl rfl rfl rfl) fun a hf => ?_)
 refine pz 1 hf fun a hf => ?_
 refine oq hf (rq_loadBN hf H TF.la49 0 rfl rfl rfl rfl) fun a hf => ?_
 obtain ⟨y, hy, hF⟩ := bind_some hF
 refine oc hf TF.cl156 (impl_visited_ok (S := TT) (Network_mkv (x := n') (H.rt 2 rfl) (H.rt 1 rfl)) (Route_mkv (x := x1.Route) (H.rt 0 rfl)) hy) fun v w a hp hf => ?_
 obtain ⟨hb, F, v2, v3, rfl, hp2, hp3, hN⟩ := hp
 obtain ⟨A4, c4, rfl, hl4⟩ := VO_list hp2
 obtain rfl := VR_bool hp3
 have H := H.addOwn hb (X := [(⟨F, MP.own F [(.slice A4 y.1.length c4)] (y.1 : List Int)⟩ : DI)]) (by simpa using hN.1) (ps1 hl4 ps0) (by simpa using hN.2)
 have H := H.lend 0 rfl
 refine pz 5 hf fun a hf => ?_
 refine wl_end (then_n (sq ?_))
 obtain ⟨c5, hGc5, hF⟩ := bind_some hF
 have fh := hf.prune [] rfl
 have Hm := H.lt_ [false, false] [] [false] []
 refine midF 4 (.bool c5) fh Hm ?_ fun a w hf H => ?_
 ·refine reg (pz 2 hf fun a hf => ?_)
  refine iteB hGc5 (fun hc hGc5 => ?_) fun hc hGc5 => ?_
  ·have hf := hf.lit 15 rfl hc
   refine pz 1 hf fun a hf => ?_
   refine wlg hf rfl rfl rfl (op_q hf (rq_loadB hf H TF.ls3 0 rfl rfl rfl) rfl (by decide) fun a hf => ?_)
   obtain ⟨y2, hy2, hGc5⟩ := bind_some hGc5
   refine wlg hf rfl rfl rfl (op_call hf TF.cl93 rfl (by decide) (impl_within_ok (S := TT) mk_int mk_int mk_int hy2) fun v4 w a hp4 hf => ?_)
   obtain ⟨hb2, hp4⟩ := hp4
   obtain rfl := VR_bool hp4
   have H := H.keep hb2
   refine pz 2 hf fun a hf => ?_
   refine iteB hGc5 (fun hc2 hGc5 => ?_) fun hc2 hGc5 => ?_
   ·have hf := hf.lit 20 rfl hc2
    refine pz 1 hf fun a hf => ?_
    refine wlg hf rfl rfl rfl (op_q hf (rq_loadBN hf H TF.la50 0 rfl rfl rfl rfl) rfl (by decide) fun a hf => ?_)
    obtain ⟨y3, hy3, hGc5⟩ := bind_some hGc5
    refine wlg hf rfl rfl rfl (op_call hf TF.cl157 rfl (by decide) (impl_IsValidBlock_ok (S := TT) Block_mkv hy3) fun v5 w a hp5 hf => ?_)
    obtain ⟨hb3, hp5⟩ := hp5
    obtain rfl := VR_bool hp5
    have H := H.keep hb3
    refine pz 2 hf fun a hf => ?_
    obtain rfl := Option.some.inj hGc5
    have hf := hf.pn [4]
    have H := H.lt_ [false, false] [] [false] []
    exact wl_end ⟨hf, H⟩
   ·have hf := hf.lit 20 rfl hc2
    refine pz 5 hf fun a hf => ?_
    obtain rfl := Option.some.inj hGc5
    have hf := hf.pn [4]
    have H := H.lt_ [false, false] [] [false] []
    exact wl_end ⟨hf, H⟩
  ·have hf := hf.lit 15 rfl hc
   refine pz 10 hf fun a hf => ?_
   obtain rfl := Option.some.inj hGc5
   have hf := hf.pn [4]
   have H := H.lt_ [false, false] [] [false] []
   exact wl_end ⟨hf, H⟩
 refine then_n (wp_ret (?_))
 obtain rfl := Option.some.inj hF
 refine ret_1 hf rfl (rv_tmp hf rfl) ?_
 exact ⟨_, rfl, H.bel, mk_bool⟩

theorem impl_maskOf_ok {S : Nat → Prop} {v0_ : Value} {b' : Block} {r : Int} (h0 : VR w0 S v0_ b') (hF : impl_maskOf fu b' = some r) :
    Calls Tryz.prog 149 [v0_].toArray w0 fun e w' => ∃ v, e = .returned v ∧ (Below w0.heap.size w0 w' ∧ VR w' (St ⟨w0, []⟩ S [] [] [] true) v r) := by
 obtain rfl := Block_open h0
 have H := Mem.start ⟨w0, []⟩ S
 refine en Tryz.func149 fun a hf => ?_
 rw [impl_maskOf] at hF
 refine sq (reg (wl0 rfl (op_box hf H rfl rfl (by decide) fun b2 a w hf H => ?_)))
 refine pz 1 hf fun a hf => ?_
 refine wl_end (then_n (sq (drawn [] (bs := [false, false, false, false, false, false, false, false]) (fuel := 8) (Checked.mixed Tryz.checked) rfl rfl fun w hb => ?_)))
 have H := H.keep hb
 refine zp 0 hf trivial fun a hf => ?_
 refine strT H (fun w H => trivial) fun hS => ?_
 refine tS 1 [] rfl rfl rfl rfl hf (by kernel_rfl) (by kernel_rfl) hS (fun w H => rq_loadB hf H TF.ls3 0 rfl rfl rfl) fun a hf => ?_
 obtain ⟨q, hq, hF⟩ := bind_some hF
 refine tP 2 rfl rfl rfl rfl hf (by kernel_rfl) (fun _ => hS) (fun w => rq_shl hf rfl rfl hq) fun a hf => ?_
 refine zp 3 hf hS fun a hf => ?_
 refine zp 4 hf hS fun a hf => ?_
 refine tS 5 [] rfl rfl rfl rfl hf (by kernel_rfl) (by kernel_rfl) hS (fun w H => rq_loadB hf H TF.ls3 0 rfl rfl rfl) fun a hf => ?_
 obtain ⟨q2, hq2, hF⟩ := bind_some hF
 refine tP 6 rfl rfl rfl rfl hf (by kernel_rfl) (fun _ => hS) (fun w => rq_shl hf rfl rfl hq2) fun a hf => ?_
 refine zp 7 hf hS fun a hf => ?_
 refine dn (by kernel_rfl) ?_
 refine then_n (wp_ret (?_))
 obtain rfl := Option.some.inj hF
 refine ret_1 hf rfl (rv_tmp hf rfl) ?_
 exact ⟨_, rfl, H.bel, mk_int⟩

/- math/bits.Len64 -/
theorem math_bits_Len64_ok {S : Nat → Prop} {v0_ : Value} {x1 : U64} {r : Int} (h0 : VR w0 S v0_ x1) (hF : math_bits_Len64 fu x1 = some r) :
    Calls Tryz.prog 227 [v0_].toArray w0 fun e w' => ∃ v, e = .returned v ∧ (Below w0.heap.size w0 w' ∧ VR w' (St ⟨w0, []⟩ S [] [] [] true) v r) := by
 obtain rfl := VR_u64 h0
 have H := Mem.start ⟨w0, []⟩ S
 refine en Tryz.func227 fun a hf => ?_
 rw [math_bits_Len64] at hF
 refine sqz (pz 1 hf fun a hf => ?_)
 refine wl_end (then_n (sq (sqz (pz 1 hf fun a hf => ?_))))
 refine oq hf (rq_geK hf rfl rfl) fun a hf => ?_
 refine wl_end (then_n (ib hF hf (fun hc hF => ?_) fun hc hF => ?_))
 ·cases hF
 ·refine wp_skip (then_n (sq (sqz (pz 1 hf fun a hf => ?_))))
  refine oq hf (rq_geK hf rfl rfl) fun a hf => ?_
  refine wl_end (then_n (ib hF hf (fun hc2 hF => ?_) fun hc2 hF => ?_))
  ·cases hF
  ·refine wp_skip (then_n (sq (sqz (pz 1 hf fun a hf => ?_))))
   refine oq hf (rq_geK hf rfl rfl) fun a hf => ?_
   refine wl_end (then_n (ib hF hf (fun hc3 hF => ?_) fun hc3 hF => ?_))
   ·cases hF
   ·refine wp_skip (then_n (sqz (pz 2 hf fun a hf => ?_)))
    refine oq hf (rq_conv u8w Tryz.underlying158 Tryz.underlying5 hf rfl) fun a hf => ?_
    obtain ⟨e, he, hF⟩ := bind_some hF
    refine oq hf (rq_indexS hf Tryz.underlying9 rfl rfl he) fun a hf => ?_
    refine oq hf (rq_conv i64w Tryz.underlying5 Tryz.underlying3 hf rfl) fun a hf => ?_
    refine pz 2 hf fun a hf => ?_
    have hf := hf.pn [2]
    refine wl_end (then_n (wp_ret (?_)))
    obtain rfl := Option.some.inj hF
    refine ret_1 hf rfl (rv_tmp hf rfl) ?_
    exact ⟨_, rfl, H.bel, mk_int⟩

/- math/bits.Len -/
theorem math_bits_Len_ok {S : Nat → Prop} {v0_ : Value} {x1 : U64} {r : Int} (h0 : VR w0 S v0_ x1) (hF : math_bits_Len fu x1 = some r) :
    Calls Tryz.prog 209 [v0_].toArray w0 fun e w' => ∃ v, e = .returned v ∧ (Below w0.heap.size w0 w' ∧ VR w' (St ⟨w0, []⟩ S [] [] [] true) v r) := by
 obtain rfl := VR_u64 h0
 have H := Mem.start ⟨w0, []⟩ S
 refine en Tryz.func209 fun a hf => ?_
 rw [math_bits_Len] at hF
 refine sqz (pz 1 hf fun a hf => ?_)
 refine wl_end (then_n (sq (cd_f hf rfl rfl (wp_skip (then_n (sqz (pz 1 hf fun a hf => ?_)))))))
 obtain ⟨y, hy, hF⟩ := bind_some hF
 refine oc hf TF.cl227 (math_bits_Len64_ok (S := TT) mk_u64 hy) fun v w a hp hf => ?_
 obtain ⟨hb, hp⟩ := hp
 obtain rfl := VR_int hp
 have H := H.keep hb
 refine pz 1 hf fun a hf => ?_
 refine wl_end (then_n (wp_ret (?_)))
 obtain rfl := Option.some.inj hF
 refine ret_1 hf rfl (rv_tmp hf rfl) ?_
 exact ⟨_, rfl, H.bel, mk_int⟩
end AT

