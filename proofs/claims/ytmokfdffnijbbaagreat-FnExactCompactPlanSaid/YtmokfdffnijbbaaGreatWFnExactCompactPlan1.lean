/- The Go functions do what is told of them, by program (gen.py). -/
import Derived.Test.YtmokfdffnijbbaaGreatWFnExactCompactPlan0
set_option linter.unusedVariables false
set_option linter.unusedSimpArgs false
set_option maxRecDepth 100000
set_option maxHeartbeats 1000000
namespace AT
open Go Go.RowKit Go.Proofs
variable {fu : Nat} {w0 : World}
theorem impl_requestsOf_ok {S : Nat → Prop} {v0_ : Value} {p : Plan} {r : List Request} (h0 : VR w0 S v0_ p) (hF : impl_requestsOf fu p = some r) :
    Calls Tryz.prog 54 [v0_].toArray w0 fun e w' => ∃ v, e = .returned v ∧ (Below w0.heap.size w0 w' ∧ VR w' (St ⟨w0, []⟩ S [] [] [] false) v r) := by
 obtain ⟨A, c, A2, c2, A3, c3, rfl, hl, hl2, hl3⟩ := Plan_open h0
 have H := Mem.start ⟨w0, []⟩ S
 have H := H.pA hl
 have H := H.pA hl2
 have H := H.pA hl3
 refine en Tryz.func54 fun a hf => ?_
 rw [impl_requestsOf] at hF
 refine bx hf H fun b' a w hf H => ?_
 refine pz 1 hf fun a hf => ?_
 refine wr (wl0 rfl (bl hf H 61 ([] : List Request) [] el0 fun A4 a w hf H => ?_))
 refine pz 1 hf fun a hf => ?_
 refine we (sqz (pz 1 hf fun a hf => ?_))
 refine lB 0 hf H TF.ls35 fun a hf => ?_
 refine pz 2 hf fun a hf => ?_
 refine wl_end (then_n ?_)
 have H := H.rowWeak 0 rfl
 obtain ⟨out2, hB1, hF⟩ := bs_ hF
 have hf := hf.pn [3, 8, 9, 10]
 have H := H.lt_ [false] [true] [] [0]
 refine loopC (fun (s : List Request × Int) (a : Act) (w : World) => match s with | (out', i) => ∃ (A5 : Option Addr) (c4 : Nat) (E : Go.TypeId), Fr a 25 [(3, (.slice A5 out'.length c4)), (8, (.slice A3 p.Lights.length c3)), (9, (.int .i64 (p.Lights.length : Int))), (10, (.int .i64 i))] ∧ Mem ⟨w0, []⟩ S [] [⟨.sh false, E, A5, c4, (out' : List Request)⟩] [] [(false, MP.val [(.slice A3 p.Lights.length c3)] (p.Lights : List Light))] w) (fun k (s : List Request × Int) => impl_requestsOf_L1 fu p k s.1 s.2 = some out2) (fun s => out2 = s) (([] : List Request), 0) fu hB1 ⟨A4, 0, 61, hf, H⟩ (fun s h => by cases h) ?_ ?_
 ·rintro fk ⟨out', i⟩ a w hR1 hI
  replace hR1 : impl_requestsOf_L1 fu p (fk + 1) out' i = some out2 := hR1
  rw [impl_requestsOf_L1] at hR1
  obtain ⟨A5, c4, E, hf, H⟩ := hI
  refine sqz (pz 1 hf fun a hf => ?_)
  refine wl_end (then_n (sq (ib hR1 hf (fun hc hR1 => ?_) fun hc hR1 => ?_)))
  ·refine wp_skip (then_n (sq (wp_block (sq (reg ?_)))))
   obtain ⟨e, he, hR1⟩ := bs_ hR1
   refine wl0 rfl (op_iaddr hf H Tryz.underlying35 TF.sz73 0 rfl rfl rfl he (by decide) fun p2 o cs a hf hr H => ?_)
   obtain ⟨A6, c5, rfl, hl4⟩ := Light_cells hr
   have H := H.pF hl4
   refine oq hf (rq_loadIN hf H TF.la73 1 0 rfl rfl rfl rfl) fun a hf => ?_
   refine aL hf H TF.zv73 fun b2 a w hf H => ?_
   refine sB 0 hf H TF.sz73 fun w H => ?_
   refine wl_end (then_n (reg (pz 2 hf fun a hf => ?_)))
   refine lN 0 hf H TF.la59 fun a hf => ?_
   refine pz 2 hf fun a hf => ?_
   refine lB 0 hf H TF.ls3 fun a hf => ?_
   refine oq hf (rq_build hf (cs := [(.int .i64 e.Route.Start), (.slice A6 e.Route.Fibers.length c5), (.int .i64 e.Block.Count)]) rfl (fun w => by kernel_rfl)) fun a hf => ?_
   refine wl0 rfl (op_bslice hf H (.sh false) rfl 61 ([({ Route := e.Route, Count := e.Block.Count } : Request)] : List Request) [(.int .i64 e.Route.Start), (.slice A6 e.Route.Fibers.length c5), (.int .i64 e.Block.Count)] rfl (fun w => by kernel_rfl) rfl (by decide) rfl trivial (el1 (y := ({ Route := e.Route, Count := e.Block.Count } : Request)) ((Request_mk (x := ({ Route := e.Route, Count := e.Block.Count } : Request)) (H.get 0 rfl)))) (by decide) fun A7 a w hf H => ?_)
   obtain ⟨l, hl_, hR1⟩ := bs_ hR1
   refine wl0 rfl (op_appR hf H Tryz.underlying46 TF.ai61 rfl (by decide) 1 0 rfl rfl rfl rfl (.inl rfl) hl_ (by decide) fun E2 A8 c6 a w hf H => ?_)
   refine pz 1 hf fun a hf => ?_
   have hf := hf.pn [3, 8, 9, 10]
   refine wl_end (blk_n (then_n (reg (pz 2 hf fun a hf => ?_))))
   refine wl_end ?_
   have hf := hf.pn [3, 8, 9, 10]
   have H := H.lt_ [false] [false, true] [] [2]
   exact then_n ⟨(l, w64 (i + 1)), hR1, A8, c6, E2, hf, H⟩
  ·refine wp_exit (then_x (then_x (blk_e (?_))))
   have hf := hf.pn [3, 8, 9, 10]
   have H := H.lt_ [] [true] [] [0]
   exact ⟨(out', i), (Option.some.inj hR1).symm, A5, c4, E, hf, H⟩
 rintro a w ⟨⟨out3, i2⟩, rfl, A9, c7, E3, hf, H⟩
 try dsimp only at hF
 refine then_n (sqz (pz 2 hf fun a hf => ?_))
 refine wer ?_
 have H := H.freeze 0 rfl
 obtain rfl := oi hF
 refine rT hf ?_
 exact ⟨_, rfl, H.bel, (mk_list (rep_end (α := List Request) (H.get 0 rfl)))⟩
theorem laws_eqStringS_ok {S : Nat → Prop} {v0_ : Value} {v1_ : Value} {a' : List ByteArray} {b' : List ByteArray} {r : Bool} (h0 : VR w0 S v0_ a') (h1 : VR w0 S v1_ b') (hF : laws_eqStringS fu a' b' = some r) :
    Calls Tryz.prog 121 [v0_, v1_].toArray w0 fun e w' => ∃ v, e = .returned v ∧ (Below w0.heap.size w0 w' ∧ VR w' (St ⟨w0, []⟩ S [] [] [] true) v r) := by
 obtain ⟨A, c, rfl, hl⟩ := VR_list h0
 obtain ⟨A2, c2, rfl, hl2⟩ := VR_list h1
 have H := Mem.start ⟨w0, []⟩ S
 have H := H.pA hl
 have H := H.pA hl2
 refine en Tryz.func121 fun a hf => ?_
 rw [laws_eqStringS] at hF
 refine sqz (pz 1 hf fun a hf => ?_)
 refine we (sqz (pz 5 hf fun a hf => ?_))
 refine wl_end (then_n (ib hF hf (fun hc hF => ?_) fun hc hF => ?_))
 ·refine sqz (pz 1 hf fun a hf => ?_)
  refine wl_end (then_n (wp_ret (then_r (?_))))
  obtain rfl := oi hF
  refine rT hf ?_
  exact ⟨_, rfl, H.bel, mk_bool⟩
 ·refine wp_skip (then_n (sq (sqz (pz 1 hf fun a hf => ?_))))
  refine wl_end (then_n ?_)
  obtain ⟨out', hB1, hF⟩ := bs_ hF
  have hf := hf.pn [0, 1, 5]
  have H := H.lt_ [] [] [] [0, 1]
  refine loopC (fun (s : Int) (a : Act) (w : World) => match s with | i => Fr a 26 [(0, (.slice A a'.length c)), (1, (.slice A2 b'.length c2)), (5, (.int .i64 i))] ∧ Mem ⟨w0, []⟩ S [] [] [] [(false, MP.val [(.slice A2 b'.length c2)] (b' : List ByteArray)), (false, MP.val [(.slice A a'.length c)] (a' : List ByteArray))] w) (fun k (s : Int) => laws_eqStringS_L1 fu a' b' k s = some out') (fun s => out' = Out.next s) 0 fu hB1 ⟨hf, H⟩ (fun s h => by cases h) ?_ ?_
  ·rintro fk i a w hR1 hI
   replace hR1 : laws_eqStringS_L1 fu a' b' (fk + 1) i = some out' := hR1
   rw [laws_eqStringS_L1] at hR1
   obtain ⟨hf, H⟩ := hI
   refine sq (sqz (pz 4 hf fun a hf => ?_))
   refine wl_end (then_n (ib hR1 hf (fun hc2 hR1 => ?_) fun hc2 hR1 => ?_))
   ·refine wp_skip (then_n (sq (wp_block (sq (dw [] 9 fun w hb => ?_)))))
    have H := H.keep hb
    refine zp 0 hf trivial fun a hf => ?_
    refine zp 1 hf trivial fun a hf => ?_
    obtain ⟨e, he, hR1⟩ := bs_ hR1
    obtain ⟨p, o, cs, hx, hr, H⟩ := pre_iaddr H Tryz.underlying22 TF.sz9 1 rfl he
    refine tP 2 rfl rfl rfl rfl hf (by kernel_rfl) (fun _ => trivial) (fun w => rq_iaddrE hf rfl rfl rfl hx w) fun a hf => ?_
    obtain rfl := hr
    refine strT (H.lt_ [] [] [] [0]) (fun w H => trivial) fun hS => ?_
    refine zS 3 [] rfl rfl rfl rfl hf hS (fun w H => rq_loadI hf H TF.ls9 0 0 rfl rfl rfl) fun a hf => ?_
    refine zp 4 hf hS fun a hf => ?_
    refine zp 5 hf hS fun a hf => ?_
    obtain ⟨e2, he2, hR1⟩ := bs_ hR1
    obtain ⟨p2, o2, cs2, hx2, hr2, H⟩ := pre_iaddr H Tryz.underlying22 TF.sz9 1 rfl he2
    refine zP 6 rfl rfl rfl rfl hf hS (fun w => rq_iaddrE hf rfl rfl rfl hx2 w) fun a hf => ?_
    obtain rfl := hr2
    refine strT (H.lt_ [] [] [] [0, 1]) (fun w H => H.lt_ [] [] [] [1]) fun hS => ?_
    refine zS 7 [] rfl rfl rfl rfl hf hS (fun w H => rq_loadI hf H TF.ls9 0 0 rfl rfl rfl) fun a hf => ?_
    refine zp 8 hf hS fun a hf => ?_
    refine dk ?_
    refine then_n (ib hR1 hf (fun hc3 hR1 => ?_) fun hc3 hR1 => ?_)
    ·refine sqz (pz 1 hf fun a hf => ?_)
     have hf := hf.pn [4]
     refine wl_end (then_n (wp_ret (blk_r (then_r (then_r (blk_r (then_r (then_r (?_)))))))))
     obtain rfl := oi hR1
     replace hF := on_ret hF
     obtain rfl := oi hF
     refine rT hf ?_
     exact ⟨_, rfl, H.bel, mk_bool⟩
    ·refine wp_skip (blk_n (then_n (reg (pz 3 hf fun a hf => ?_))))
     have hf := hf.pn [0, 1, 5]
     refine wl_end ?_
     have hf := hf.pn [0, 1, 5]
     have H := H.lt_ [] [] [] [2, 3]
     exact then_n ⟨w64 (i + 1), hR1, hf, H⟩
   ·refine wp_exit (then_x (then_x (blk_e (?_))))
    have hf := hf.pn [0, 1, 5]
    have H := H.lt_ [] [] [] [0, 1]
    exact ⟨i, (Option.some.inj hR1).symm, hf, H⟩
  rintro a w ⟨i2, rfl, hf, H⟩
  replace hF := on_next hF
  refine then_n (sqz (pz 1 hf fun a hf => ?_))
  refine wer ?_
  obtain rfl := oi hF
  refine rT hf ?_
  exact ⟨_, rfl, H.bel, mk_bool⟩
theorem laws_eqFiber_ok {S : Nat → Prop} {v0_ : Value} {v1_ : Value} {a' : Fiber} {b' : Fiber} {r : Bool} (h0 : VR w0 S v0_ a') (h1 : VR w0 S v1_ b') (hF : laws_eqFiber fu a' b' = some r) :
    Calls Tryz.prog 187 [v0_, v1_].toArray w0 fun e w' => ∃ v, e = .returned v ∧ (Below w0.heap.size w0 w' ∧ VR w' (St ⟨w0, []⟩ S [] [] [] true) v r) := by
 obtain rfl := Fiber_open h0
 obtain rfl := Fiber_open h1
 have H := Mem.start ⟨w0, []⟩ S
 refine en Tryz.func187 fun a hf => ?_
 rw [laws_eqFiber] at hF
 refine bx hf H fun b2 a w hf H => ?_
 refine wl0 rfl (op_box hf H rfl rfl (by decide) fun b3 a w hf H => ?_)
 refine pz 1 hf fun a hf => ?_
 refine we (sqz (pz 1 hf fun a hf => ?_))
 refine lB 1 hf H TF.ls3 fun a hf => ?_
 refine pz 1 hf fun a hf => ?_
 refine lB 0 hf H TF.ls3 fun a hf => ?_
 refine pz 1 hf fun a hf => ?_
 refine wl_end (then_n (ib hF hf (fun hc hF => ?_) fun hc hF => ?_))
 ·refine sqz (pz 1 hf fun a hf => ?_)
  refine wl_end (then_n (wp_ret (then_r (?_))))
  obtain rfl := oi hF
  refine rT hf ?_
  exact ⟨_, rfl, H.bel, mk_bool⟩
 ·refine wp_skip (then_n (sq (sqz (pz 1 hf fun a hf => ?_))))
  refine lB 1 hf H TF.ls3 fun a hf => ?_
  refine pz 1 hf fun a hf => ?_
  refine lB 0 hf H TF.ls3 fun a hf => ?_
  refine pz 1 hf fun a hf => ?_
  refine wl_end (then_n (ib hF hf (fun hc2 hF => ?_) fun hc2 hF => ?_))
  ·refine sqz (pz 1 hf fun a hf => ?_)
   have hf := hf.pn [4]
   refine wl_end (then_n (wp_ret (then_r (?_))))
   obtain rfl := oi hF
   refine rT hf ?_
   exact ⟨_, rfl, H.bel, mk_bool⟩
  ·refine wp_skip (then_n (sq (sqz (pz 1 hf fun a hf => ?_))))
   refine lB 1 hf H TF.ls3 fun a hf => ?_
   refine pz 1 hf fun a hf => ?_
   refine lB 0 hf H TF.ls3 fun a hf => ?_
   refine pz 1 hf fun a hf => ?_
   have hf := hf.pn [2, 3, 19]
   refine wl_end (then_n (ib hF hf (fun hc3 hF => ?_) fun hc3 hF => ?_))
   ·refine sqz (pz 1 hf fun a hf => ?_)
    refine wl_end (then_n (wp_ret (then_r (?_))))
    obtain rfl := oi hF
    refine rT hf ?_
    exact ⟨_, rfl, H.bel, mk_bool⟩
   ·refine wp_skip (then_n (sq (sqz (pz 1 hf fun a hf => ?_))))
    refine lB 1 hf H TF.ls3 fun a hf => ?_
    refine pz 1 hf fun a hf => ?_
    refine lB 0 hf H TF.ls3 fun a hf => ?_
    refine pz 1 hf fun a hf => ?_
    refine wl_end (then_n (ib hF hf (fun hc4 hF => ?_) fun hc4 hF => ?_))
    ·refine sqz (pz 1 hf fun a hf => ?_)
     refine wl_end (then_n (wp_ret (then_r (?_))))
     obtain rfl := oi hF
     refine rT hf ?_
     exact ⟨_, rfl, H.bel, mk_bool⟩
    ·refine wp_skip (then_n (sqz (pz 1 hf fun a hf => ?_)))
     refine wer ?_
     obtain rfl := oi hF
     refine rT hf ?_
     exact ⟨_, rfl, H.bel, mk_bool⟩
theorem laws_eqFiberS_ok {S : Nat → Prop} {v0_ : Value} {v1_ : Value} {a' : List Fiber} {b' : List Fiber} {r : Bool} (h0 : VR w0 S v0_ a') (h1 : VR w0 S v1_ b') (hF : laws_eqFiberS fu a' b' = some r) :
    Calls Tryz.prog 122 [v0_, v1_].toArray w0 fun e w' => ∃ v, e = .returned v ∧ (Below w0.heap.size w0 w' ∧ VR w' (St ⟨w0, []⟩ S [] [] [] true) v r) := by
 obtain ⟨A, c, rfl, hl⟩ := VR_list h0
 obtain ⟨A2, c2, rfl, hl2⟩ := VR_list h1
 have H := Mem.start ⟨w0, []⟩ S
 have H := H.pA hl
 have H := H.pA hl2
 refine en Tryz.func122 fun a hf => ?_
 rw [laws_eqFiberS] at hF
 refine sqz (pz 1 hf fun a hf => ?_)
 refine we (sqz (pz 5 hf fun a hf => ?_))
 refine wl_end (then_n (ib hF hf (fun hc hF => ?_) fun hc hF => ?_))
 ·refine sqz (pz 1 hf fun a hf => ?_)
  refine wl_end (then_n (wp_ret (then_r (?_))))
  obtain rfl := oi hF
  refine rT hf ?_
  exact ⟨_, rfl, H.bel, mk_bool⟩
 ·refine wp_skip (then_n (sq (sqz (pz 1 hf fun a hf => ?_))))
  refine wl_end (then_n ?_)
  obtain ⟨out', hB1, hF⟩ := bs_ hF
  have hf := hf.pn [0, 1, 5]
  have H := H.lt_ [] [] [] [0, 1]
  refine loopC (fun (s : Int) (a : Act) (w : World) => match s with | i => Fr a 27 [(0, (.slice A a'.length c)), (1, (.slice A2 b'.length c2)), (5, (.int .i64 i))] ∧ Mem ⟨w0, []⟩ S [] [] [] [(false, MP.val [(.slice A2 b'.length c2)] (b' : List Fiber)), (false, MP.val [(.slice A a'.length c)] (a' : List Fiber))] w) (fun k (s : Int) => laws_eqFiberS_L1 fu a' b' k s = some out') (fun s => out' = Out.next s) 0 fu hB1 ⟨hf, H⟩ (fun s h => by cases h) ?_ ?_
  ·rintro fk i a w hR1 hI
   replace hR1 : laws_eqFiberS_L1 fu a' b' (fk + 1) i = some out' := hR1
   rw [laws_eqFiberS_L1] at hR1
   obtain ⟨hf, H⟩ := hI
   refine sq (sqz (pz 4 hf fun a hf => ?_))
   refine wl_end (then_n (ib hR1 hf (fun hc2 hR1 => ?_) fun hc2 hR1 => ?_))
   ·refine wp_skip (then_n (sq (wp_block (sq (dw [] 10 fun w hb => ?_)))))
    have H := H.keep hb
    refine zp 0 hf trivial fun a hf => ?_
    refine zp 1 hf trivial fun a hf => ?_
    obtain ⟨e, he, hR1⟩ := bs_ hR1
    obtain ⟨p, o, cs, hx, hr, H⟩ := pre_iaddr H Tryz.underlying32 TF.sz180 1 rfl he
    refine tP 2 rfl rfl rfl rfl hf (by kernel_rfl) (fun _ => trivial) (fun w => rq_iaddrE hf rfl rfl rfl hx w) fun a hf => ?_
    obtain rfl := Fiber_cells hr
    refine strT (H.lt_ [] [] [] [0]) (fun w H => trivial) fun hS => ?_
    refine zS 3 [] rfl rfl rfl rfl hf hS (fun w H => rq_loadIN hf H TF.la180 0 0 rfl rfl rfl rfl) fun a hf => ?_
    refine zp 4 hf hS fun a hf => ?_
    refine zp 5 hf hS fun a hf => ?_
    obtain ⟨e2, he2, hR1⟩ := bs_ hR1
    obtain ⟨p2, o2, cs2, hx2, hr2, H⟩ := pre_iaddr H Tryz.underlying32 TF.sz180 1 rfl he2
    refine zP 6 rfl rfl rfl rfl hf hS (fun w => rq_iaddrE hf rfl rfl rfl hx2 w) fun a hf => ?_
    obtain rfl := Fiber_cells hr2
    refine strT (H.lt_ [] [] [] [0, 1]) (fun w H => H.lt_ [] [] [] [1]) fun hS => ?_
    refine zS 7 [] rfl rfl rfl rfl hf hS (fun w H => rq_loadIN hf H TF.la180 0 0 rfl rfl rfl rfl) fun a hf => ?_
    obtain ⟨y, hy, hR1⟩ := bs_ hR1
    refine nn 8 rfl (oC hf TF.cl187 (laws_eqFiber_ok (S := TT) Fiber_mkv Fiber_mkv hy) fun v w a hp hf => ?_)
    obtain ⟨hb, hp⟩ := hp
    obtain rfl := VR_bool hp
    have H := H.keep hb
    have hS := H.lt_ [] [] [] [0, 1]
    refine aS hS ?_
    refine zp 9 hf hS fun a hf => ?_
    refine dk ?_
    have hf := hf.pn [0, 1, 5, 26]
    refine then_n (ib hR1 hf (fun hc3 hR1 => ?_) fun hc3 hR1 => ?_)
    ·refine sqz (pz 1 hf fun a hf => ?_)
     refine wl_end (then_n (wp_ret (blk_r (then_r (then_r (blk_r (then_r (then_r (?_)))))))))
     obtain rfl := oi hR1
     replace hF := on_ret hF
     obtain rfl := oi hF
     refine rT hf ?_
     exact ⟨_, rfl, H.bel, mk_bool⟩
    ·refine wp_skip (blk_n (then_n (reg (pz 3 hf fun a hf => ?_))))
     refine wl_end ?_
     have hf := hf.pn [0, 1, 5]
     have H := H.lt_ [] [] [] [2, 3]
     exact then_n ⟨w64 (i + 1), hR1, hf, H⟩
   ·refine wp_exit (then_x (then_x (blk_e (?_))))
    have hf := hf.pn [0, 1, 5]
    have H := H.lt_ [] [] [] [0, 1]
    exact ⟨i, (Option.some.inj hR1).symm, hf, H⟩
  rintro a w ⟨i2, rfl, hf, H⟩
  replace hF := on_next hF
  refine then_n (sqz (pz 1 hf fun a hf => ?_))
  refine wer ?_
  obtain rfl := oi hF
  refine rT hf ?_
  exact ⟨_, rfl, H.bel, mk_bool⟩
theorem laws_eqNetwork_ok {S : Nat → Prop} {v0_ : Value} {v1_ : Value} {a' : Network} {b' : Network} {r : Bool} (h0 : VR w0 S v0_ a') (h1 : VR w0 S v1_ b') (hF : laws_eqNetwork fu a' b' = some r) :
    Calls Tryz.prog 55 [v0_, v1_].toArray w0 fun e w' => ∃ v, e = .returned v ∧ (Below w0.heap.size w0 w' ∧ VR w' (St ⟨w0, []⟩ S [] [] [] true) v r) := by
 obtain ⟨A, c, A2, c2, rfl, hl, hl2⟩ := Network_open h0
 obtain ⟨A3, c3, A4, c4, rfl, hl3, hl4⟩ := Network_open h1
 have H := Mem.start ⟨w0, []⟩ S
 have H := H.pA hl
 have H := H.pA hl2
 have H := H.pA hl3
 have H := H.pA hl4
 refine en Tryz.func55 fun a hf => ?_
 rw [laws_eqNetwork] at hF
 refine bx hf H fun b2 a w hf H => ?_
 refine wl0 rfl (op_box hf H rfl rfl (by decide) fun b3 a w hf H => ?_)
 refine pz 1 hf fun a hf => ?_
 refine we (sqz (pz 1 hf fun a hf => ?_))
 refine lB 1 hf H TF.ls22 fun a hf => ?_
 refine pz 1 hf fun a hf => ?_
 refine lB 0 hf H TF.ls22 fun a hf => ?_
 obtain ⟨y, hy, hF⟩ := bs_ hF
 refine oc hf TF.cl121 (laws_eqStringS_ok (S := TT) (mk_list (H.rt 3 rfl)) (mk_list (H.rt 1 rfl)) hy) fun v w a hp hf => ?_
 obtain ⟨hb, hp⟩ := hp
 obtain rfl := VR_bool hp
 have H := H.keep hb
 refine pz 1 hf fun a hf => ?_
 refine wl_end (then_n (ib hF hf (fun hc hF => ?_) fun hc hF => ?_))
 ·refine sqz (pz 1 hf fun a hf => ?_)
  refine wl_end (then_n (wp_ret (then_r (?_))))
  obtain rfl := oi hF
  refine rT hf ?_
  exact ⟨_, rfl, H.bel, mk_bool⟩
 ·refine wp_skip (then_n (sq (sqz (pz 1 hf fun a hf => ?_))))
  refine lB 1 hf H TF.ls32 fun a hf => ?_
  refine pz 1 hf fun a hf => ?_
  refine lB 0 hf H TF.ls32 fun a hf => ?_
  obtain ⟨y2, hy2, hF⟩ := bs_ hF
  refine oc hf TF.cl122 (laws_eqFiberS_ok (S := TT) (mk_list (H.rt 2 rfl)) (mk_list (H.rt 0 rfl)) hy2) fun v2 w a hp2 hf => ?_
  obtain ⟨hb2, hp2⟩ := hp2
  obtain rfl := VR_bool hp2
  have H := H.keep hb2
  refine pz 1 hf fun a hf => ?_
  have hf := hf.pn [16]
  refine wl_end (then_n (ib hF hf (fun hc2 hF => ?_) fun hc2 hF => ?_))
  ·refine sqz (pz 1 hf fun a hf => ?_)
   refine wl_end (then_n (wp_ret (then_r (?_))))
   obtain rfl := oi hF
   refine rT hf ?_
   exact ⟨_, rfl, H.bel, mk_bool⟩
  ·refine wp_skip (then_n (sqz (pz 1 hf fun a hf => ?_)))
   refine wer ?_
   obtain rfl := oi hF
   refine rT hf ?_
   exact ⟨_, rfl, H.bel, mk_bool⟩
theorem laws_eqIntS_ok {S : Nat → Prop} {v0_ : Value} {v1_ : Value} {a' : List Int} {b' : List Int} {r : Bool} (h0 : VR w0 S v0_ a') (h1 : VR w0 S v1_ b') (hF : laws_eqIntS fu a' b' = some r) :
    Calls Tryz.prog 232 [v0_, v1_].toArray w0 fun e w' => ∃ v, e = .returned v ∧ (Below w0.heap.size w0 w' ∧ VR w' (St ⟨w0, []⟩ S [] [] [] true) v r) := by
 obtain ⟨A, c, rfl, hl⟩ := VR_list h0
 obtain ⟨A2, c2, rfl, hl2⟩ := VR_list h1
 have H := Mem.start ⟨w0, []⟩ S
 have H := H.pA hl
 have H := H.pA hl2
 refine en Tryz.func232 fun a hf => ?_
 rw [laws_eqIntS] at hF
 refine sqz (pz 1 hf fun a hf => ?_)
 refine we (sqz (pz 5 hf fun a hf => ?_))
 refine wl_end (then_n (ib hF hf (fun hc hF => ?_) fun hc hF => ?_))
 ·refine sqz (pz 1 hf fun a hf => ?_)
  refine wl_end (then_n (wp_ret (then_r (?_))))
  obtain rfl := oi hF
  refine rT hf ?_
  exact ⟨_, rfl, H.bel, mk_bool⟩
 ·refine wp_skip (then_n (sq (sqz (pz 1 hf fun a hf => ?_))))
  refine wl_end (then_n ?_)
  obtain ⟨out', hB1, hF⟩ := bs_ hF
  have hf := hf.pn [0, 1, 5]
  have H := H.lt_ [] [] [] [0, 1]
  refine loopC (fun (s : Int) (a : Act) (w : World) => match s with | i => Fr a 26 [(0, (.slice A a'.length c)), (1, (.slice A2 b'.length c2)), (5, (.int .i64 i))] ∧ Mem ⟨w0, []⟩ S [] [] [] [(false, MP.val [(.slice A2 b'.length c2)] (b' : List Int)), (false, MP.val [(.slice A a'.length c)] (a' : List Int))] w) (fun k (s : Int) => laws_eqIntS_L1 fu a' b' k s = some out') (fun s => out' = Out.next s) 0 fu hB1 ⟨hf, H⟩ (fun s h => by cases h) ?_ ?_
  ·rintro fk i a w hR1 hI
   replace hR1 : laws_eqIntS_L1 fu a' b' (fk + 1) i = some out' := hR1
   rw [laws_eqIntS_L1] at hR1
   obtain ⟨hf, H⟩ := hI
   refine sq (sqz (pz 4 hf fun a hf => ?_))
   refine wl_end (then_n (ib hR1 hf (fun hc2 hR1 => ?_) fun hc2 hR1 => ?_))
   ·refine wp_skip (then_n (sq (wp_block (sq (dw [] 9 fun w hb => ?_)))))
    have H := H.keep hb
    refine zp 0 hf trivial fun a hf => ?_
    refine zp 1 hf trivial fun a hf => ?_
    obtain ⟨e, he, hR1⟩ := bs_ hR1
    obtain ⟨p, o, cs, hx, hr, H⟩ := pre_iaddr H Tryz.underlying47 TF.sz3 1 rfl he
    refine tP 2 rfl rfl rfl rfl hf (by kernel_rfl) (fun _ => trivial) (fun w => rq_iaddrE hf rfl rfl rfl hx w) fun a hf => ?_
    obtain rfl := hr
    refine strT (H.lt_ [] [] [] [0]) (fun w H => trivial) fun hS => ?_
    refine zS 3 [] rfl rfl rfl rfl hf hS (fun w H => rq_loadI hf H TF.ls3 0 0 rfl rfl rfl) fun a hf => ?_
    refine zp 4 hf hS fun a hf => ?_
    refine zp 5 hf hS fun a hf => ?_
    obtain ⟨e2, he2, hR1⟩ := bs_ hR1
    obtain ⟨p2, o2, cs2, hx2, hr2, H⟩ := pre_iaddr H Tryz.underlying47 TF.sz3 1 rfl he2
    refine zP 6 rfl rfl rfl rfl hf hS (fun w => rq_iaddrE hf rfl rfl rfl hx2 w) fun a hf => ?_
    obtain rfl := hr2
    refine strT (H.lt_ [] [] [] [0, 1]) (fun w H => H.lt_ [] [] [] [1]) fun hS => ?_
    refine zS 7 [] rfl rfl rfl rfl hf hS (fun w H => rq_loadI hf H TF.ls3 0 0 rfl rfl rfl) fun a hf => ?_
    refine zp 8 hf hS fun a hf => ?_
    refine dk ?_
    refine then_n (ib hR1 hf (fun hc3 hR1 => ?_) fun hc3 hR1 => ?_)
    ·refine sqz (pz 1 hf fun a hf => ?_)
     have hf := hf.pn [4]
     refine wl_end (then_n (wp_ret (blk_r (then_r (then_r (blk_r (then_r (then_r (?_)))))))))
     obtain rfl := oi hR1
     replace hF := on_ret hF
     obtain rfl := oi hF
     refine rT hf ?_
     exact ⟨_, rfl, H.bel, mk_bool⟩
    ·refine wp_skip (blk_n (then_n (reg (pz 3 hf fun a hf => ?_))))
     have hf := hf.pn [0, 1, 5]
     refine wl_end ?_
     have hf := hf.pn [0, 1, 5]
     have H := H.lt_ [] [] [] [2, 3]
     exact then_n ⟨w64 (i + 1), hR1, hf, H⟩
   ·refine wp_exit (then_x (then_x (blk_e (?_))))
    have hf := hf.pn [0, 1, 5]
    have H := H.lt_ [] [] [] [0, 1]
    exact ⟨i, (Option.some.inj hR1).symm, hf, H⟩
  rintro a w ⟨i2, rfl, hf, H⟩
  replace hF := on_next hF
  refine then_n (sqz (pz 1 hf fun a hf => ?_))
  refine wer ?_
  obtain rfl := oi hF
  refine rT hf ?_
  exact ⟨_, rfl, H.bel, mk_bool⟩
theorem laws_eqRoute_ok {S : Nat → Prop} {v0_ : Value} {v1_ : Value} {a' : Route} {b' : Route} {r : Bool} (h0 : VR w0 S v0_ a') (h1 : VR w0 S v1_ b') (hF : laws_eqRoute fu a' b' = some r) :
    Calls Tryz.prog 188 [v0_, v1_].toArray w0 fun e w' => ∃ v, e = .returned v ∧ (Below w0.heap.size w0 w' ∧ VR w' (St ⟨w0, []⟩ S [] [] [] true) v r) := by
 obtain ⟨A, c, rfl, hl⟩ := Route_open h0
 obtain ⟨A2, c2, rfl, hl2⟩ := Route_open h1
 have H := Mem.start ⟨w0, []⟩ S
 have H := H.pA hl
 have H := H.pA hl2
 refine en Tryz.func188 fun a hf => ?_
 rw [laws_eqRoute] at hF
 refine bx hf H fun b2 a w hf H => ?_
 refine wl0 rfl (op_box hf H rfl rfl (by decide) fun b3 a w hf H => ?_)
 refine pz 1 hf fun a hf => ?_
 refine we (sqz (pz 1 hf fun a hf => ?_))
 refine lB 1 hf H TF.ls3 fun a hf => ?_
 refine pz 1 hf fun a hf => ?_
 refine lB 0 hf H TF.ls3 fun a hf => ?_
 refine pz 1 hf fun a hf => ?_
 refine wl_end (then_n (ib hF hf (fun hc hF => ?_) fun hc hF => ?_))
 ·refine sqz (pz 1 hf fun a hf => ?_)
  refine wl_end (then_n (wp_ret (then_r (?_))))
  obtain rfl := oi hF
  refine rT hf ?_
  exact ⟨_, rfl, H.bel, mk_bool⟩
 ·refine wp_skip (then_n (sq (sqz (pz 1 hf fun a hf => ?_))))
  refine lB 1 hf H TF.ls47 fun a hf => ?_
  refine pz 1 hf fun a hf => ?_
  refine lB 0 hf H TF.ls47 fun a hf => ?_
  obtain ⟨y, hy, hF⟩ := bs_ hF
  refine oc hf TF.cl232 (laws_eqIntS_ok (S := TT) (mk_list (H.rt 1 rfl)) (mk_list (H.rt 0 rfl)) hy) fun v w a hp hf => ?_
  obtain ⟨hb, hp⟩ := hp
  obtain rfl := VR_bool hp
  have H := H.keep hb
  refine pz 1 hf fun a hf => ?_
  have hf := hf.pn [15]
  refine wl_end (then_n (ib hF hf (fun hc2 hF => ?_) fun hc2 hF => ?_))
  ·refine sqz (pz 1 hf fun a hf => ?_)
   refine wl_end (then_n (wp_ret (then_r (?_))))
   obtain rfl := oi hF
   refine rT hf ?_
   exact ⟨_, rfl, H.bel, mk_bool⟩
  ·refine wp_skip (then_n (sqz (pz 1 hf fun a hf => ?_)))
   refine wer ?_
   obtain rfl := oi hF
   refine rT hf ?_
   exact ⟨_, rfl, H.bel, mk_bool⟩
theorem laws_eqBlock_ok {S : Nat → Prop} {v0_ : Value} {v1_ : Value} {a' : Block} {b' : Block} {r : Bool} (h0 : VR w0 S v0_ a') (h1 : VR w0 S v1_ b') (hF : laws_eqBlock fu a' b' = some r) :
    Calls Tryz.prog 189 [v0_, v1_].toArray w0 fun e w' => ∃ v, e = .returned v ∧ (Below w0.heap.size w0 w' ∧ VR w' (St ⟨w0, []⟩ S [] [] [] true) v r) := by
 obtain rfl := Block_open h0
 obtain rfl := Block_open h1
 have H := Mem.start ⟨w0, []⟩ S
 refine en Tryz.func189 fun a hf => ?_
 rw [laws_eqBlock] at hF
 refine bx hf H fun b2 a w hf H => ?_
 refine wl0 rfl (op_box hf H rfl rfl (by decide) fun b3 a w hf H => ?_)
 refine pz 1 hf fun a hf => ?_
 refine we (sqz (pz 1 hf fun a hf => ?_))
 refine lB 1 hf H TF.ls3 fun a hf => ?_
 refine pz 1 hf fun a hf => ?_
 refine lB 0 hf H TF.ls3 fun a hf => ?_
 refine pz 1 hf fun a hf => ?_
 refine wl_end (then_n (ib hF hf (fun hc hF => ?_) fun hc hF => ?_))
 ·refine sqz (pz 1 hf fun a hf => ?_)
  refine wl_end (then_n (wp_ret (then_r (?_))))
  obtain rfl := oi hF
  refine rT hf ?_
  exact ⟨_, rfl, H.bel, mk_bool⟩
 ·refine wp_skip (then_n (sq (sqz (pz 1 hf fun a hf => ?_))))
  refine lB 1 hf H TF.ls3 fun a hf => ?_
  refine pz 1 hf fun a hf => ?_
  refine lB 0 hf H TF.ls3 fun a hf => ?_
  refine pz 1 hf fun a hf => ?_
  have hf := hf.pn [14]
  refine wl_end (then_n (ib hF hf (fun hc2 hF => ?_) fun hc2 hF => ?_))
  ·refine sqz (pz 1 hf fun a hf => ?_)
   refine wl_end (then_n (wp_ret (then_r (?_))))
   obtain rfl := oi hF
   refine rT hf ?_
   exact ⟨_, rfl, H.bel, mk_bool⟩
  ·refine wp_skip (then_n (sqz (pz 1 hf fun a hf => ?_)))
   refine wer ?_
   obtain rfl := oi hF
   refine rT hf ?_
   exact ⟨_, rfl, H.bel, mk_bool⟩
theorem laws_eqLight_ok {S : Nat → Prop} {v0_ : Value} {v1_ : Value} {a' : Light} {b' : Light} {r : Bool} (h0 : VR w0 S v0_ a') (h1 : VR w0 S v1_ b') (hF : laws_eqLight fu a' b' = some r) :
    Calls Tryz.prog 123 [v0_, v1_].toArray w0 fun e w' => ∃ v, e = .returned v ∧ (Below w0.heap.size w0 w' ∧ VR w' (St ⟨w0, []⟩ S [] [] [] true) v r) := by
 obtain ⟨A, c, rfl, hl⟩ := Light_open h0
 obtain ⟨A2, c2, rfl, hl2⟩ := Light_open h1
 have H := Mem.start ⟨w0, []⟩ S
 have H := H.pA hl
 have H := H.pA hl2
 refine en Tryz.func123 fun a hf => ?_
 rw [laws_eqLight] at hF
 refine bx hf H fun b2 a w hf H => ?_
 refine wl0 rfl (op_box hf H rfl rfl (by decide) fun b3 a w hf H => ?_)
 refine pz 1 hf fun a hf => ?_
 refine we (sqz (pz 1 hf fun a hf => ?_))
 refine lB 1 hf H TF.ls3 fun a hf => ?_
 refine pz 1 hf fun a hf => ?_
 refine lB 0 hf H TF.ls3 fun a hf => ?_
 refine pz 1 hf fun a hf => ?_
 refine wl_end (then_n (ib hF hf (fun hc hF => ?_) fun hc hF => ?_))
 ·refine sqz (pz 1 hf fun a hf => ?_)
  refine wl_end (then_n (wp_ret (then_r (?_))))
  obtain rfl := oi hF
  refine rT hf ?_
  exact ⟨_, rfl, H.bel, mk_bool⟩
 ·refine wp_skip (then_n (sq (sqz (pz 1 hf fun a hf => ?_))))
  refine lN 1 hf H TF.la59 fun a hf => ?_
  refine pz 1 hf fun a hf => ?_
  refine lN 0 hf H TF.la59 fun a hf => ?_
  obtain ⟨y, hy, hF⟩ := bs_ hF
  refine oc hf TF.cl188 (laws_eqRoute_ok (S := TT) (Route_mkv (x := a'.Route) (H.rt 1 rfl)) (Route_mkv (x := b'.Route) (H.rt 0 rfl)) hy) fun v w a hp hf => ?_
  obtain ⟨hb, hp⟩ := hp
  obtain rfl := VR_bool hp
  have H := H.keep hb
  refine pz 1 hf fun a hf => ?_
  have hf := hf.pn [2, 3, 15]
  refine wl_end (then_n (ib hF hf (fun hc2 hF => ?_) fun hc2 hF => ?_))
  ·refine sqz (pz 1 hf fun a hf => ?_)
   refine wl_end (then_n (wp_ret (then_r (?_))))
   obtain rfl := oi hF
   refine rT hf ?_
   exact ⟨_, rfl, H.bel, mk_bool⟩
  ·refine wp_skip (then_n (sq (sqz (pz 1 hf fun a hf => ?_))))
   refine lN 1 hf H TF.la71 fun a hf => ?_
   refine pz 1 hf fun a hf => ?_
   refine lN 0 hf H TF.la71 fun a hf => ?_
   obtain ⟨y2, hy2, hF⟩ := bs_ hF
   refine oc hf TF.cl189 (laws_eqBlock_ok (S := TT) Block_mkv Block_mkv hy2) fun v2 w a hp2 hf => ?_
   obtain ⟨hb2, hp2⟩ := hp2
   obtain rfl := VR_bool hp2
   have H := H.keep hb2
   refine pz 1 hf fun a hf => ?_
   refine wl_end (then_n (ib hF hf (fun hc3 hF => ?_) fun hc3 hF => ?_))
   ·refine sqz (pz 1 hf fun a hf => ?_)
    refine wl_end (then_n (wp_ret (then_r (?_))))
    obtain rfl := oi hF
    refine rT hf ?_
    exact ⟨_, rfl, H.bel, mk_bool⟩
   ·refine wp_skip (then_n (sqz (pz 1 hf fun a hf => ?_)))
    refine wer ?_
    obtain rfl := oi hF
    refine rT hf ?_
    exact ⟨_, rfl, H.bel, mk_bool⟩
theorem laws_eqLightS_ok {S : Nat → Prop} {v0_ : Value} {v1_ : Value} {a' : List Light} {b' : List Light} {r : Bool} (h0 : VR w0 S v0_ a') (h1 : VR w0 S v1_ b') (hF : laws_eqLightS fu a' b' = some r) :
    Calls Tryz.prog 56 [v0_, v1_].toArray w0 fun e w' => ∃ v, e = .returned v ∧ (Below w0.heap.size w0 w' ∧ VR w' (St ⟨w0, []⟩ S [] [] [] true) v r) := by
 obtain ⟨A, c, rfl, hl⟩ := VR_list h0
 obtain ⟨A2, c2, rfl, hl2⟩ := VR_list h1
 have H := Mem.start ⟨w0, []⟩ S
 have H := H.pA hl
 have H := H.pA hl2
 refine en Tryz.func56 fun a hf => ?_
 rw [laws_eqLightS] at hF
 refine sqz (pz 1 hf fun a hf => ?_)
 refine we (sqz (pz 5 hf fun a hf => ?_))
 refine wl_end (then_n (ib hF hf (fun hc hF => ?_) fun hc hF => ?_))
 ·refine sqz (pz 1 hf fun a hf => ?_)
  refine wl_end (then_n (wp_ret (then_r (?_))))
  obtain rfl := oi hF
  refine rT hf ?_
  exact ⟨_, rfl, H.bel, mk_bool⟩
 ·refine wp_skip (then_n (sq (sqz (pz 1 hf fun a hf => ?_))))
  refine wl_end (then_n ?_)
  obtain ⟨out', hB1, hF⟩ := bs_ hF
  have hf := hf.pn [0, 1, 5]
  have H := H.lt_ [] [] [] [0, 1]
  refine loopC (fun (s : Int) (a : Act) (w : World) => match s with | i => Fr a 27 [(0, (.slice A a'.length c)), (1, (.slice A2 b'.length c2)), (5, (.int .i64 i))] ∧ Mem ⟨w0, []⟩ S [] [] [] [(false, MP.val [(.slice A2 b'.length c2)] (b' : List Light)), (false, MP.val [(.slice A a'.length c)] (a' : List Light))] w) (fun k (s : Int) => laws_eqLightS_L1 fu a' b' k s = some out') (fun s => out' = Out.next s) 0 fu hB1 ⟨hf, H⟩ (fun s h => by cases h) ?_ ?_
  ·rintro fk i a w hR1 hI
   replace hR1 : laws_eqLightS_L1 fu a' b' (fk + 1) i = some out' := hR1
   rw [laws_eqLightS_L1] at hR1
   obtain ⟨hf, H⟩ := hI
   refine sq (sqz (pz 4 hf fun a hf => ?_))
   refine wl_end (then_n (ib hR1 hf (fun hc2 hR1 => ?_) fun hc2 hR1 => ?_))
   ·refine wp_skip (then_n (sq (wp_block (sq (dw [] 10 fun w hb => ?_)))))
    have H := H.keep hb
    refine zp 0 hf trivial fun a hf => ?_
    refine zp 1 hf trivial fun a hf => ?_
    obtain ⟨e, he, hR1⟩ := bs_ hR1
    obtain ⟨p, o, cs, hx, hr, H⟩ := pre_iaddr H Tryz.underlying35 TF.sz73 1 rfl he
    refine tP 2 rfl rfl rfl rfl hf (by kernel_rfl) (fun _ => trivial) (fun w => rq_iaddrE hf rfl rfl rfl hx w) fun a hf => ?_
    obtain ⟨A3, c3, rfl, hl3⟩ := Light_cells hr
    have H := H.pF hl3
    refine strT (H.lt_ [] [] [] [1]) (fun w H => trivial) fun hS => ?_
    refine zS 3 [] rfl rfl rfl rfl hf hS (fun w H => rq_loadIN hf H TF.la73 0 0 rfl rfl rfl rfl) fun a hf => ?_
    refine zp 4 hf hS fun a hf => ?_
    refine zp 5 hf hS fun a hf => ?_
    obtain ⟨e2, he2, hR1⟩ := bs_ hR1
    obtain ⟨p2, o2, cs2, hx2, hr2, H⟩ := pre_iaddr H Tryz.underlying35 TF.sz73 2 rfl he2
    refine zP 6 rfl rfl rfl rfl hf hS (fun w => rq_iaddrE hf rfl rfl rfl hx2 w) fun a hf => ?_
    obtain ⟨A4, c4, rfl, hl4⟩ := Light_cells hr2
    have H := H.pF hl4
    refine strT (H.lt_ [] [] [] [1, 3]) (fun w H => H.lt_ [] [] [] [1]) fun hS => ?_
    refine zS 7 [] rfl rfl rfl rfl hf hS (fun w H => rq_loadIN hf H TF.la73 0 0 rfl rfl rfl rfl) fun a hf => ?_
    obtain ⟨y, hy, hR1⟩ := bs_ hR1
    refine nn 8 rfl (oC hf TF.cl123 (laws_eqLight_ok (S := TT) (Light_mkv (x := e) (H.rt 2 rfl)) (Light_mkv (x := e2) (H.rt 0 rfl)) hy) fun v w a hp hf => ?_)
    obtain ⟨hb, hp⟩ := hp
    obtain rfl := VR_bool hp
    have H := H.keep hb
    have hS := H.lt_ [] [] [] [1, 3]
    refine aS hS ?_
    refine zp 9 hf hS fun a hf => ?_
    refine dk ?_
    have hf := hf.pn [0, 1, 5, 26]
    refine then_n (ib hR1 hf (fun hc3 hR1 => ?_) fun hc3 hR1 => ?_)
    ·refine sqz (pz 1 hf fun a hf => ?_)
     refine wl_end (then_n (wp_ret (blk_r (then_r (then_r (blk_r (then_r (then_r (?_)))))))))
     obtain rfl := oi hR1
     replace hF := on_ret hF
     obtain rfl := oi hF
     refine rT hf ?_
     exact ⟨_, rfl, H.bel, mk_bool⟩
    ·refine wp_skip (blk_n (then_n (reg (pz 3 hf fun a hf => ?_))))
     refine wl_end ?_
     have hf := hf.pn [0, 1, 5]
     have H := H.lt_ [] [] [] [4, 5]
     exact then_n ⟨w64 (i + 1), hR1, hf, H⟩
   ·refine wp_exit (then_x (then_x (blk_e (?_))))
    have hf := hf.pn [0, 1, 5]
    have H := H.lt_ [] [] [] [0, 1]
    exact ⟨i, (Option.some.inj hR1).symm, hf, H⟩
  rintro a w ⟨i2, rfl, hf, H⟩
  replace hF := on_next hF
  refine then_n (sqz (pz 1 hf fun a hf => ?_))
  refine wer ?_
  obtain rfl := oi hF
  refine rT hf ?_
  exact ⟨_, rfl, H.bel, mk_bool⟩
theorem laws_eqPlan_ok {S : Nat → Prop} {v0_ : Value} {v1_ : Value} {a' : Plan} {b' : Plan} {r : Bool} (h0 : VR w0 S v0_ a') (h1 : VR w0 S v1_ b') (hF : laws_eqPlan fu a' b' = some r) :
    Calls Tryz.prog 13 [v0_, v1_].toArray w0 fun e w' => ∃ v, e = .returned v ∧ (Below w0.heap.size w0 w' ∧ VR w' (St ⟨w0, []⟩ S [] [] [] true) v r) := by
 obtain ⟨A, c, A2, c2, A3, c3, rfl, hl, hl2, hl3⟩ := Plan_open h0
 obtain ⟨A4, c4, A5, c5, A6, c6, rfl, hl4, hl5, hl6⟩ := Plan_open h1
 have H := Mem.start ⟨w0, []⟩ S
 have H := H.pA hl
 have H := H.pA hl2
 have H := H.pA hl3
 have H := H.pA hl4
 have H := H.pA hl5
 have H := H.pA hl6
 refine en Tryz.func13 fun a hf => ?_
 rw [laws_eqPlan] at hF
 refine bx hf H fun b2 a w hf H => ?_
 refine wl0 rfl (op_box hf H rfl rfl (by decide) fun b3 a w hf H => ?_)
 refine pz 1 hf fun a hf => ?_
 refine we (sqz (pz 1 hf fun a hf => ?_))
 refine lN 1 hf H TF.la34 fun a hf => ?_
 refine pz 1 hf fun a hf => ?_
 refine lN 0 hf H TF.la34 fun a hf => ?_
 obtain ⟨y, hy, hF⟩ := bs_ hF
 refine oc hf TF.cl55 (laws_eqNetwork_ok (S := TT) (Network_mkv (x := a'.Network) (H.rt 5 rfl) (H.rt 4 rfl)) (Network_mkv (x := b'.Network) (H.rt 2 rfl) (H.rt 1 rfl)) hy) fun v w a hp hf => ?_
 obtain ⟨hb, hp⟩ := hp
 obtain rfl := VR_bool hp
 have H := H.keep hb
 refine pz 1 hf fun a hf => ?_
 refine wl_end (then_n (ib hF hf (fun hc hF => ?_) fun hc hF => ?_))
 ·refine sqz (pz 1 hf fun a hf => ?_)
  refine wl_end (then_n (wp_ret (then_r (?_))))
  obtain rfl := oi hF
  refine rT hf ?_
  exact ⟨_, rfl, H.bel, mk_bool⟩
 ·refine wp_skip (then_n (sq (sqz (pz 1 hf fun a hf => ?_))))
  refine lB 1 hf H TF.ls35 fun a hf => ?_
  refine pz 1 hf fun a hf => ?_
  refine lB 0 hf H TF.ls35 fun a hf => ?_
  obtain ⟨y2, hy2, hF⟩ := bs_ hF
  refine oc hf TF.cl56 (laws_eqLightS_ok (S := TT) (mk_list (H.rt 3 rfl)) (mk_list (H.rt 0 rfl)) hy2) fun v2 w a hp2 hf => ?_
  obtain ⟨hb2, hp2⟩ := hp2
  obtain rfl := VR_bool hp2
  have H := H.keep hb2
  refine pz 1 hf fun a hf => ?_
  have hf := hf.pn [16]
  refine wl_end (then_n (ib hF hf (fun hc2 hF => ?_) fun hc2 hF => ?_))
  ·refine sqz (pz 1 hf fun a hf => ?_)
   refine wl_end (then_n (wp_ret (then_r (?_))))
   obtain rfl := oi hF
   refine rT hf ?_
   exact ⟨_, rfl, H.bel, mk_bool⟩
  ·refine wp_skip (then_n (sqz (pz 1 hf fun a hf => ?_)))
   refine wer ?_
   obtain rfl := oi hF
   refine rT hf ?_
   exact ⟨_, rfl, H.bel, mk_bool⟩
theorem spec_l2Own_ok {S : Nat → Prop} {v0_ : Value} {n' : Network} {r : Network} (h0 : VR w0 S v0_ n') (hF : spec_l2Own fu n' = some r) :
    Calls Tryz.prog 124 [v0_].toArray w0 fun e w' => ∃ v, e = .returned v ∧ (Below w0.heap.size w0 w' ∧ ∃ F0, VO w' F0 v r ∧ New w0 w' F0) := by
 obtain ⟨A, c, A2, c2, rfl, hl, hl2⟩ := Network_open h0
 have H := Mem.start ⟨w0, []⟩ S
 have H := H.pA hl
 have H := H.pA hl2
 refine en Tryz.func124 fun a hf => ?_
 rw [spec_l2Own] at hF
 refine bx hf H fun b' a w hf H => ?_
 refine aL hf H TF.zv34 fun b2 a w hf H => ?_
 refine wl_end (then_n (sq ?_))
 obtain ⟨l, hl_, hF⟩ := bs_ hF
 obtain ⟨l2, hl2_, hF⟩ := bs_ hF
 refine mid (fun a w => ∃ (A4 : Option Addr) (c3 : Nat) (E : Go.TypeId) (A6 : Option Addr) (c4 : Nat) (E2 : Go.TypeId), Fr a 12 [(2, (.pointer (some ⟨b2, 0, none⟩)))] ∧ Mem ⟨w0, []⟩ S [⟨b2, 34, [(.slice A4 l.length c3), (.slice A6 l2.length c4)]⟩] [⟨.sh true, E2, A6, c4, (l2 : List Fiber)⟩, ⟨.sh true, E, A4, c3, (l : List ByteArray)⟩] [] [] w) ?_ ?_
 ·refine dw [9] 10 fun w hb => ?_
  have H := H.keep hb
  refine zp 1 hf trivial fun a hf => ?_
  refine strT (H.lt_ [false, true] [] [] []) (fun w H => trivial) fun hS => ?_
  refine zS 2 [2, 3, 7, 8, 9] rfl rfl rfl rfl hf hS (fun w H => rq_loadB hf H TF.ls22 0 rfl rfl rfl) fun a hf => ?_
  refine zp 5 hf hS fun a hf => ?_
  refine zS 6 [6, 7, 8, 9] rfl rfl rfl rfl hf hS (fun w H => rq_loadB hf H TF.ls32 0 rfl rfl rfl) fun a hf => ?_
  refine on2 (i := 0) (j := 4) (bi := [true, true, true, false, false, true, true, false, false, false]) (bj := [false, true, true, false, true, true, true, false, false, false]) (by kernel_rfl) rfl rfl rfl rfl rfl rfl ?_ ?_
  ·refine (bl hf H 9 ([] : List ByteArray) [] el0 fun A3 a w hf H => ?_)
   have hS := H.lt_ [false, true] [false] [] []
   refine aS hS ?_
   refine on2 (i := 3) (j := 4) (bi := [true, true, true, true, false, true, true, false, false, false]) (bj := [true, true, true, false, true, true, true, false, false, false]) (by kernel_rfl) rfl rfl rfl rfl rfl rfl ?_ ?_
   ·have H := H.rowWeak 0 rfl
    refine (op_appI hf H Tryz.underlying22 TF.ai9 rfl (by decide) 0 1 rfl rfl rfl rfl (.inl rfl) hl_ (by decide) fun E A4 c3 a w hf H => ?_)
    have H := H.rowOwn 0 rfl rfl
    have H := H.rowSh 0 rfl
    have hS := H.lt_ [false, true] [false] [] []
    refine aS hS ?_
    refine nn 4 rfl (bl hf H 180 ([] : List Fiber) [] el0 fun A5 a w hf H => ?_)
    have hS := H.lt_ [false, true] [false, false] [] []
    refine aS hS ?_
    have H := H.rowWeak 0 rfl
    refine nn 7 rfl (op_appI hf H Tryz.underlying32 TF.ai180 rfl (by decide) 0 0 rfl rfl rfl rfl (.inl rfl) hl2_ (by decide) fun E2 A6 c4 a w hf H => ?_)
    have H := H.rowOwn 0 rfl rfl
    have H := H.rowSh 0 rfl
    have hS := H.lt_ [false, true] [false, false] [] []
    refine aS hS ?_
    refine zP 8 rfl rfl rfl rfl hf hS (fun w => rq_build hf (cs := [(.slice A4 l.length c3), (.slice A6 l2.length c4)]) rfl (fun w => by kernel_rfl)) fun a hf => ?_
    refine nn 9 rfl (op_storeB hf H 0 TF.sz34 rfl rfl rfl rfl rfl rfl (nle rfl) fun w H => ?_)
    refine ⟨fun h => absurd h (by decide), ?_⟩
    refine dk ?_
    have hf := hf.pn [2]
    have H := H.lt_ [true, false] [true, true] [] []
    exact ⟨A4, c3, E, A6, c4, E2, hf, H⟩
   ·refine (bl hf H 180 ([] : List Fiber) [] el0 fun A4 a w hf H => ?_)
    have hS := H.lt_ [false, true] [false, false] [] []
    refine aS hS ?_
    have H := H.rowWeak 1 rfl
    refine nn 3 rfl (op_appI hf H Tryz.underlying22 TF.ai9 rfl (by decide) 1 1 rfl rfl rfl rfl (.inl rfl) hl_ (by decide) fun E A5 c3 a w hf H => ?_)
    have H := H.rowOwn 1 rfl rfl
    have H := H.rowSh 1 rfl
    have hS := H.lt_ [false, true] [false, false] [] []
    refine aS hS ?_
    have H := H.rowWeak 0 rfl
    refine nn 7 rfl (op_appI hf H Tryz.underlying32 TF.ai180 rfl (by decide) 0 0 rfl rfl rfl rfl (.inl rfl) hl2_ (by decide) fun E2 A6 c4 a w hf H => ?_)
    have H := H.rowOwn 0 rfl rfl
    have H := H.rowSh 0 rfl
    have hS := H.lt_ [false, true] [false, false] [] []
    refine aS hS ?_
    refine zP 8 rfl rfl rfl rfl hf hS (fun w => rq_build hf (cs := [(.slice A5 l.length c3), (.slice A6 l2.length c4)]) rfl (fun w => by kernel_rfl)) fun a hf => ?_
    refine nn 9 rfl (op_storeB hf H 0 TF.sz34 rfl rfl rfl rfl rfl rfl (nle rfl) fun w H => ?_)
    refine ⟨fun h => absurd h (by decide), ?_⟩
    refine dk ?_
    have hf := hf.pn [2]
    have H := H.lt_ [true, false] [true, true] [] []
    exact ⟨A5, c3, E, A6, c4, E2, hf, H⟩
  ·refine (bl hf H 180 ([] : List Fiber) [] el0 fun A3 a w hf H => ?_)
   have hS := H.lt_ [false, true] [false] [] []
   refine aS hS ?_
   refine nn 0 rfl (bl hf H 9 ([] : List ByteArray) [] el0 fun A4 a w hf H => ?_)
   have hS := H.lt_ [false, true] [false, false] [] []
   refine aS hS ?_
   have H := H.rowWeak 0 rfl
   refine nn 3 rfl (op_appI hf H Tryz.underlying22 TF.ai9 rfl (by decide) 0 1 rfl rfl rfl rfl (.inl rfl) hl_ (by decide) fun E A5 c3 a w hf H => ?_)
   have H := H.rowOwn 0 rfl rfl
   have H := H.rowSh 0 rfl
   have hS := H.lt_ [false, true] [false, false] [] []
   refine aS hS ?_
   have H := H.rowWeak 1 rfl
   refine nn 7 rfl (op_appI hf H Tryz.underlying32 TF.ai180 rfl (by decide) 1 0 rfl rfl rfl rfl (.inl rfl) hl2_ (by decide) fun E2 A6 c4 a w hf H => ?_)
   have H := H.rowOwn 1 rfl rfl
   have H := H.rowSh 1 rfl
   have hS := H.lt_ [false, true] [false, false] [] []
   refine aS hS ?_
   refine zP 8 rfl rfl rfl rfl hf hS (fun w => rq_build hf (cs := [(.slice A5 l.length c3), (.slice A6 l2.length c4)]) rfl (fun w => by kernel_rfl)) fun a hf => ?_
   refine nn 9 rfl (op_storeB hf H 0 TF.sz34 rfl rfl rfl rfl rfl rfl (nle rfl) fun w H => ?_)
   refine ⟨fun h => absurd h (by decide), ?_⟩
   refine dk ?_
   have H := H.frontR 1 rfl
   have hf := hf.pn [2]
   have H := H.lt_ [true, false] [true, true] [] []
   exact ⟨A5, c3, E, A6, c4, E2, hf, H⟩
 rintro a w ⟨A4, c3, E, A6, c4, E2, hf, H⟩
 refine then_n (wp_ret (?_))
 have H := H.rowOwn 1 rfl rfl
 obtain ⟨F, H⟩ := H.freezeOwn 1 rfl
 have H := H.lend 0 rfl
 have H := H.rowOwn 0 rfl rfl
 obtain ⟨F2, H⟩ := H.freezeOwn 0 rfl
 have H := H.lend 0 rfl
 have H := H.frontD 1 rfl
 obtain rfl := oi hF
 refine ret_1 hf rfl (rv_cellN hf H 0 TF.la34 rfl rfl rfl) ?_
 have hN := H.ends2
 exact ⟨_, rfl, H.bel, (F ++ F2), ⟨_, Network_ownmk (x := ({ Nodes := l, Fibers := l2 } : Network)) (H.ownAt 0 rfl) (H.ownAt 1 rfl), rfl⟩, by first | exact hN | simpa using hN⟩
theorem spec_l1Own_ok {S : Nat → Prop} {v0_ : Value} {l : List Int} {r : List Int} (h0 : VR w0 S v0_ l) (hF : spec_l1Own fu l = some r) :
    Calls Tryz.prog 163 [v0_].toArray w0 fun e w' => ∃ v, e = .returned v ∧ (Below w0.heap.size w0 w' ∧ ∃ F0, VO w' F0 v r ∧ New w0 w' F0) := by
 obtain ⟨A, c, rfl, hl⟩ := VR_list h0
 have H := Mem.start ⟨w0, []⟩ S
 have H := H.pA hl
 refine en Tryz.func163 fun a hf => ?_
 rw [spec_l1Own] at hF
 refine sqz (pz 1 hf fun a hf => ?_)
 refine wr (wl0 rfl (bl hf H 3 ([] : List Int) [] el0 fun A2 a w hf H => ?_))
 refine pz 1 hf fun a hf => ?_
 obtain ⟨l2, hl2_, hF⟩ := bs_ hF
 have H := H.rowWeak 0 rfl
 refine wl0 rfl (op_appI hf H Tryz.underlying47 TF.ai3 rfl (by decide) 0 0 rfl rfl rfl rfl (.inl rfl) hl2_ (by decide) fun E A3 c2 a w hf H => ?_)
 have H := H.rowOwn 0 rfl rfl
 have H := H.rowSh 0 rfl
 refine pz 1 hf fun a hf => ?_
 refine wer ?_
 have H := H.rowOwn 0 rfl rfl
 obtain ⟨F, H⟩ := H.freezeOwn 0 rfl
 have H := H.lend 0 rfl
 obtain rfl := oi hF
 refine rT hf ?_
 have hN := H.ends1
 exact ⟨_, rfl, H.bel, F, (mko_list (H.ownAt 0 rfl)), by first | exact hN | simpa using hN⟩
theorem spec_l4Own_ok {S : Nat → Prop} {v0_ : Value} {r' : Route} {r : Route} (h0 : VR w0 S v0_ r') (hF : spec_l4Own fu r' = some r) :
    Calls Tryz.prog 190 [v0_].toArray w0 fun e w' => ∃ v, e = .returned v ∧ (Below w0.heap.size w0 w' ∧ ∃ F0, VO w' F0 v r ∧ New w0 w' F0) := by
 obtain ⟨A, c, rfl, hl⟩ := Route_open h0
 have H := Mem.start ⟨w0, []⟩ S
 have H := H.pA hl
 refine en Tryz.func190 fun a hf => ?_
 rw [spec_l4Own] at hF
 refine bx hf H fun b' a w hf H => ?_
 refine aL hf H TF.zv59 fun b2 a w hf H => ?_
 refine wl_end (then_n (sq (dw [6] 7 fun w hb => ?_)))
 have H := H.keep hb
 refine zp 0 hf trivial fun a hf => ?_
 refine strT (H.lt_ [false, true] [] [] []) (fun w H => trivial) fun hS => ?_
 refine zS 1 [1, 5, 6] rfl rfl rfl rfl hf hS (fun w H => rq_loadB hf H TF.ls3 0 rfl rfl rfl) fun a hf => ?_
 refine zp 2 hf hS fun a hf => ?_
 refine zS 3 [3, 4, 5, 6] rfl rfl rfl rfl hf hS (fun w H => rq_loadB hf H TF.ls47 0 rfl rfl rfl) fun a hf => ?_
 obtain ⟨y, hy, hF⟩ := bs_ hF
 refine nn 4 rfl (oC hf TF.cl163 (spec_l1Own_ok (S := TT) (mk_list (H.rt 0 rfl)) hy) fun v w a hp hf => ?_)
 obtain ⟨hb, F, hp2, hN⟩ := hp
 obtain ⟨A2, c2, rfl, hl2⟩ := VO_list hp2
 have H := H.aO1 hb hN hl2
 have H := H.lend 0 rfl
 have hS := H.lt_ [false, true] [] [false] []
 refine aS hS ?_
 refine zP 5 rfl rfl rfl rfl hf hS (fun w => rq_build hf (cs := [(.int .i64 r'.Start), (.slice A2 y.length c2)]) rfl (fun w => by kernel_rfl)) fun a hf => ?_
 refine nn 6 rfl (op_storeB hf H 0 TF.sz59 rfl rfl rfl rfl rfl rfl (nle rfl) fun w H => ?_)
 refine ⟨fun h => absurd h (by decide), ?_⟩
 refine dk ?_
 refine then_n (wp_ret (?_))
 obtain rfl := oi hF
 refine ret_1 hf rfl (rv_cellN hf H 0 TF.la59 rfl rfl rfl) ?_
 have hN := H.ends1
 exact ⟨_, rfl, H.bel, F, ⟨_, Route_ownmk (x := ({ Start := r'.Start, Fibers := y } : Route)) (H.ownAt 0 rfl), rfl⟩, by first | exact hN | simpa using hN⟩
theorem spec_l9Copy_ok {S : Nat → Prop} {v0_ : Value} {x1 : Light} {r : Light} (h0 : VR w0 S v0_ x1) (hF : spec_l9Copy fu x1 = some r) :
    Calls Tryz.prog 125 [v0_].toArray w0 fun e w' => ∃ v, e = .returned v ∧ (Below w0.heap.size w0 w' ∧ ∃ F0, VO w' F0 v r ∧ New w0 w' F0) := by
 obtain ⟨A, c, rfl, hl⟩ := Light_open h0
 have H := Mem.start ⟨w0, []⟩ S
 have H := H.pA hl
 refine en Tryz.func125 fun a hf => ?_
 rw [spec_l9Copy] at hF
 refine bx hf H fun b' a w hf H => ?_
 refine aL hf H TF.zv73 fun b2 a w hf H => ?_
 refine wl_end (then_n (sq (dw [8] 9 fun w hb => ?_)))
 have H := H.keep hb
 refine zp 0 hf trivial fun a hf => ?_
 refine strT (H.lt_ [false, true] [] [] []) (fun w H => trivial) fun hS => ?_
 refine zS 1 [1, 7, 8] rfl rfl rfl rfl hf hS (fun w H => rq_loadB hf H TF.ls3 0 rfl rfl rfl) fun a hf => ?_
 refine zp 2 hf hS fun a hf => ?_
 refine zS 3 [3, 4, 7, 8] rfl rfl rfl rfl hf hS (fun w H => rq_loadBN hf H TF.la59 0 rfl rfl rfl rfl) fun a hf => ?_
 refine zp 5 hf hS fun a hf => ?_
 refine zS 6 [6, 7, 8] rfl rfl rfl rfl hf hS (fun w H => rq_loadBN hf H TF.la71 0 rfl rfl rfl rfl) fun a hf => ?_
 obtain ⟨y, hy, hF⟩ := bs_ hF
 refine nn 4 rfl (oC hf TF.cl190 (spec_l4Own_ok (S := TT) (Route_mkv (x := x1.Route) (H.rt 0 rfl)) hy) fun v w a hp hf => ?_)
 obtain ⟨hb, F, hp2, hN⟩ := hp
 obtain ⟨A2, c2, F2, rfl, rfl, hl2⟩ := Route_vo hp2
 have H := H.aO1 hb hN hl2
 have H := H.lend 0 rfl
 have hS := H.lt_ [false, true] [] [false] []
 refine aS hS ?_
 refine zP 7 rfl rfl rfl rfl hf hS (fun w => rq_build hf (cs := [(.int .i64 x1.Id), (.int .i64 y.Start), (.slice A2 y.Fibers.length c2), (.int .i64 x1.Block.First), (.int .i64 x1.Block.Count)]) rfl (fun w => by kernel_rfl)) fun a hf => ?_
 refine nn 8 rfl (op_storeB hf H 0 TF.sz73 rfl rfl rfl rfl rfl rfl (nle rfl) fun w H => ?_)
 refine ⟨fun h => absurd h (by decide), ?_⟩
 refine dk ?_
 refine then_n (wp_ret (?_))
 obtain rfl := oi hF
 refine ret_1 hf rfl (rv_cellN hf H 0 TF.la73 rfl rfl rfl) ?_
 have hN := H.ends1
 exact ⟨_, rfl, H.bel, F2, ⟨_, Light_ownmk (x := ({ Id := x1.Id, Route := y, Block := x1.Block } : Light)) (H.ownAt 0 rfl), rfl⟩, by first | exact hN | simpa using hN⟩
theorem spec_l9Own_ok {S : Nat → Prop} {v0_ : Value} {p : Plan} {r : Plan} (h0 : VR w0 S v0_ p) (hF : spec_l9Own fu p = some r) :
    Calls Tryz.prog 57 [v0_].toArray w0 fun e w' => ∃ v, e = .returned v ∧ (Below w0.heap.size w0 w' ∧ ∃ F0, VO w' F0 v r ∧ New w0 w' F0) := by
 obtain ⟨A, c, A2, c2, A3, c3, rfl, hl, hl2, hl3⟩ := Plan_open h0
 have H := Mem.start ⟨w0, []⟩ S
 have H := H.pA hl
 have H := H.pA hl2
 have H := H.pA hl3
 refine en Tryz.func57 fun a hf => ?_
 rw [spec_l9Own] at hF
 refine bx hf H fun b' a w hf H => ?_
 refine aL hf H TF.zv37 fun b2 a w hf H => ?_
 refine wr (pz 1 hf fun a hf => ?_)
 refine lN 1 hf H TF.la34 fun a hf => ?_
 obtain ⟨y, hy, hF⟩ := bs_ hF
 refine oc hf TF.cl124 (spec_l2Own_ok (S := TT) (Network_mkv (x := p.Network) (H.rt 2 rfl) (H.rt 1 rfl)) hy) fun v w a hp hf => ?_
 obtain ⟨hb, F, hp2, hN⟩ := hp
 obtain ⟨A4, c4, F2, A5, c5, F3, rfl, rfl, hl4, hl5⟩ := Network_vo hp2
 have H := H.aO2 hb hN hl4 hl5
 have H := H.lend 0 rfl
 have H := H.lend 1 rfl
 refine oq hf (rq_build hf (cs := [(.slice A4 y.Nodes.length c4), (.slice A5 y.Fibers.length c5), (.slice none 0 0)]) rfl (fun w => by kernel_rfl)) fun a hf => ?_
 refine aL hf H TF.zv37 fun b3 a w hf H => ?_
 refine sB 0 hf H TF.sz37 fun w H => ?_
 refine we (sqz (pz 1 hf fun a hf => ?_))
 refine wl_end (then_n ?_)
 have H := H.nilRow (Light) (.ow []) rfl rfl 73
 obtain ⟨out', hB1, hF⟩ := bs_ hF
 have hf := hf.pn [1, 2, 3, 4]
 have H := H.lt_ [true, true, true] [true] [true, true] [0, 1, 2, 3, 4]
 refine loopC (fun (s : Int × List Light) (a : Act) (w : World) => match s with | (i, m) => ∃ (A6 : Option Addr) (c6 : Nat) (E : Go.TypeId) (Fs : List (List Nat)), Fr a 28 [(1, (.pointer (some ⟨b', 0, none⟩))), (2, (.pointer (some ⟨b2, 0, none⟩))), (3, (.pointer (some ⟨b3, 0, none⟩))), (4, (.int .i64 i))] ∧ Mem ⟨w0, []⟩ S [⟨b3, 37, [(.slice A4 y.Nodes.length c4), (.slice A5 y.Fibers.length c5), (.slice A6 m.length c6)]⟩, ⟨b2, 37, [(.slice none 0 0), (.slice none 0 0), (.slice none 0 0)]⟩, ⟨b', 37, [(.slice A p.Network.Nodes.length c), (.slice A2 p.Network.Fibers.length c2), (.slice A3 p.Lights.length c3)]⟩] [⟨.ow Fs, E, A6, c6, (m : List Light)⟩] [⟨F2, MP.own F2 [(.slice A4 y.Nodes.length c4)] (y.Nodes : List ByteArray)⟩, ⟨F3, MP.own F3 [(.slice A5 y.Fibers.length c5)] (y.Fibers : List Fiber)⟩] [(true, MP.val [(.slice A5 y.Fibers.length c5)] (y.Fibers : List Fiber)), (true, MP.val [(.slice A4 y.Nodes.length c4)] (y.Nodes : List ByteArray)), (false, MP.val [(.slice A3 p.Lights.length c3)] (p.Lights : List Light)), (false, MP.val [(.slice A2 p.Network.Fibers.length c2)] (p.Network.Fibers : List Fiber)), (false, MP.val [(.slice A p.Network.Nodes.length c)] (p.Network.Nodes : List ByteArray))] w) (fun k (s : Int × List Light) => spec_l9Own_L1 fu p k s.1 s.2 = some out') (fun s => out' = s) (0, ([] : List Light)) fu hB1 ⟨none, 0, 73, [], hf, H⟩ (fun s h => by cases h) ?_ ?_
 ·rintro fk ⟨i, m⟩ a w hR1 hI
  replace hR1 : spec_l9Own_L1 fu p (fk + 1) i m = some out' := hR1
  rw [spec_l9Own_L1] at hR1
  obtain ⟨A6, c6, E, Fs, hf, H⟩ := hI
  refine sq (sqz (pz 2 hf fun a hf => ?_))
  refine lB 2 hf H TF.ls35 fun a hf => ?_
  refine pz 2 hf fun a hf => ?_
  refine wl_end (then_n (ib hR1 hf (fun hc hR1 => ?_) fun hc hR1 => ?_))
  ·refine wp_skip (then_n (sq (wp_block (dw [11] 12 fun w hb => ?_))))
   have H := H.keep hb
   refine zp 0 hf trivial fun a hf => ?_
   refine strT (H.lt_ [true, false, false] [false] [false, false] []) (fun w H => trivial) fun hS => ?_
   refine zS 1 [1, 9, 10, 11] rfl rfl rfl rfl hf hS (fun w H => rq_loadB hf H TF.ls35 0 rfl rfl rfl) fun a hf => ?_
   refine zp 2 hf hS fun a hf => ?_
   refine strT (H.lt_ [true, false, true] [false] [false, false] []) (fun w H => H.lt_ [true, false] [] [] []) fun hS => ?_
   refine zS 3 [3, 5, 6, 7, 8, 9, 10, 11] rfl rfl rfl rfl hf hS (fun w H => rq_loadB hf H TF.ls35 1 rfl rfl rfl) fun a hf => ?_
   refine zp 4 hf hS fun a hf => ?_
   obtain ⟨e, he, hR1⟩ := bs_ hR1
   obtain ⟨p2, o, cs, hx, hr, H⟩ := pre_iaddr H Tryz.underlying35 TF.sz73 2 rfl he
   refine zP 5 rfl rfl rfl rfl hf hS (fun w => rq_iaddrE hf rfl rfl rfl hx w) fun a hf => ?_
   obtain ⟨A7, c7, rfl, hl6⟩ := Light_cells hr
   have H := H.pF hl6
   refine strT (H.lt_ [true, false, true] [false] [false, false] [1]) (fun w H => H.lt_ [true, true] [] [] []) fun hS => ?_
   refine zS 6 [6, 7, 8, 9, 10, 11] rfl rfl rfl rfl hf hS (fun w H => rq_loadIN hf H TF.la73 0 0 rfl rfl rfl rfl) fun a hf => ?_
   obtain ⟨y2, hy2, hR1⟩ := bs_ hR1
   refine nn 7 rfl (oC hf TF.cl125 (spec_l9Copy_ok (S := TT) (Light_mkv (x := e) (H.rt 0 rfl)) hy2) fun v2 w a hp3 hf => ?_)
   obtain ⟨hb2, F4, hp4, hN2⟩ := hp3
   obtain ⟨A8, c8, F5, rfl, rfl, hl7⟩ := Light_vo hp4
   have H := H.aO1 hb2 hN2 hl7
   have H := H.lend 0 rfl
   have hS := H.lt_ [true, false, true] [false] [false, false, false] [2]
   refine aS hS ?_
   have H := H.recast (X := [(⟨F5, MP.own F5 [(.slice A8 y2.Route.Fibers.length c8)] (y2.Route.Fibers : List Int)⟩ : DI)]) (Y := [(⟨F5, MP.own F5 [(.int .i64 y2.Id), (.int .i64 y2.Route.Start), (.slice A8 y2.Route.Fibers.length c8), (.int .i64 y2.Block.First), (.int .i64 y2.Block.Count)] (y2 : Light)⟩ : DI)]) (List.Perm.of_eq (by simp)) fun _ => ps1 (Light_ownmk (x := y2) (H.ownAt 0 rfl)) ps0
   refine nn 8 rfl (op_bsliceO hf 73 H rfl (fun w => by kernel_rfl) (by decide) fun A9 a w hf H => ?_)
   have hS := H.lt_ [true, false, true] [false, false] [false, false] [2]
   refine aS hS ?_
   obtain ⟨al, hal, hR1⟩ := bs_ hR1
   have H := H.frontR 1 rfl
   refine nn 9 rfl (op_appO hf H Tryz.underlying35 TF.ai73 rfl (by decide) rfl rfl hal (by decide) fun E2 A10 c9 a w hf H => ?_)
   have hS := H.lt_ [true, false, true] [false] [false, false] [2]
   refine aS hS ?_
   refine zp 10 hf hS fun a hf => ?_
   refine nn 11 rfl (op_storeB hf H 0 TF.sz35 rfl rfl rfl rfl rfl rfl (nle rfl) fun w H => ?_)
   refine ⟨fun h => absurd h (by decide), ?_⟩
   refine dk ?_
   have hf := hf.pn [1, 2, 3, 4]
   refine blk_n (then_n (reg (pz 3 hf fun a hf => ?_)))
   refine wl_end ?_
   have hf := hf.pn [1, 2, 3, 4]
   have H := H.lt_ [true, true, true] [true] [true, true] [3, 4, 5, 6, 7]
   exact then_n ⟨(w64 (i + 1), al), hR1, A10, c9, E2, Fs ++ [F5], hf, H⟩
  ·refine wp_exit (then_x (then_x (blk_e (?_))))
   have hf := hf.pn [1, 2, 3, 4]
   have H := H.lt_ [true, true, true] [true] [true, true] [0, 1, 2, 3, 4]
   exact ⟨(i, m), (Option.some.inj hR1).symm, A6, c6, E, Fs, hf, H⟩
 rintro a w ⟨⟨i2, m2⟩, rfl, A11, c10, E3, Fs2, hf, H⟩
 try dsimp only at hF
 refine then_n (sq (reg (lN 0 hf H TF.la37 fun a hf => ?_)))
 refine sB 1 hf H TF.sz37 fun w H => ?_
 refine wer ?_
 obtain ⟨F6, H⟩ := H.freezeOwn 0 rfl
 have H := H.lend 0 rfl
 have H := H.frontD 2 rfl
 have H := H.frontD 2 rfl
 obtain rfl := oi hF
 refine ret_1 hf rfl (rv_cellN hf H 1 TF.la37 rfl rfl rfl) ?_
 have hN := H.ends3
 exact ⟨_, rfl, H.bel, (F2 ++ (F3 ++ F6)), ⟨_, Plan_ownmk (x := ({ Network := y, Lights := m2 } : Plan)) (H.ownAt 0 rfl) (H.ownAt 1 rfl) (H.ownAt 2 rfl), rfl⟩, by first | exact hN | simpa using hN⟩
theorem spec_CompactPlan_ok {S : Nat → Prop} {v0_ : Value} {p : Plan} {r : Plan × Bool} (h0 : VR w0 S v0_ p) (hF : spec_CompactPlan fu p = some r) :
    Calls Tryz.prog 14 [v0_].toArray w0 fun e w' => ∃ v, e = .returned v ∧ (Below w0.heap.size w0 w' ∧ ∃ u0 u1, v = .tuple #[u0, u1] ∧ VR w' (St ⟨w0, []⟩ S [] [] [] true) u0 r.1 ∧ VR w' (St ⟨w0, []⟩ S [] [] [] true) u1 r.2) := by
 obtain ⟨A, c, A2, c2, A3, c3, rfl, hl, hl2, hl3⟩ := Plan_open h0
 have H := Mem.start ⟨w0, []⟩ S
 have H := H.pA hl
 have H := H.pA hl2
 have H := H.pA hl3
 refine en Tryz.func14 fun a hf => ?_
 rw [spec_CompactPlan] at hF
 refine bx hf H fun b' a w hf H => ?_
 refine aL hf H TF.zv37 fun b2 a w hf H => ?_
 refine pz 1 hf fun a hf => ?_
 refine wl_end (then_n (sq (sq ?_)))
 obtain ⟨c4, hGc4, hF⟩ := bs_ hF
 have fh := hf.prune [1, 2] rfl
 have Hm := H.lt_ [true, true] [] [] [0, 1, 2]
 refine midF 18 (.bool c4) fh Hm ?_ fun a w hf H => ?_
 ·refine reg (lN 1 hf H TF.la37 fun a hf => ?_)
  obtain ⟨y, hy, hGc4⟩ := bs_ hGc4
  refine oc hf TF.cl49 (spec_l9Good_ok (S := TT) (Plan_mkv (x := p) (H.rt 2 rfl) (H.rt 1 rfl) (H.rt 0 rfl)) hy) fun v w a hp hf => ?_
  obtain ⟨hb, hp⟩ := hp
  obtain rfl := VR_bool hp
  have H := H.keep hb
  refine pz 2 hf fun a hf => ?_
  refine iteB hGc4 (fun hc hGc4 => ?_) fun hc hGc4 => ?_
  ·have hf := hf.lit 13 rfl hc
   refine pz 5 hf fun a hf => ?_
   obtain rfl := oi hGc4
   have hf := hf.pn [18, 1, 2]
   have H := H.lt_ [true, true] [] [] [0, 1, 2]
   exact wl_end ⟨hf, H⟩
  ·have hf := hf.lit 13 rfl hc
   refine pz 1 hf fun a hf => ?_
   refine wlg hf rfl rfl rfl (op_q hf (rq_loadB hf H TF.ls35 1 rfl rfl rfl) rfl (by decide) fun a hf => ?_)
   refine pz 3 hf fun a hf => ?_
   obtain rfl := oi hGc4
   have hf := hf.pn [18, 1, 2]
   have H := H.lt_ [true, true] [] [] [0, 1, 2]
   exact wl_end ⟨hf, H⟩
 refine then_n (ib hF hf (fun hc2 hF => ?_) fun hc2 hF => ?_)
 ·refine sq (reg (oq hf (rq_build hf (cs := [(.slice none 0 0), (.slice none 0 0), (.slice none 0 0)]) rfl (fun w => by kernel_rfl)) fun a hf => ?_))
  refine sB 0 hf H TF.sz37 fun w H => ?_
  refine pz 1 hf fun a hf => ?_
  refine wl_end (then_n (wp_ret (then_r (?_))))
  have H := H.pushNil (ByteArray) true
  have H := H.pushNil (Fiber) true
  have H := H.pushNil (Light) true
  obtain rfl := oi hF
  refine ret_2 hf rfl (rv_cellN hf H 0 TF.la37 rfl rfl rfl) (rv_tmp hf rfl) ?_
  exact ⟨_, rfl, H.bel, _, _, rfl, (Plan_mkv (x := ({ Network := ({ Nodes := [], Fibers := [] } : Network), Lights := [] } : Plan)) (rep_end (α := List ByteArray) (H.get 2 rfl)) (rep_end (α := List Fiber) (H.get 1 rfl)) (rep_end (α := List Light) (H.get 0 rfl))), mk_bool⟩
 ·refine wp_skip (then_n (sq (reg (lN 1 hf H TF.la37 fun a hf => ?_))))
  obtain ⟨y2, hy2, hF⟩ := bs_ hF
  refine oc hf TF.cl51 (spec_l21Requests_ok (Plan_mkv (x := p) (H.get 2 rfl) (H.get 1 rfl) (H.get 0 rfl)) hy2) fun v2 w a hp2 hf => ?_
  obtain ⟨hb2, hp2⟩ := hp2
  obtain ⟨A4, c5, rfl, hl4⟩ := VR_list hp2
  replace hl4 := H.res (f := MP.val [(.slice A4 y2.length c5)] y2) hl4
  have H := H.keep hb2
  have H := H.pF hl4
  obtain ⟨y3, hy3, hF⟩ := bs_ hF
  refine oc hf TF.cl50 (spec_l12Exact_ok (S := TT) (mk_list (H.rt 0 rfl)) hy3) fun v3 w a hp3 hf => ?_
  obtain ⟨hb3, F, v4, v5, v6, rfl, hp4, hp5, hp6, hN⟩ := hp3
  obtain ⟨A5, c6, rfl, hl5⟩ := VO_list hp4
  obtain rfl := VR_int hp5
  obtain rfl := VR_bool hp6
  have H := H.aO1 hb3 hN hl5
  have H := H.lend 0 rfl
  refine pz 7 hf fun a hf => ?_
  refine we (sqz (pz 2 hf fun a hf => ?_))
  refine wl_end (then_n (ib hF hf (fun hc3 hF => ?_) fun hc3 hF => ?_))
  ·refine sq (reg (oq hf (rq_build hf (cs := [(.slice none 0 0), (.slice none 0 0), (.slice none 0 0)]) rfl (fun w => by kernel_rfl)) fun a hf => ?_))
   refine sB 0 hf H TF.sz37 fun w H => ?_
   refine pz 1 hf fun a hf => ?_
   have hf := hf.pn [2, 3]
   refine wl_end (then_n (wp_ret (then_r (?_))))
   have H := H.pushNil (ByteArray) true
   have H := H.pushNil (Fiber) true
   have H := H.pushNil (Light) true
   obtain rfl := oi hF
   refine ret_2 hf rfl (rv_cellN hf H 0 TF.la37 rfl rfl rfl) (rv_tmp hf rfl) ?_
   exact ⟨_, rfl, H.bel, _, _, rfl, (Plan_mkv (x := ({ Network := ({ Nodes := [], Fibers := [] } : Network), Lights := [] } : Plan)) (rep_end (α := List ByteArray) (H.get 2 rfl)) (rep_end (α := List Fiber) (H.get 1 rfl)) (rep_end (α := List Light) (H.get 0 rfl))), mk_bool⟩
  ·refine wp_skip (then_n (sq (reg (lN 1 hf H TF.la37 fun a hf => ?_))))
   obtain ⟨y4, hy4, hF⟩ := bs_ hF
   refine oc hf TF.cl57 (spec_l9Own_ok (S := TT) (Plan_mkv (x := p) (H.rt 4 rfl) (H.rt 3 rfl) (H.rt 2 rfl)) hy4) fun v7 w a hp7 hf => ?_
   obtain ⟨hb4, F3, hp8, hN2⟩ := hp7
   obtain ⟨A6, c7, F4, A7, c8, F5, A8, c9, F6, rfl, rfl, hl6, hl7, hl8⟩ := Plan_vo hp8
   have H := H.aO3 hb4 (by first | exact hN2 | simpa using hN2) hl6 hl7 hl8
   have H := H.lend 0 rfl
   have H := H.lend 1 rfl
   have H := H.lend 2 rfl
   have H := H.frontD 2 rfl
   obtain ⟨Fs, E, H, -⟩ := H.thaw rfl
   have H := H.pA hl
   have H := H.pA hl2
   have H := H.pA hl3
   have H := H.lend 0 rfl
   have H := H.lend 1 rfl
   have H := H.lend 2 rfl
   have H := H.rowSh 0 rfl
   refine aL hf H TF.zv37 fun b3 a w hf H => ?_
   refine sB 0 hf H TF.sz37 fun w H => ?_
   have hf := hf.pn [2, 4, 7]
   refine we (sqz (pz 1 hf fun a hf => ?_))
   refine wl_end (then_n ?_)
   obtain ⟨out', hB1, hF⟩ := bs_ hF
   have hf := hf.pn [2, 4, 7, 8]
   have H := H.lt_ [true, true, false] [true] [true, true, true] [0, 1, 2]
   refine loopC (fun (s : Int × List Light) (a : Act) (w : World) => match s with | (i, m) => ∃ (A9 : Option Addr) (c10 : Nat) (E2 : Go.TypeId), Fr a 55 [(2, (.pointer (some ⟨b2, 0, none⟩))), (4, (.slice A5 y3.1.length c6)), (7, (.pointer (some ⟨b3, 0, none⟩))), (8, (.int .i64 i))] ∧ Mem ⟨w0, []⟩ S [⟨b3, 37, [(.slice A6 y4.Network.Nodes.length c7), (.slice A7 y4.Network.Fibers.length c8), (.slice A9 m.length c10)]⟩, ⟨b2, 37, [(.slice none 0 0), (.slice none 0 0), (.slice none 0 0)]⟩] [⟨.sh true, E2, A9, c10, (m : List Light)⟩] [⟨F4, MP.own F4 [(.slice A6 y4.Network.Nodes.length c7)] (y4.Network.Nodes : List ByteArray)⟩, ⟨F5, MP.own F5 [(.slice A7 y4.Network.Fibers.length c8)] (y4.Network.Fibers : List Fiber)⟩, ⟨F, MP.own F [(.slice A5 y3.1.length c6)] (y3.1 : List Block)⟩] [(true, MP.val [(.slice A5 y3.1.length c6)] (y3.1 : List Block)), (true, MP.val [(.slice A7 y4.Network.Fibers.length c8)] (y4.Network.Fibers : List Fiber)), (true, MP.val [(.slice A6 y4.Network.Nodes.length c7)] (y4.Network.Nodes : List ByteArray))] w) (fun k (s : Int × List Light) => spec_CompactPlan_L1 fu y3 k s.1 s.2 = some out') (fun s => out' = s) (0, y4.Lights) fu hB1 ⟨A8, c9, E, hf, H⟩ (fun s h => by cases h) ?_ ?_
   ·rintro fk ⟨i, m⟩ a w hR1 hI
    replace hR1 : spec_CompactPlan_L1 fu y3 (fk + 1) i m = some out' := hR1
    rw [spec_CompactPlan_L1] at hR1
    obtain ⟨A9, c10, E2, hf, H⟩ := hI
    refine sq (sqz (pz 2 hf fun a hf => ?_))
    refine lB 0 hf H TF.ls35 fun a hf => ?_
    refine pz 2 hf fun a hf => ?_
    refine wl_end (then_n (ib hR1 hf (fun hc4 hR1 => ?_) fun hc4 hR1 => ?_))
    ·refine ws (pz 1 hf fun a hf => ?_)
     refine lB 0 hf H TF.ls35 fun a hf => ?_
     refine pz 1 hf fun a hf => ?_
     obtain ⟨e, he, hR1⟩ := bs_ hR1
     refine wl0 rfl (op_iaddrR hf H Tryz.underlying35 TF.sz73 0 rfl rfl rfl he (by decide) fun p2 o cs a hf hA hr hk => ?_)
     obtain ⟨A10, c11, rfl, hl9⟩ := Light_cells hr
     have H := H.pT hl9
     refine oq hf (rq_loadN hf TF.la73 rfl rfl (fun j c hj => hk _ c (by simpa using hj))) fun a hf => ?_
     refine aL hf H TF.zv73 fun b4 a w hf H => ?_
     refine sB 0 hf H TF.sz73 fun w H => ?_
     refine wr (pz 2 hf fun a hf => ?_)
     obtain ⟨e2, he2, hR1⟩ := bs_ hR1
     refine wl0 rfl (op_iaddr hf H Tryz.underlying50 TF.sz71 1 rfl rfl rfl he2 (by decide) fun p3 o2 cs2 a hf hr2 H => ?_)
     obtain rfl := Block_cells hr2
     refine oq hf (rq_loadIN hf H TF.la71 0 0 rfl rfl rfl rfl) fun a hf => ?_
     refine pz 1 hf fun a hf => ?_
     refine sB 0 hf H TF.sz71 fun w H => ?_
     have hf := hf.pn [2, 4, 7, 8, 9]
     refine wl_end (then_n (reg (pz 1 hf fun a hf => ?_)))
     refine lB 1 hf H TF.ls35 fun a hf => ?_
     refine pz 1 hf fun a hf => ?_
     refine lN 0 hf H TF.la73 fun a hf => ?_
     obtain ⟨e3, he3, hR1⟩ := bs_ hR1
     refine wl0 rfl (op_iaddrR hf H Tryz.underlying35 TF.sz73 0 rfl rfl rfl he3 (by decide) fun p4 o3 cs3 a hf hA2 hr3 hk2 => ?_)
     obtain ⟨A11, c12, rfl, hl10⟩ := Light_cells hr3
     have H := H.pT hl10
     refine wl0 rfl (op_storeR (e' := ({ Id := e.Id, Route := e.Route, Block := e2 } : Light)) (o := o3) (off := 0) hf H TF.sz73 0 rfl rfl rfl rfl rfl (nle rfl) rfl hA2 he3 (st_full (Light_mk (x := ({ Id := e.Id, Route := e.Route, Block := e2 } : Light)) (H.get 2 rfl))) fun w H => ?_)
     replace hf : Fr a 55 [(2, (.pointer (some ⟨b2, 0, none⟩))), (4, (.slice A5 y3.1.length c6)), (7, (.pointer (some ⟨b3, 0, none⟩))), (8, (.int .i64 i)), (9, (.pointer (some ⟨b4, 0, none⟩))), (49, (.pointer (some ⟨b3, 2, none⟩))), (50, (.slice A9 m.length c10)), (51, (.int .i64 i)), (52, (.agg #[(.int .i64 e.Id), (.int .i64 e.Route.Start), (.slice A10 e.Route.Fibers.length c11), (.int .i64 e2.First), (.int .i64 e2.Count)])), (53, (.pointer (some ⟨p4, o3 + 0, none⟩)))] := hf.prune [2, 4, 7, 8, 9, 49, 50, 51, 52, 53] rfl
     replace hf : Fr a 55 [(2, (.pointer (some ⟨b2, 0, none⟩))), (4, (.slice A5 y3.1.length c6)), (7, (.pointer (some ⟨b3, 0, none⟩))), (8, (.int .i64 i)), (9, (.pointer (some ⟨b4, 0, none⟩))), (49, (.pointer (some ⟨b3, 2, none⟩))), (50, (.slice A9 (m.set (i : Int).toNat ({ Id := e.Id, Route := e.Route, Block := e2 } : Light)).length c10)), (51, (.int .i64 i)), (52, (.agg #[(.int .i64 e.Id), (.int .i64 e.Route.Start), (.slice A10 e.Route.Fibers.length c11), (.int .i64 e2.First), (.int .i64 e2.Count)])), (53, (.pointer (some ⟨p4, o3 + 0, none⟩)))] := by simpa only [List.length_set, Nat.add_zero] using hf
     replace H : Mem ⟨w0, []⟩ S [⟨b4, 73, [(.int .i64 e.Id), (.int .i64 e.Route.Start), (.slice A10 e.Route.Fibers.length c11), (.int .i64 e2.First), (.int .i64 e2.Count)]⟩, ⟨b3, 37, [(.slice A6 y4.Network.Nodes.length c7), (.slice A7 y4.Network.Fibers.length c8), (.slice A9 (m.set (i : Int).toNat ({ Id := e.Id, Route := e.Route, Block := e2 } : Light)).length c10)]⟩, ⟨b2, 37, [(.slice none 0 0), (.slice none 0 0), (.slice none 0 0)]⟩] [⟨.sh true, E2, A9, c10, (m.set (i : Int).toNat ({ Id := e.Id, Route := e.Route, Block := e2 } : Light) : List Light)⟩] [⟨F4, MP.own F4 [(.slice A6 y4.Network.Nodes.length c7)] (y4.Network.Nodes : List ByteArray)⟩, ⟨F5, MP.own F5 [(.slice A7 y4.Network.Fibers.length c8)] (y4.Network.Fibers : List Fiber)⟩, ⟨F, MP.own F [(.slice A5 y3.1.length c6)] (y3.1 : List Block)⟩] [(true, MP.val [(.slice A11 e3.Route.Fibers.length c12)] (e3.Route.Fibers : List Int)), (true, MP.cells ⟨p3, o2, none⟩ [(.int .i64 e2.First), (.int .i64 e2.Count)]), (true, MP.val [(.slice A10 e.Route.Fibers.length c11)] (e.Route.Fibers : List Int)), (true, MP.val [(.slice A5 y3.1.length c6)] (y3.1 : List Block)), (true, MP.val [(.slice A7 y4.Network.Fibers.length c8)] (y4.Network.Fibers : List Fiber)), (true, MP.val [(.slice A6 y4.Network.Nodes.length c7)] (y4.Network.Nodes : List ByteArray))] w := by first | (simp only [List.length_set]; exact H) | (simp only [List.length_set] at H ⊢; exact H)
     refine wl_end (blk_n (then_n (reg (pz 3 hf fun a hf => ?_))))
     refine wl_end ?_
     have hf := hf.pn [2, 4, 7, 8]
     have H := H.lt_ [false, true, true] [true] [true, true, true] [3, 4, 5]
     exact then_n ⟨(w64 (i + 1), m.set (i : Int).toNat ({ Id := e.Id, Route := e.Route, Block := e2 } : Light)), hR1, A9, c10, E2, hf, H⟩
    ·refine wp_exit (then_x (then_x (blk_e (?_))))
     have hf := hf.pn [2, 4, 7, 8]
     have H := H.lt_ [true, true] [true] [true, true, true] [0, 1, 2]
     exact ⟨(i, m), (Option.some.inj hR1).symm, A9, c10, E2, hf, H⟩
   rintro a w ⟨⟨i2, m2⟩, rfl, A12, c13, E3, hf, H⟩
   try dsimp only at hF
   refine then_n (sq (reg (lN 0 hf H TF.la37 fun a hf => ?_)))
   refine sB 1 hf H TF.sz37 fun w H => ?_
   refine pz 1 hf fun a hf => ?_
   refine wer ?_
   have H := H.freeze 0 rfl
   obtain rfl := oi hF
   refine ret_2 hf rfl (rv_cellN hf H 1 TF.la37 rfl rfl rfl) (rv_tmp hf rfl) ?_
   exact ⟨_, rfl, H.bel, _, _, rfl, (Plan_mkv (x := ({ Network := y4.Network, Lights := m2 } : Plan)) (rep_end (α := List ByteArray) (H.get 3 rfl)) (rep_end (α := List Fiber) (H.get 2 rfl)) (rep_end (α := List Light) (H.get 0 rfl))), mk_bool⟩
theorem impl_copyNetwork_ok {S : Nat → Prop} {v0_ : Value} {n' : Network} {r : Network} (h0 : VR w0 S v0_ n') (hF : impl_copyNetwork fu n' = some r) :
    Calls Tryz.prog 126 [v0_].toArray w0 fun e w' => ∃ v, e = .returned v ∧ (Below w0.heap.size w0 w' ∧ ∃ F0, VO w' F0 v r ∧ New w0 w' F0) := by
 obtain ⟨A, c, A2, c2, rfl, hl, hl2⟩ := Network_open h0
 have H := Mem.start ⟨w0, []⟩ S
 have H := H.pA hl
 have H := H.pA hl2
 refine en Tryz.func126 fun a hf => ?_
 rw [impl_copyNetwork] at hF
 refine bx hf H fun b' a w hf H => ?_
 refine aL hf H TF.zv34 fun b2 a w hf H => ?_
 refine wl_end (then_n (sq ?_))
 obtain ⟨l, hl_, hF⟩ := bs_ hF
 obtain ⟨l2, hl2_, hF⟩ := bs_ hF
 refine mid (fun a w => ∃ (A4 : Option Addr) (c3 : Nat) (E : Go.TypeId) (A6 : Option Addr) (c4 : Nat) (E2 : Go.TypeId), Fr a 12 [(2, (.pointer (some ⟨b2, 0, none⟩)))] ∧ Mem ⟨w0, []⟩ S [⟨b2, 34, [(.slice A4 l.length c3), (.slice A6 l2.length c4)]⟩] [⟨.sh true, E2, A6, c4, (l2 : List Fiber)⟩, ⟨.sh true, E, A4, c3, (l : List ByteArray)⟩] [] [] w) ?_ ?_
 ·refine dw [9] 10 fun w hb => ?_
  have H := H.keep hb
  refine zp 1 hf trivial fun a hf => ?_
  refine strT (H.lt_ [false, true] [] [] []) (fun w H => trivial) fun hS => ?_
  refine zS 2 [2, 3, 7, 8, 9] rfl rfl rfl rfl hf hS (fun w H => rq_loadB hf H TF.ls22 0 rfl rfl rfl) fun a hf => ?_
  refine zp 5 hf hS fun a hf => ?_
  refine zS 6 [6, 7, 8, 9] rfl rfl rfl rfl hf hS (fun w H => rq_loadB hf H TF.ls32 0 rfl rfl rfl) fun a hf => ?_
  refine on2 (i := 0) (j := 4) (bi := [true, true, true, false, false, true, true, false, false, false]) (bj := [false, true, true, false, true, true, true, false, false, false]) (by kernel_rfl) rfl rfl rfl rfl rfl rfl ?_ ?_
  ·refine (bl hf H 9 ([] : List ByteArray) [] el0 fun A3 a w hf H => ?_)
   have hS := H.lt_ [false, true] [false] [] []
   refine aS hS ?_
   refine on2 (i := 3) (j := 4) (bi := [true, true, true, true, false, true, true, false, false, false]) (bj := [true, true, true, false, true, true, true, false, false, false]) (by kernel_rfl) rfl rfl rfl rfl rfl rfl ?_ ?_
   ·have H := H.rowWeak 0 rfl
    refine (op_appI hf H Tryz.underlying22 TF.ai9 rfl (by decide) 0 1 rfl rfl rfl rfl (.inl rfl) hl_ (by decide) fun E A4 c3 a w hf H => ?_)
    have H := H.rowOwn 0 rfl rfl
    have H := H.rowSh 0 rfl
    have hS := H.lt_ [false, true] [false] [] []
    refine aS hS ?_
    refine nn 4 rfl (bl hf H 180 ([] : List Fiber) [] el0 fun A5 a w hf H => ?_)
    have hS := H.lt_ [false, true] [false, false] [] []
    refine aS hS ?_
    have H := H.rowWeak 0 rfl
    refine nn 7 rfl (op_appI hf H Tryz.underlying32 TF.ai180 rfl (by decide) 0 0 rfl rfl rfl rfl (.inl rfl) hl2_ (by decide) fun E2 A6 c4 a w hf H => ?_)
    have H := H.rowOwn 0 rfl rfl
    have H := H.rowSh 0 rfl
    have hS := H.lt_ [false, true] [false, false] [] []
    refine aS hS ?_
    refine zP 8 rfl rfl rfl rfl hf hS (fun w => rq_build hf (cs := [(.slice A4 l.length c3), (.slice A6 l2.length c4)]) rfl (fun w => by kernel_rfl)) fun a hf => ?_
    refine nn 9 rfl (op_storeB hf H 0 TF.sz34 rfl rfl rfl rfl rfl rfl (nle rfl) fun w H => ?_)
    refine ⟨fun h => absurd h (by decide), ?_⟩
    refine dk ?_
    have hf := hf.pn [2]
    have H := H.lt_ [true, false] [true, true] [] []
    exact ⟨A4, c3, E, A6, c4, E2, hf, H⟩
   ·refine (bl hf H 180 ([] : List Fiber) [] el0 fun A4 a w hf H => ?_)
    have hS := H.lt_ [false, true] [false, false] [] []
    refine aS hS ?_
    have H := H.rowWeak 1 rfl
    refine nn 3 rfl (op_appI hf H Tryz.underlying22 TF.ai9 rfl (by decide) 1 1 rfl rfl rfl rfl (.inl rfl) hl_ (by decide) fun E A5 c3 a w hf H => ?_)
    have H := H.rowOwn 1 rfl rfl
    have H := H.rowSh 1 rfl
    have hS := H.lt_ [false, true] [false, false] [] []
    refine aS hS ?_
    have H := H.rowWeak 0 rfl
    refine nn 7 rfl (op_appI hf H Tryz.underlying32 TF.ai180 rfl (by decide) 0 0 rfl rfl rfl rfl (.inl rfl) hl2_ (by decide) fun E2 A6 c4 a w hf H => ?_)
    have H := H.rowOwn 0 rfl rfl
    have H := H.rowSh 0 rfl
    have hS := H.lt_ [false, true] [false, false] [] []
    refine aS hS ?_
    refine zP 8 rfl rfl rfl rfl hf hS (fun w => rq_build hf (cs := [(.slice A5 l.length c3), (.slice A6 l2.length c4)]) rfl (fun w => by kernel_rfl)) fun a hf => ?_
    refine nn 9 rfl (op_storeB hf H 0 TF.sz34 rfl rfl rfl rfl rfl rfl (nle rfl) fun w H => ?_)
    refine ⟨fun h => absurd h (by decide), ?_⟩
    refine dk ?_
    have hf := hf.pn [2]
    have H := H.lt_ [true, false] [true, true] [] []
    exact ⟨A5, c3, E, A6, c4, E2, hf, H⟩
  ·refine (bl hf H 180 ([] : List Fiber) [] el0 fun A3 a w hf H => ?_)
   have hS := H.lt_ [false, true] [false] [] []
   refine aS hS ?_
   refine nn 0 rfl (bl hf H 9 ([] : List ByteArray) [] el0 fun A4 a w hf H => ?_)
   have hS := H.lt_ [false, true] [false, false] [] []
   refine aS hS ?_
   have H := H.rowWeak 0 rfl
   refine nn 3 rfl (op_appI hf H Tryz.underlying22 TF.ai9 rfl (by decide) 0 1 rfl rfl rfl rfl (.inl rfl) hl_ (by decide) fun E A5 c3 a w hf H => ?_)
   have H := H.rowOwn 0 rfl rfl
   have H := H.rowSh 0 rfl
   have hS := H.lt_ [false, true] [false, false] [] []
   refine aS hS ?_
   have H := H.rowWeak 1 rfl
   refine nn 7 rfl (op_appI hf H Tryz.underlying32 TF.ai180 rfl (by decide) 1 0 rfl rfl rfl rfl (.inl rfl) hl2_ (by decide) fun E2 A6 c4 a w hf H => ?_)
   have H := H.rowOwn 1 rfl rfl
   have H := H.rowSh 1 rfl
   have hS := H.lt_ [false, true] [false, false] [] []
   refine aS hS ?_
   refine zP 8 rfl rfl rfl rfl hf hS (fun w => rq_build hf (cs := [(.slice A5 l.length c3), (.slice A6 l2.length c4)]) rfl (fun w => by kernel_rfl)) fun a hf => ?_
   refine nn 9 rfl (op_storeB hf H 0 TF.sz34 rfl rfl rfl rfl rfl rfl (nle rfl) fun w H => ?_)
   refine ⟨fun h => absurd h (by decide), ?_⟩
   refine dk ?_
   have H := H.frontR 1 rfl
   have hf := hf.pn [2]
   have H := H.lt_ [true, false] [true, true] [] []
   exact ⟨A5, c3, E, A6, c4, E2, hf, H⟩
 rintro a w ⟨A4, c3, E, A6, c4, E2, hf, H⟩
 refine then_n (wp_ret (?_))
 have H := H.rowOwn 1 rfl rfl
 obtain ⟨F, H⟩ := H.freezeOwn 1 rfl
 have H := H.lend 0 rfl
 have H := H.rowOwn 0 rfl rfl
 obtain ⟨F2, H⟩ := H.freezeOwn 0 rfl
 have H := H.lend 0 rfl
 have H := H.frontD 1 rfl
 obtain rfl := oi hF
 refine ret_1 hf rfl (rv_cellN hf H 0 TF.la34 rfl rfl rfl) ?_
 have hN := H.ends2
 exact ⟨_, rfl, H.bel, (F ++ F2), ⟨_, Network_ownmk (x := ({ Nodes := l, Fibers := l2 } : Network)) (H.ownAt 0 rfl) (H.ownAt 1 rfl), rfl⟩, by first | exact hN | simpa using hN⟩
theorem impl_copyRoute_ok {S : Nat → Prop} {v0_ : Value} {r' : Route} {r : Route} (h0 : VR w0 S v0_ r') (hF : impl_copyRoute fu r' = some r) :
    Calls Tryz.prog 127 [v0_].toArray w0 fun e w' => ∃ v, e = .returned v ∧ (Below w0.heap.size w0 w' ∧ ∃ F0, VO w' F0 v r ∧ New w0 w' F0) := by
 obtain ⟨A, c, rfl, hl⟩ := Route_open h0
 have H := Mem.start ⟨w0, []⟩ S
 have H := H.pA hl
 refine en Tryz.func127 fun a hf => ?_
 rw [impl_copyRoute] at hF
 refine bx hf H fun b' a w hf H => ?_
 refine aL hf H TF.zv59 fun b2 a w hf H => ?_
 refine wl_end (then_n (sq (dw [7] 8 fun w hb => ?_)))
 have H := H.keep hb
 refine zp 0 hf trivial fun a hf => ?_
 refine strT (H.lt_ [false, true] [] [] []) (fun w H => trivial) fun hS => ?_
 refine zS 1 [1, 6, 7] rfl rfl rfl rfl hf hS (fun w H => rq_loadB hf H TF.ls3 0 rfl rfl rfl) fun a hf => ?_
 refine zp 3 hf hS fun a hf => ?_
 refine zS 4 [4, 5, 6, 7] rfl rfl rfl rfl hf hS (fun w H => rq_loadB hf H TF.ls47 0 rfl rfl rfl) fun a hf => ?_
 refine nn 2 rfl (bl hf H 3 ([] : List Int) [] el0 fun A2 a w hf H => ?_)
 have hS := H.lt_ [false, true] [false] [] []
 refine aS hS ?_
 obtain ⟨l, hl_, hF⟩ := bs_ hF
 have H := H.rowWeak 0 rfl
 refine nn 5 rfl (op_appI hf H Tryz.underlying47 TF.ai3 rfl (by decide) 0 0 rfl rfl rfl rfl (.inl rfl) hl_ (by decide) fun E A3 c2 a w hf H => ?_)
 have H := H.rowOwn 0 rfl rfl
 have H := H.rowSh 0 rfl
 have hS := H.lt_ [false, true] [false] [] []
 refine aS hS ?_
 refine zP 6 rfl rfl rfl rfl hf hS (fun w => rq_build hf (cs := [(.int .i64 r'.Start), (.slice A3 l.length c2)]) rfl (fun w => by kernel_rfl)) fun a hf => ?_
 refine nn 7 rfl (op_storeB hf H 0 TF.sz59 rfl rfl rfl rfl rfl rfl (nle rfl) fun w H => ?_)
 refine ⟨fun h => absurd h (by decide), ?_⟩
 refine dk ?_
 refine then_n (wp_ret (?_))
 have H := H.rowOwn 0 rfl rfl
 obtain ⟨F, H⟩ := H.freezeOwn 0 rfl
 have H := H.lend 0 rfl
 obtain rfl := oi hF
 refine ret_1 hf rfl (rv_cellN hf H 0 TF.la59 rfl rfl rfl) ?_
 have hN := H.ends1
 exact ⟨_, rfl, H.bel, F, ⟨_, Route_ownmk (x := ({ Start := r'.Start, Fibers := l } : Route)) (H.ownAt 0 rfl), rfl⟩, by first | exact hN | simpa using hN⟩
theorem impl_copyPlan_ok {S : Nat → Prop} {v0_ : Value} {p : Plan} {r : Plan} (h0 : VR w0 S v0_ p) (hF : impl_copyPlan fu p = some r) :
    Calls Tryz.prog 58 [v0_].toArray w0 fun e w' => ∃ v, e = .returned v ∧ (Below w0.heap.size w0 w' ∧ ∃ F0, VO w' F0 v r ∧ New w0 w' F0) := by
 obtain ⟨A, c, A2, c2, A3, c3, rfl, hl, hl2, hl3⟩ := Plan_open h0
 have H := Mem.start ⟨w0, []⟩ S
 have H := H.pA hl
 have H := H.pA hl2
 have H := H.pA hl3
 refine en Tryz.func58 fun a hf => ?_
 rw [impl_copyPlan] at hF
 refine bx hf H fun b' a w hf H => ?_
 refine aL hf H TF.zv37 fun b2 a w hf H => ?_
 refine wr (pz 1 hf fun a hf => ?_)
 refine lN 1 hf H TF.la34 fun a hf => ?_
 obtain ⟨y, hy, hF⟩ := bs_ hF
 refine oc hf TF.cl126 (impl_copyNetwork_ok (S := TT) (Network_mkv (x := p.Network) (H.rt 2 rfl) (H.rt 1 rfl)) hy) fun v w a hp hf => ?_
 obtain ⟨hb, F, hp2, hN⟩ := hp
 obtain ⟨A4, c4, F2, A5, c5, F3, rfl, rfl, hl4, hl5⟩ := Network_vo hp2
 have H := H.aO2 hb hN hl4 hl5
 have H := H.lend 0 rfl
 have H := H.lend 1 rfl
 refine oq hf (rq_build hf (cs := [(.slice A4 y.Nodes.length c4), (.slice A5 y.Fibers.length c5), (.slice none 0 0)]) rfl (fun w => by kernel_rfl)) fun a hf => ?_
 refine aL hf H TF.zv37 fun b3 a w hf H => ?_
 refine sB 0 hf H TF.sz37 fun w H => ?_
 refine we (sqz (pz 1 hf fun a hf => ?_))
 refine lB 2 hf H TF.ls35 fun a hf => ?_
 refine pz 2 hf fun a hf => ?_
 refine wl_end (then_n ?_)
 have H := H.nilRow (Light) (.ow []) rfl rfl 73
 obtain ⟨out', hB1, hF⟩ := bs_ hF
 have hf := hf.pn [2, 3, 11, 12, 13]
 have H := H.lt_ [true, true, false] [true] [true, true] [0, 1, 2]
 refine loopC (fun (s : Int × List Light) (a : Act) (w : World) => match s with | (i, m) => ∃ (A6 : Option Addr) (c6 : Nat) (E : Go.TypeId) (Fs : List (List Nat)), Fr a 32 [(2, (.pointer (some ⟨b2, 0, none⟩))), (3, (.pointer (some ⟨b3, 0, none⟩))), (11, (.slice A3 p.Lights.length c3)), (12, (.int .i64 (p.Lights.length : Int))), (13, (.int .i64 i))] ∧ Mem ⟨w0, []⟩ S [⟨b3, 37, [(.slice A4 y.Nodes.length c4), (.slice A5 y.Fibers.length c5), (.slice A6 m.length c6)]⟩, ⟨b2, 37, [(.slice none 0 0), (.slice none 0 0), (.slice none 0 0)]⟩] [⟨.ow Fs, E, A6, c6, (m : List Light)⟩] [⟨F2, MP.own F2 [(.slice A4 y.Nodes.length c4)] (y.Nodes : List ByteArray)⟩, ⟨F3, MP.own F3 [(.slice A5 y.Fibers.length c5)] (y.Fibers : List Fiber)⟩] [(true, MP.val [(.slice A5 y.Fibers.length c5)] (y.Fibers : List Fiber)), (true, MP.val [(.slice A4 y.Nodes.length c4)] (y.Nodes : List ByteArray)), (false, MP.val [(.slice A3 p.Lights.length c3)] (p.Lights : List Light))] w) (fun k (s : Int × List Light) => impl_copyPlan_L1 fu p k s.1 s.2 = some out') (fun s => out' = s) (0, ([] : List Light)) fu hB1 ⟨none, 0, 73, [], hf, H⟩ (fun s h => by cases h) ?_ ?_
 ·rintro fk ⟨i, m⟩ a w hR1 hI
  replace hR1 : impl_copyPlan_L1 fu p (fk + 1) i m = some out' := hR1
  rw [impl_copyPlan_L1] at hR1
  obtain ⟨A6, c6, E, Fs, hf, H⟩ := hI
  refine sqz (pz 1 hf fun a hf => ?_)
  refine wl_end (then_n (sq (ib hR1 hf (fun hc hR1 => ?_) fun hc hR1 => ?_)))
  ·refine wp_skip (then_n (sq (wp_block (sq (reg ?_)))))
   obtain ⟨e, he, hR1⟩ := bs_ hR1
   refine wl0 rfl (op_iaddr hf H Tryz.underlying35 TF.sz73 2 rfl rfl rfl he (by decide) fun p2 o cs a hf hr H => ?_)
   obtain ⟨A7, c7, rfl, hl6⟩ := Light_cells hr
   have H := H.pF hl6
   refine oq hf (rq_loadIN hf H TF.la73 1 0 rfl rfl rfl rfl) fun a hf => ?_
   refine aL hf H TF.zv73 fun b4 a w hf H => ?_
   refine sB 0 hf H TF.sz73 fun w H => ?_
   refine wl_end (then_n (dw [13] 14 fun w hb => ?_))
   have H := H.keep hb
   refine zp 0 hf trivial fun a hf => ?_
   refine strT (H.lt_ [false, true, false] [false] [false, false] []) (fun w H => trivial) fun hS => ?_
   refine zS 1 [1, 11, 12, 13] rfl rfl rfl rfl hf hS (fun w H => rq_loadB hf H TF.ls35 0 rfl rfl rfl) fun a hf => ?_
   refine zp 2 hf hS fun a hf => ?_
   refine strT (H.lt_ [true, true, false] [false] [false, false] []) (fun w H => H.lt_ [false, true] [] [] []) fun hS => ?_
   refine zS 3 [3, 9, 10, 11, 12, 13] rfl rfl rfl rfl hf hS (fun w H => rq_loadB hf H TF.ls3 0 rfl rfl rfl) fun a hf => ?_
   refine zp 4 hf hS fun a hf => ?_
   refine zS 5 [5, 6, 9, 10, 11, 12, 13] rfl rfl rfl rfl hf hS (fun w H => rq_loadBN hf H TF.la59 0 rfl rfl rfl rfl) fun a hf => ?_
   refine zp 7 hf hS fun a hf => ?_
   refine zS 8 [8, 9, 10, 11, 12, 13] rfl rfl rfl rfl hf hS (fun w H => rq_loadBN hf H TF.la71 0 rfl rfl rfl rfl) fun a hf => ?_
   obtain ⟨y2, hy2, hR1⟩ := bs_ hR1
   refine nn 6 rfl (oC hf TF.cl127 (impl_copyRoute_ok (S := TT) (Route_mkv (x := e.Route) (H.rt 0 rfl)) hy2) fun v2 w a hp3 hf => ?_)
   obtain ⟨hb2, F4, hp4, hN2⟩ := hp3
   obtain ⟨A8, c8, F5, rfl, rfl, hl7⟩ := Route_vo hp4
   have H := H.aO1 hb2 hN2 hl7
   have H := H.lend 0 rfl
   have hS := H.lt_ [true, true, false] [false] [false, false, false] []
   refine aS hS ?_
   refine zP 9 rfl rfl rfl rfl hf hS (fun w => rq_build hf (cs := [(.int .i64 e.Id), (.int .i64 y2.Start), (.slice A8 y2.Fibers.length c8), (.int .i64 e.Block.First), (.int .i64 e.Block.Count)]) rfl (fun w => by kernel_rfl)) fun a hf => ?_
   have H := H.recast (X := [(⟨F5, MP.own F5 [(.slice A8 y2.Fibers.length c8)] (y2.Fibers : List Int)⟩ : DI)]) (Y := [(⟨F5, MP.own F5 [(.int .i64 e.Id), (.int .i64 y2.Start), (.slice A8 y2.Fibers.length c8), (.int .i64 e.Block.First), (.int .i64 e.Block.Count)] (({ Id := e.Id, Route := y2, Block := e.Block } : Light) : Light)⟩ : DI)]) (List.Perm.of_eq (by simp)) fun _ => ps1 (Light_ownmk (x := ({ Id := e.Id, Route := y2, Block := e.Block } : Light)) (H.ownAt 0 rfl)) ps0
   refine nn 10 rfl (op_bsliceO hf 73 H rfl (fun w => by kernel_rfl) (by decide) fun A9 a w hf H => ?_)
   have hS := H.lt_ [true, true, false] [false, false] [false, false] []
   refine aS hS ?_
   obtain ⟨al, hal, hR1⟩ := bs_ hR1
   have H := H.frontR 1 rfl
   refine nn 11 rfl (op_appO hf H Tryz.underlying35 TF.ai73 rfl (by decide) rfl rfl hal (by decide) fun E2 A10 c9 a w hf H => ?_)
   have hS := H.lt_ [true, true, false] [false] [false, false] []
   refine aS hS ?_
   refine zp 12 hf hS fun a hf => ?_
   refine nn 13 rfl (op_storeB hf H 1 TF.sz35 rfl rfl rfl rfl rfl rfl (nle rfl) fun w H => ?_)
   refine ⟨fun h => absurd h (by decide), ?_⟩
   refine dk ?_
   have hf := hf.pn [2, 3, 11, 12, 13]
   refine blk_n (then_n (reg (pz 2 hf fun a hf => ?_)))
   refine wl_end ?_
   have hf := hf.pn [2, 3, 11, 12, 13]
   have H := H.lt_ [false, true, true] [true] [true, true] [3, 4, 5]
   exact then_n ⟨(w64 (i + 1), al), hR1, A10, c9, E2, Fs ++ [F5], hf, H⟩
  ·refine wp_exit (then_x (then_x (blk_e (?_))))
   have hf := hf.pn [2, 3, 11, 12, 13]
   have H := H.lt_ [true, true] [true] [true, true] [0, 1, 2]
   exact ⟨(i, m), (Option.some.inj hR1).symm, A6, c6, E, Fs, hf, H⟩
 rintro a w ⟨⟨i2, m2⟩, rfl, A11, c10, E3, Fs2, hf, H⟩
 try dsimp only at hF
 refine then_n (sq (reg (lN 0 hf H TF.la37 fun a hf => ?_)))
 refine sB 1 hf H TF.sz37 fun w H => ?_
 refine wer ?_
 obtain ⟨F6, H⟩ := H.freezeOwn 0 rfl
 have H := H.lend 0 rfl
 have H := H.frontD 2 rfl
 have H := H.frontD 2 rfl
 obtain rfl := oi hF
 refine ret_1 hf rfl (rv_cellN hf H 1 TF.la37 rfl rfl rfl) ?_
 have hN := H.ends3
 exact ⟨_, rfl, H.bel, (F2 ++ (F3 ++ F6)), ⟨_, Plan_ownmk (x := ({ Network := y, Lights := m2 } : Plan)) (H.ownAt 0 rfl) (H.ownAt 1 rfl) (H.ownAt 2 rfl), rfl⟩, by first | exact hN | simpa using hN⟩
theorem impl_CompactPlan_ok {S : Nat → Prop} {v0_ : Value} {p : Plan} {r : Plan × Bool} (h0 : VR w0 S v0_ p) (hF : impl_CompactPlan fu p = some r) :
    Calls Tryz.prog 15 [v0_].toArray w0 fun e w' => ∃ v, e = .returned v ∧ (Below w0.heap.size w0 w' ∧ ∃ F0, ∃ u0 u1, v = .tuple #[u0, u1] ∧ VO w' F0 u0 r.1 ∧ VR w' (St ⟨w0, []⟩ S [] [] [] true) u1 r.2 ∧ New w0 w' F0) := by
 obtain ⟨A, c, A2, c2, A3, c3, rfl, hl, hl2, hl3⟩ := Plan_open h0
 have H := Mem.start ⟨w0, []⟩ S
 have H := H.pA hl
 have H := H.pA hl2
 have H := H.pA hl3
 refine en Tryz.func15 fun a hf => ?_
 rw [impl_CompactPlan] at hF
 refine bx hf H fun b' a w hf H => ?_
 refine aL hf H TF.zv37 fun b2 a w hf H => ?_
 refine pz 1 hf fun a hf => ?_
 refine wl_end (then_n (sq (sq (reg (lN 1 hf H TF.la37 fun a hf => ?_)))))
 obtain ⟨y, hy, hF⟩ := bs_ hF
 refine oc hf TF.cl34 (impl_IsValidPlan_ok (S := TT) (Plan_mkv (x := p) (H.rt 2 rfl) (H.rt 1 rfl) (H.rt 0 rfl)) hy) fun v w a hp hf => ?_
 obtain ⟨hb, hp⟩ := hp
 obtain rfl := VR_bool hp
 have H := H.keep hb
 refine pz 1 hf fun a hf => ?_
 refine wl_end (then_n (ib hF hf (fun hc hF => ?_) fun hc hF => ?_))
 ·refine sq (reg (oq hf (rq_build hf (cs := [(.slice none 0 0), (.slice none 0 0), (.slice none 0 0)]) rfl (fun w => by kernel_rfl)) fun a hf => ?_))
  refine sB 0 hf H TF.sz37 fun w H => ?_
  refine pz 1 hf fun a hf => ?_
  refine wl_end (then_n (wp_ret (then_r (?_))))
  have H := H.ownNil (ByteArray)
  have H := H.lend 0 rfl
  have H := H.ownNil (Fiber)
  have H := H.lend 0 rfl
  have H := H.ownNil (Light)
  have H := H.lend 0 rfl
  have H := H.frontD 1 rfl
  have H := H.frontD 2 rfl
  obtain rfl := oi hF
  refine ret_2 hf rfl (rv_cellN hf H 0 TF.la37 rfl rfl rfl) (rv_tmp hf rfl) ?_
  have hN := H.ends3
  exact ⟨_, rfl, H.bel, ([] ++ ([] ++ [])), _, _, rfl, ⟨_, Plan_ownmk (x := ({ Network := ({ Nodes := [], Fibers := [] } : Network), Lights := [] } : Plan)) (H.ownAt 0 rfl) (H.ownAt 1 rfl) (H.ownAt 2 rfl), rfl⟩, mk_bool, by first | exact hN | simpa using hN⟩
 ·refine wp_skip (then_n (sq (dw [] 12 fun w hb => ?_)))
  have H := H.keep hb
  refine zp 0 hf trivial fun a hf => ?_
  refine strT (H.lt_ [false, true] [] [] []) (fun w H => trivial) fun hS => ?_
  refine zS 1 [] rfl rfl rfl rfl hf hS (fun w H => rq_loadBN hf H TF.la34 0 rfl rfl rfl rfl) fun a hf => ?_
  refine zS 2 [] rfl rfl rfl rfl hf hS (fun w H => rq_loadBN hf H TF.la37 0 rfl rfl rfl rfl) fun a hf => ?_
  obtain ⟨y2, hy2, hF⟩ := bs_ hF
  refine nn 3 rfl (oC hf TF.cl54 (impl_requestsOf_ok (Plan_mkv (x := p) (H.get 2 rfl) (H.get 1 rfl) (H.get 0 rfl)) hy2) fun v2 w a hp2 hf => ?_)
  obtain ⟨hb2, hp2⟩ := hp2
  obtain ⟨A4, c4, rfl, hl4⟩ := VR_list hp2
  replace hl4 := H.res (f := MP.val [(.slice A4 y2.length c4)] y2) hl4
  have H := H.keep hb2
  have H := H.pF hl4
  have hS := H.lt_ [false, true] [] [] []
  refine aS hS ?_
  obtain ⟨y3, hy3, hF⟩ := bs_ hF
  refine nn 4 rfl (oC hf TF.cl20 (impl_AssignExact_ok (S := TT) (Network_mkv (x := p.Network) (H.rt 3 rfl) (H.rt 2 rfl)) (mk_list (H.rt 0 rfl)) hy3) fun v3 w a hp3 hf => ?_)
  obtain ⟨hb3, F, v4, v5, v6, rfl, hp4, hp5, hp6, hN⟩ := hp3
  obtain ⟨A5, c5, rfl, hl5⟩ := VO_list hp4
  obtain rfl := VR_int hp5
  obtain rfl := VR_bool hp6
  have H := H.aO1 hb3 hN hl5
  have H := H.lend 0 rfl
  have hS := H.lt_ [false, true] [] [false] []
  refine aS hS ?_
  refine zp 5 hf hS fun a hf => ?_
  refine zp 6 hf hS fun a hf => ?_
  refine zp 7 hf hS fun a hf => ?_
  refine zp 8 hf hS fun a hf => ?_
  refine zp 9 hf hS fun a hf => ?_
  refine zp 10 hf hS fun a hf => ?_
  refine zp 11 hf hS fun a hf => ?_
  refine dk ?_
  have hf := hf.pn [1, 2, 4, 6]
  refine then_n (sq (sqz (pz 2 hf fun a hf => ?_)))
  refine wl_end (then_n (ib hF hf (fun hc2 hF => ?_) fun hc2 hF => ?_))
  ·refine sq (reg (oq hf (rq_build hf (cs := [(.slice none 0 0), (.slice none 0 0), (.slice none 0 0)]) rfl (fun w => by kernel_rfl)) fun a hf => ?_))
   refine sB 0 hf H TF.sz37 fun w H => ?_
   refine pz 1 hf fun a hf => ?_
   refine wl_end (then_n (wp_ret (then_r (?_))))
   have H := H.ownNil (ByteArray)
   have H := H.lend 0 rfl
   have H := H.ownNil (Fiber)
   have H := H.lend 0 rfl
   have H := H.ownNil (Light)
   have H := H.lend 0 rfl
   have H := H.frontD 1 rfl
   have H := H.frontD 2 rfl
   obtain rfl := oi hF
   refine ret_2 hf rfl (rv_cellN hf H 0 TF.la37 rfl rfl rfl) (rv_tmp hf rfl) ?_
   have hN := H.ends3
   exact ⟨_, rfl, H.bel, ([] ++ ([] ++ [])), _, _, rfl, ⟨_, Plan_ownmk (x := ({ Network := ({ Nodes := [], Fibers := [] } : Network), Lights := [] } : Plan)) (H.ownAt 0 rfl) (H.ownAt 1 rfl) (H.ownAt 2 rfl), rfl⟩, mk_bool, by first | exact hN | simpa using hN⟩
  ·refine wp_skip (then_n (sq (reg (lN 1 hf H TF.la37 fun a hf => ?_))))
   obtain ⟨y4, hy4, hF⟩ := bs_ hF
   refine oc hf TF.cl58 (impl_copyPlan_ok (S := TT) (Plan_mkv (x := p) (H.rt 4 rfl) (H.rt 3 rfl) (H.rt 2 rfl)) hy4) fun v7 w a hp7 hf => ?_
   obtain ⟨hb4, F3, hp8, hN2⟩ := hp7
   obtain ⟨A6, c6, F4, A7, c7, F5, A8, c8, F6, rfl, rfl, hl6, hl7, hl8⟩ := Plan_vo hp8
   have H := H.aO3 hb4 (by first | exact hN2 | simpa using hN2) hl6 hl7 hl8
   have H := H.lend 0 rfl
   have H := H.lend 1 rfl
   have H := H.lend 2 rfl
   have H := H.frontD 2 rfl
   obtain ⟨Fs, E, H, -⟩ := H.thaw rfl
   have H := H.pA hl
   have H := H.pA hl2
   have H := H.pA hl3
   have H := H.lend 0 rfl
   have H := H.lend 1 rfl
   have H := H.lend 2 rfl
   refine aL hf H TF.zv37 fun b3 a w hf H => ?_
   refine sB 0 hf H TF.sz37 fun w H => ?_
   refine we (sqz (pz 3 hf fun a hf => ?_))
   refine wl_end (then_n ?_)
   obtain ⟨out', hB1, hF⟩ := bs_ hF
   have hf := hf.pn [2, 7, 28, 29, 30]
   have H := H.lt_ [true, true, false] [true] [true, true, true] [0, 1, 2]
   refine loopC (fun (s : Int × List Light) (a : Act) (w : World) => match s with | (i, m) => ∃ (A9 : Option Addr) (c9 : Nat) (E2 : Go.TypeId) (Fs2 : List (List Nat)), Fr a 43 [(2, (.pointer (some ⟨b2, 0, none⟩))), (7, (.pointer (some ⟨b3, 0, none⟩))), (28, (.slice A5 y3.1.length c5)), (29, (.int .i64 (y3.1.length : Int))), (30, (.int .i64 i))] ∧ Mem ⟨w0, []⟩ S [⟨b3, 37, [(.slice A6 y4.Network.Nodes.length c6), (.slice A7 y4.Network.Fibers.length c7), (.slice A9 m.length c9)]⟩, ⟨b2, 37, [(.slice none 0 0), (.slice none 0 0), (.slice none 0 0)]⟩] [⟨.ow Fs2, E2, A9, c9, (m : List Light)⟩] [⟨F4, MP.own F4 [(.slice A6 y4.Network.Nodes.length c6)] (y4.Network.Nodes : List ByteArray)⟩, ⟨F5, MP.own F5 [(.slice A7 y4.Network.Fibers.length c7)] (y4.Network.Fibers : List Fiber)⟩, ⟨F, MP.own F [(.slice A5 y3.1.length c5)] (y3.1 : List Block)⟩] [(true, MP.val [(.slice A5 y3.1.length c5)] (y3.1 : List Block)), (true, MP.val [(.slice A7 y4.Network.Fibers.length c7)] (y4.Network.Fibers : List Fiber)), (true, MP.val [(.slice A6 y4.Network.Nodes.length c6)] (y4.Network.Nodes : List ByteArray))] w) (fun k (s : Int × List Light) => impl_CompactPlan_L1 fu y3 k s.1 s.2 = some out') (fun s => out' = s) (0, y4.Lights) fu hB1 ⟨A8, c8, E, Fs, hf, H⟩ (fun s h => by cases h) ?_ ?_
   ·rintro fk ⟨i, m⟩ a w hR1 hI
    replace hR1 : impl_CompactPlan_L1 fu y3 (fk + 1) i m = some out' := hR1
    rw [impl_CompactPlan_L1] at hR1
    obtain ⟨A9, c9, E2, Fs2, hf, H⟩ := hI
    refine sqz (pz 1 hf fun a hf => ?_)
    refine wl_end (then_n (sq (ib hR1 hf (fun hc3 hR1 => ?_) fun hc3 hR1 => ?_)))
    ·refine ws (pz 1 hf fun a hf => ?_)
     obtain ⟨e, he, hR1⟩ := bs_ hR1
     refine wl0 rfl (op_iaddr hf H Tryz.underlying50 TF.sz71 0 rfl rfl rfl he (by decide) fun p2 o cs a hf hr H => ?_)
     obtain rfl := Block_cells hr
     refine oq hf (rq_loadIN hf H TF.la71 0 0 rfl rfl rfl rfl) fun a hf => ?_
     refine aL hf H TF.zv71 fun b4 a w hf H => ?_
     refine pz 1 hf fun a hf => ?_
     refine sB 0 hf H TF.sz71 fun w H => ?_
     refine wl_end (then_n (reg (pz 1 hf fun a hf => ?_)))
     refine lB 1 hf H TF.ls35 fun a hf => ?_
     refine pz 1 hf fun a hf => ?_
     refine lN 0 hf H TF.la71 fun a hf => ?_
     obtain ⟨e2, he2, hR1⟩ := bs_ hR1
     refine wl0 rfl (op_iaddrR hf H Tryz.underlying35 TF.sz73 0 rfl rfl rfl he2 (by decide) fun p3 o2 cs2 a hf hA hr2 hk => ?_)
     have hrk := hr2
     obtain ⟨A10, c10, rfl, hl9⟩ := Light_cells hr2
     have H := H.pT hl9
     refine pz 1 hf fun a hf => ?_
     refine wl0 rfl (op_storeR (e' := ({ Id := e2.Id, Route := e2.Route, Block := e } : Light)) (o := o2) (off := 3) hf H TF.sz71 0 rfl rfl rfl rfl rfl (nle rfl) rfl hA he2 (st_own fun F cs h => by obtain ⟨A0, c0, F0, rfl, rfl, l0⟩ := Light_own h; exact Light_ownmk (x := ({ Id := e2.Id, Route := e2.Route, Block := e } : Light)) l0) fun w H => ?_)
     replace hf : Fr a 43 [(2, (.pointer (some ⟨b2, 0, none⟩))), (7, (.pointer (some ⟨b3, 0, none⟩))), (8, (.int .i64 i)), (9, (.pointer (some ⟨b4, 0, none⟩))), (28, (.slice A5 y3.1.length c5)), (29, (.int .i64 (y3.1.length : Int))), (30, (.int .i64 i)), (35, (.pointer (some ⟨b3, 2, none⟩))), (36, (.slice A9 m.length c9)), (37, (.int .i64 i)), (38, (.agg #[(.int .i64 e.First), (.int .i64 e.Count)])), (39, (.pointer (some ⟨p3, o2 + 0, none⟩))), (40, (.pointer (some ⟨p3, o2 + 3, none⟩)))] := hf.prune [2, 7, 8, 9, 28, 29, 30, 35, 36, 37, 38, 39, 40] rfl
     replace hf : Fr a 43 [(2, (.pointer (some ⟨b2, 0, none⟩))), (7, (.pointer (some ⟨b3, 0, none⟩))), (8, (.int .i64 i)), (9, (.pointer (some ⟨b4, 0, none⟩))), (28, (.slice A5 y3.1.length c5)), (29, (.int .i64 (y3.1.length : Int))), (30, (.int .i64 i)), (35, (.pointer (some ⟨b3, 2, none⟩))), (36, (.slice A9 (m.set (i : Int).toNat ({ Id := e2.Id, Route := e2.Route, Block := e } : Light)).length c9)), (37, (.int .i64 i)), (38, (.agg #[(.int .i64 e.First), (.int .i64 e.Count)])), (39, (.pointer (some ⟨p3, o2 + 0, none⟩))), (40, (.pointer (some ⟨p3, o2 + 3, none⟩)))] := by simpa only [List.length_set, Nat.add_zero] using hf
     replace H : Mem ⟨w0, []⟩ S [⟨b4, 71, [(.int .i64 e.First), (.int .i64 e.Count)]⟩, ⟨b3, 37, [(.slice A6 y4.Network.Nodes.length c6), (.slice A7 y4.Network.Fibers.length c7), (.slice A9 (m.set (i : Int).toNat ({ Id := e2.Id, Route := e2.Route, Block := e } : Light)).length c9)]⟩, ⟨b2, 37, [(.slice none 0 0), (.slice none 0 0), (.slice none 0 0)]⟩] [⟨.ow Fs2, E2, A9, c9, (m.set (i : Int).toNat ({ Id := e2.Id, Route := e2.Route, Block := e } : Light) : List Light)⟩] [⟨F4, MP.own F4 [(.slice A6 y4.Network.Nodes.length c6)] (y4.Network.Nodes : List ByteArray)⟩, ⟨F5, MP.own F5 [(.slice A7 y4.Network.Fibers.length c7)] (y4.Network.Fibers : List Fiber)⟩, ⟨F, MP.own F [(.slice A5 y3.1.length c5)] (y3.1 : List Block)⟩] [(true, MP.val [(.slice A10 e2.Route.Fibers.length c10)] (e2.Route.Fibers : List Int)), (true, MP.cells ⟨p2, o, none⟩ [(.int .i64 e.First), (.int .i64 e.Count)]), (true, MP.val [(.slice A5 y3.1.length c5)] (y3.1 : List Block)), (true, MP.val [(.slice A7 y4.Network.Fibers.length c7)] (y4.Network.Fibers : List Fiber)), (true, MP.val [(.slice A6 y4.Network.Nodes.length c6)] (y4.Network.Nodes : List ByteArray))] w := by first | (simp only [List.length_set]; exact H) | (simp only [List.length_set] at H ⊢; exact H)
     refine wl_end (blk_n (then_n (reg (pz 2 hf fun a hf => ?_))))
     refine wl_end ?_
     have hf := hf.pn [2, 7, 28, 29, 30]
     have H := H.lt_ [false, true, true] [true] [true, true, true] [2, 3, 4]
     exact then_n ⟨(w64 (i + 1), m.set (i : Int).toNat ({ Id := e2.Id, Route := e2.Route, Block := e } : Light)), hR1, A9, c9, E2, Fs2, hf, H⟩
    ·refine wp_exit (then_x (then_x (blk_e (?_))))
     have hf := hf.pn [2, 7, 28, 29, 30]
     have H := H.lt_ [true, true] [true] [true, true, true] [0, 1, 2]
     exact ⟨(i, m), (Option.some.inj hR1).symm, A9, c9, E2, Fs2, hf, H⟩
   rintro a w ⟨⟨i2, m2⟩, rfl, A11, c11, E3, Fs3, hf, H⟩
   try dsimp only at hF
   refine then_n (sq (reg (lN 0 hf H TF.la37 fun a hf => ?_)))
   refine sB 1 hf H TF.sz37 fun w H => ?_
   refine pz 1 hf fun a hf => ?_
   refine wer ?_
   obtain ⟨F7, H⟩ := H.freezeOwn 0 rfl
   have H := H.lend 0 rfl
   have H := H.frontD 2 rfl
   have H := H.frontD 2 rfl
   obtain rfl := oi hF
   refine ret_2 hf rfl (rv_cellN hf H 1 TF.la37 rfl rfl rfl) (rv_tmp hf rfl) ?_
   have hN := H.ends3
   exact ⟨_, rfl, H.bel, (F4 ++ (F5 ++ F7)), _, _, rfl, ⟨_, Plan_ownmk (x := ({ Network := y4.Network, Lights := m2 } : Plan)) (H.ownAt 0 rfl) (H.ownAt 1 rfl) (H.ownAt 2 rfl), rfl⟩, mk_bool, by first | exact hN | simpa using hN⟩
theorem laws_markText_ok {S : Nat → Prop} {v0_ : Value} {k' : Int} {r : ByteArray} (h0 : VR w0 S v0_ k') (hF : laws_markText fu k' = some r) :
    Calls Tryz.prog 191 [v0_].toArray w0 fun e w' => ∃ v, e = .returned v ∧ (Below w0.heap.size w0 w' ∧ VR w' (St ⟨w0, []⟩ S [] [] [] true) v r) := by
 obtain rfl := VR_int h0
 have H := Mem.start ⟨w0, []⟩ S
 refine en Tryz.func191 fun a hf => ?_
 rw [laws_markText] at hF
 refine sqz (pz 1 hf fun a hf => ?_)
 refine we (sqz (pz 2 hf fun a hf => ?_))
 refine wl_end (then_n (ib hF hf (fun hc hF => ?_) fun hc hF => ?_))
 ·refine sqz (pz 1 hf fun a hf => ?_)
  refine wl_end (then_n (wp_ret (then_r (?_))))
  obtain rfl := oi hF
  refine rT hf ?_
  exact ⟨_, rfl, H.bel, mk_str⟩
 ·refine wp_skip (then_n (sqz (pz 1 hf fun a hf => ?_)))
  refine wl_end (then_n (sq ?_))
  obtain ⟨out2, hB1, hF⟩ := bs_ hF
  have hf := hf.pn [0, 3]
  have H := H.lt_ [] [] [] []
  refine loopC (fun (s : Int × ByteArray) (a : Act) (w : World) => match s with | (k2, out') => Fr a 20 [(0, (.int .i64 k2)), (3, (.string out'))] ∧ Mem ⟨w0, []⟩ S [] [] [] [] w) (fun k (s : Int × ByteArray) => laws_markText_L1 fu k s.1 s.2 = some out2) (fun s => out2 = s) (k', ByteArray.empty) fu hB1 ⟨hf, H⟩ (fun s h => by cases h) ?_ ?_
  ·rintro fk ⟨k2, out'⟩ a w hR1 hI
   replace hR1 : laws_markText_L1 fu (fk + 1) k2 out' = some out2 := hR1
   rw [laws_markText_L1] at hR1
   obtain ⟨hf, H⟩ := hI
   refine sq (sqz (pz 2 hf fun a hf => ?_))
   refine wl_end (then_n (ib hR1 hf (fun hc2 hR1 => ?_) fun hc2 hR1 => ?_))
   ·refine wp_skip (then_n (wp_block (sqz (pz 1 hf fun a hf => ?_))))
    obtain ⟨q, hq, hR1⟩ := bs_ hR1
    refine oq hf (rq_rem hf rfl rfl hq) fun a hf => ?_
    refine pz 1 hf fun a hf => ?_
    refine oq hf (rq_conv u8w Tryz.underlying3 Tryz.underlying5 hf rfl) fun a hf => ?_
    refine wl0 rfl (bl hf H 5 ([(⟨wu8 (w64 (48 + q))⟩ : By)] : List By) [(.int .u8 (wu8 (w64 (48 + q))))] (el1 (y := (⟨wu8 (w64 (48 + q))⟩ : By)) (rfl)) fun A a w hf H => ?_)
    refine oq hf (rq_convBS Tryz.underlying44 Tryz.underlying5 Tryz.underlying9 hf rfl (H.rowTrue 0 rfl)) fun a hf => ?_
    refine pz 1 hf fun a hf => ?_
    obtain ⟨s', hs', hR1⟩ := bs_ hR1
    refine oq hf (rq_scat hf rfl rfl hs') fun a hf => ?_
    refine pz 1 hf fun a hf => ?_
    refine wl_end (then_n (reg (pz 1 hf fun a hf => ?_)))
    obtain ⟨q2, hq2, hR1⟩ := bs_ hR1
    refine oq hf (rq_quo hf rfl rfl hq2) fun a hf => ?_
    refine pz 1 hf fun a hf => ?_
    refine wl_end (blk_n ?_)
    have hf := hf.pn [0, 3]
    have H := H.lt_ [] [false] [] []
    exact then_n ⟨(q2, s'), hR1, hf, H⟩
   ·refine wp_exit (then_x (then_x (blk_e (?_))))
    have hf := hf.pn [0, 3]
    have H := H.lt_ [] [] [] []
    exact ⟨(k2, out'), (Option.some.inj hR1).symm, hf, H⟩
  rintro a w ⟨⟨k3, out3⟩, rfl, hf, H⟩
  try dsimp only at hF
  refine then_n (sqz (pz 1 hf fun a hf => ?_))
  obtain ⟨s2, hs2, hF⟩ := bs_ hF
  refine oq hf (rq_scat hf rfl rfl hs2) fun a hf => ?_
  refine pz 1 hf fun a hf => ?_
  refine wer ?_
  obtain rfl := oi hF
  refine rT hf ?_
  exact ⟨_, rfl, H.bel, mk_str⟩
theorem laws_markStringS_ok {S : Nat → Prop} {F : List Nat} {cs : List Value} {v1_ : Value} {a' : List ByteArray} {k' : Int} {r : Int × List ByteArray} (hO : GoTy.own w0 F cs a') (hn : F.Nodup) (h1 : VR w0 S v1_ k') (hF : laws_markStringS fu a' k' = some r) :
    Calls Tryz.prog 128 [(bif GoTy.agg (List ByteArray) then .agg cs.toArray else cs.headD undef), v1_].toArray w0 fun e w' => ∃ v, e = .returned v ∧ (Chg w0 w' F ∧ VR w' (fun _ => True) v r.1 ∧ ∃ F', GoTy.own w' F' cs r.2 ∧ Back w0 w' F F') := by
 obtain rfl := VR_int h1
 obtain ⟨A, c, rfl, hO⟩ := own_list hO
 have H := Mem.startG S hO hn
 obtain ⟨Fs, E, H, -⟩ := H.thaw rfl
 have H := H.rowSh 0 rfl
 refine en Tryz.func128 fun a hf => ?_
 rw [laws_markStringS] at hF
 refine sqz (pz 1 hf fun a hf => ?_)
 refine we (sqz (pz 1 hf fun a hf => ?_))
 refine wl_end (then_n ?_)
 obtain ⟨out', hB1, hF⟩ := bs_ hF
 have hf := hf.pn [0, 1, 5]
 have hf : Fr a 20 [(0, (.slice A a'.length c)), (1, (.int .i64 k')), (5, (.int .i64 0))] := by first | exact hf | (simp only [List.length_set] at hf; exact hf)
 have H := H.lt_ [] [true] [] []
 refine loopC (fun (s : List ByteArray × Int × Int) (a : Act) (w : World) => match s with | (a2, k2, i) => a2.length = a'.length ∧ Fr a 20 [(0, (.slice A a'.length c)), (1, (.int .i64 k2)), (5, (.int .i64 i))] ∧ Mem ⟨w0, F⟩ S [] [⟨.sh true, E, A, c, (a2 : List ByteArray)⟩] [] [] w) (fun k (s : List ByteArray × Int × Int) => laws_markStringS_L1 fu k s.1 s.2.1 s.2.2 = some out') (fun s => out' = s) (a', k', 0) fu hB1 ⟨rfl, hf, H⟩ (fun s h => by cases h) ?_ ?_
 ·rintro fk ⟨a2, k2, i⟩ a w hR1 hI
  replace hR1 : laws_markStringS_L1 fu (fk + 1) a2 k2 i = some out' := hR1
  rw [laws_markStringS_L1] at hR1
  obtain ⟨hlen, hf, H⟩ := hI
  have hf : Fr a 20 [(0, (.slice A a2.length c)), (1, (.int .i64 k2)), (5, (.int .i64 i))] := by rw [hlen]; exact hf
  refine sq (sqz (pz 4 hf fun a hf => ?_))
  refine wl_end (then_n (ib hR1 hf (fun hc hR1 => ?_) fun hc hR1 => ?_))
  ·refine ws (pz 3 hf fun a hf => ?_)
   obtain ⟨y, hy, hR1⟩ := bs_ hR1
   refine oc hf TF.cl191 (laws_markText_ok (S := TT) mk_int hy) fun v w a hp hf => ?_
   obtain ⟨hb, hp⟩ := hp
   obtain rfl := VR_str hp
   have H := H.keep hb
   obtain ⟨e, he, hR1⟩ := bs_ hR1
   refine wl0 rfl (op_iaddrR hf H Tryz.underlying22 TF.sz9 0 rfl rfl rfl he (by decide) fun p o cs a hf hA hr hk => ?_)
   obtain rfl := hr
   refine wl0 rfl (op_storeR (e' := y) (o := o) (off := 0) hf H TF.sz9 0 rfl rfl rfl rfl rfl (nle rfl) rfl hA he (st_full rfl) fun w H => ?_)
   replace hf : Fr a 20 [(0, (.slice A a2.length c)), (1, (.int .i64 k2)), (5, (.int .i64 i)), (12, (.slice A a2.length c)), (13, (.int .i64 i)), (14, (.int .i64 k2)), (15, (.string y)), (16, (.pointer (some ⟨p, o + 0, none⟩)))] := hf.prune [0, 1, 5, 12, 13, 14, 15, 16] rfl
   replace hf : Fr a 20 [(0, (.slice A (a2.set (i : Int).toNat y).length c)), (1, (.int .i64 k2)), (5, (.int .i64 i)), (12, (.slice A (a2.set (i : Int).toNat y).length c)), (13, (.int .i64 i)), (14, (.int .i64 k2)), (15, (.string y)), (16, (.pointer (some ⟨p, o + 0, none⟩)))] := by simpa only [List.length_set, Nat.add_zero] using hf
   refine wl_end (then_n (reg (pz 3 hf fun a hf => ?_)))
   refine wl_end (blk_n (then_n (reg (pz 3 hf fun a hf => ?_))))
   refine wl_end ?_
   have hf := hf.pn [0, 1, 5]
   have hf : Fr a 20 [(0, (.slice A a'.length c)), (1, (.int .i64 (w64 (k2 + 1)))), (5, (.int .i64 (w64 (i + 1))))] := by first | exact hf | (simp only [List.length_set, hlen] at hf; exact hf)
   have H := H.lt_ [] [true] [] []
   exact then_n ⟨(a2.set (i : Int).toNat y, w64 (k2 + 1), w64 (i + 1)), hR1, (by simp only [List.length_set, hlen]), hf, H⟩
  ·refine wp_exit (then_x (then_x (blk_e (?_))))
   have hf := hf.pn [0, 1, 5]
   have hf : Fr a 20 [(0, (.slice A a'.length c)), (1, (.int .i64 k2)), (5, (.int .i64 i))] := by first | exact hf | (simp only [List.length_set, hlen] at hf; exact hf)
   have H := H.lt_ [] [true] [] []
   exact ⟨(a2, k2, i), (Option.some.inj hR1).symm, (by simp only [List.length_set, hlen]), hf, H⟩
 rintro a w ⟨⟨a3, k3, i2⟩, rfl, hlen, hf, H⟩
 try dsimp only at hlen
 have hf : Fr a 20 [(0, (.slice A a3.length c)), (1, (.int .i64 k3)), (5, (.int .i64 i2))] := by rw [hlen]; exact hf
 try dsimp only at hF
 refine then_n (sqz (pz 2 hf fun a hf => ?_))
 refine wer ?_
 have H := H.rowOwn 0 rfl rfl
 obtain ⟨F', H⟩ := H.freezeOwn 0 rfl
 simp only [List.length_set, hlen] at H
 obtain rfl := oi hF
 refine rT hf ?_
 exact ⟨_, rfl, H.chg, mk_int, _, H.ownAt 0 rfl, H.back⟩
theorem laws_markFiberS_ok {S : Nat → Prop} {F : List Nat} {cs : List Value} {v1_ : Value} {a' : List Fiber} {k' : Int} {r : Int × List Fiber} (hO : GoTy.own w0 F cs a') (hn : F.Nodup) (h1 : VR w0 S v1_ k') (hF : laws_markFiberS fu a' k' = some r) :
    Calls Tryz.prog 129 [(bif GoTy.agg (List Fiber) then .agg cs.toArray else cs.headD undef), v1_].toArray w0 fun e w' => ∃ v, e = .returned v ∧ (Chg w0 w' F ∧ VR w' (fun _ => True) v r.1 ∧ ∃ F', GoTy.own w' F' cs r.2 ∧ Back w0 w' F F') := by
 obtain rfl := VR_int h1
 obtain ⟨A, c, rfl, hO⟩ := own_list hO
 have H := Mem.startG S hO hn
 obtain ⟨Fs, E, H, -⟩ := H.thaw rfl
 have H := H.rowSh 0 rfl
 refine en Tryz.func129 fun a hf => ?_
 rw [laws_markFiberS] at hF
 refine sqz (pz 1 hf fun a hf => ?_)
 refine we (sqz (pz 1 hf fun a hf => ?_))
 refine wl_end (then_n ?_)
 obtain ⟨out', hB1, hF⟩ := bs_ hF
 have hf := hf.pn [0, 1, 5]
 have hf : Fr a 41 [(0, (.slice A a'.length c)), (1, (.int .i64 k')), (5, (.int .i64 0))] := by first | exact hf | (simp only [List.length_set] at hf; exact hf)
 have H := H.lt_ [] [true] [] []
 refine loopC (fun (s : List Fiber × Int × Int) (a : Act) (w : World) => match s with | (a2, k2, i) => a2.length = a'.length ∧ Fr a 41 [(0, (.slice A a'.length c)), (1, (.int .i64 k2)), (5, (.int .i64 i))] ∧ Mem ⟨w0, F⟩ S [] [⟨.sh true, E, A, c, (a2 : List Fiber)⟩] [] [] w) (fun k (s : List Fiber × Int × Int) => laws_markFiberS_L1 fu k s.1 s.2.1 s.2.2 = some out') (fun s => out' = s) (a', k', 0) fu hB1 ⟨rfl, hf, H⟩ (fun s h => by cases h) ?_ ?_
 ·rintro fk ⟨a2, k2, i⟩ a w hR1 hI
  replace hR1 : laws_markFiberS_L1 fu (fk + 1) a2 k2 i = some out' := hR1
  rw [laws_markFiberS_L1] at hR1
  obtain ⟨hlen, hf, H⟩ := hI
  have hf : Fr a 41 [(0, (.slice A a2.length c)), (1, (.int .i64 k2)), (5, (.int .i64 i))] := by rw [hlen]; exact hf
  refine sq (sqz (pz 4 hf fun a hf => ?_))
  refine wl_end (then_n (ib hR1 hf (fun hc hR1 => ?_) fun hc hR1 => ?_))
  ·refine ws (pz 3 hf fun a hf => ?_)
   obtain ⟨e, he, hR1⟩ := bs_ hR1
   refine wl0 rfl (op_iaddrR hf H Tryz.underlying32 TF.sz180 0 rfl rfl rfl he (by decide) fun p o cs a hf hA hr hk => ?_)
   obtain rfl := Fiber_cells hr
   refine pz 1 hf fun a hf => ?_
   refine wl0 rfl (op_storeR (e' := ({ A := k2, B := e.B, Length := e.Length, Risk := e.Risk } : Fiber)) (o := o) (off := 0) hf H TF.sz3 0 rfl rfl rfl rfl rfl (nle rfl) rfl hA he (fun cs h => by obtain rfl := Fiber_cells h; exact Fiber_mk (x := ({ A := k2, B := e.B, Length := e.Length, Risk := e.Risk } : Fiber))) fun w H => ?_)
   replace hf : Fr a 41 [(0, (.slice A a2.length c)), (1, (.int .i64 k2)), (5, (.int .i64 i)), (12, (.slice A a2.length c)), (13, (.int .i64 i)), (14, (.int .i64 k2)), (15, (.pointer (some ⟨p, o + 0, none⟩))), (16, (.pointer (some ⟨p, o + 0, none⟩)))] := hf.prune [0, 1, 5, 12, 13, 14, 15, 16] rfl
   replace hf : Fr a 41 [(0, (.slice A (a2.set (i : Int).toNat ({ A := k2, B := e.B, Length := e.Length, Risk := e.Risk } : Fiber)).length c)), (1, (.int .i64 k2)), (5, (.int .i64 i)), (12, (.slice A (a2.set (i : Int).toNat ({ A := k2, B := e.B, Length := e.Length, Risk := e.Risk } : Fiber)).length c)), (13, (.int .i64 i)), (14, (.int .i64 k2)), (15, (.pointer (some ⟨p, o + 0, none⟩))), (16, (.pointer (some ⟨p, o + 0, none⟩)))] := by simpa only [List.length_set, Nat.add_zero] using hf
   refine wr (pz 3 hf fun a hf => ?_)
   refine wr (pz 3 hf fun a hf => ?_)
   obtain ⟨e2, he2, hR1⟩ := bs_ hR1
   refine wl0 rfl (op_iaddrR hf H Tryz.underlying32 TF.sz180 0 rfl rfl rfl he2 (by decide) fun p2 o2 cs2 a hf hA2 hr2 hk2 => ?_)
   obtain rfl := Fiber_cells hr2
   refine pz 1 hf fun a hf => ?_
   refine wl0 rfl (op_storeR (e' := ({ A := e2.A, B := w64 (k2 + 1), Length := e2.Length, Risk := e2.Risk } : Fiber)) (o := o2) (off := 1) hf H TF.sz3 0 rfl rfl rfl rfl rfl (nle rfl) rfl hA2 he2 (fun cs h => by obtain rfl := Fiber_cells h; exact Fiber_mk (x := ({ A := e2.A, B := w64 (k2 + 1), Length := e2.Length, Risk := e2.Risk } : Fiber))) fun w H => ?_)
   replace hf : Fr a 41 [(0, (.slice A (a2.set (i : Int).toNat ({ A := k2, B := e.B, Length := e.Length, Risk := e.Risk } : Fiber)).length c)), (1, (.int .i64 (w64 (k2 + 1)))), (5, (.int .i64 i)), (19, (.slice A (a2.set (i : Int).toNat ({ A := k2, B := e.B, Length := e.Length, Risk := e.Risk } : Fiber)).length c)), (20, (.int .i64 i)), (21, (.int .i64 (w64 (k2 + 1)))), (22, (.pointer (some ⟨p2, o2 + 0, none⟩))), (23, (.pointer (some ⟨p2, o2 + 1, none⟩)))] := hf.prune [0, 1, 5, 19, 20, 21, 22, 23] rfl
   replace hf : Fr a 41 [(0, (.slice A ((a2.set (i : Int).toNat ({ A := k2, B := e.B, Length := e.Length, Risk := e.Risk } : Fiber)).set (i : Int).toNat ({ A := e2.A, B := w64 (k2 + 1), Length := e2.Length, Risk := e2.Risk } : Fiber)).length c)), (1, (.int .i64 (w64 (k2 + 1)))), (5, (.int .i64 i)), (19, (.slice A ((a2.set (i : Int).toNat ({ A := k2, B := e.B, Length := e.Length, Risk := e.Risk } : Fiber)).set (i : Int).toNat ({ A := e2.A, B := w64 (k2 + 1), Length := e2.Length, Risk := e2.Risk } : Fiber)).length c)), (20, (.int .i64 i)), (21, (.int .i64 (w64 (k2 + 1)))), (22, (.pointer (some ⟨p2, o2 + 0, none⟩))), (23, (.pointer (some ⟨p2, o2 + 1, none⟩)))] := by simpa only [List.length_set, Nat.add_zero] using hf
   refine wr (pz 3 hf fun a hf => ?_)
   refine wr (pz 3 hf fun a hf => ?_)
   obtain ⟨e3, he3, hR1⟩ := bs_ hR1
   refine wl0 rfl (op_iaddrR hf H Tryz.underlying32 TF.sz180 0 rfl rfl rfl he3 (by decide) fun p3 o3 cs3 a hf hA3 hr3 hk3 => ?_)
   obtain rfl := Fiber_cells hr3
   refine pz 1 hf fun a hf => ?_
   refine wl0 rfl (op_storeR (e' := ({ A := e3.A, B := e3.B, Length := w64 ((w64 (k2 + 1)) + 1), Risk := e3.Risk } : Fiber)) (o := o3) (off := 2) hf H TF.sz3 0 rfl rfl rfl rfl rfl (nle rfl) rfl hA3 he3 (fun cs h => by obtain rfl := Fiber_cells h; exact Fiber_mk (x := ({ A := e3.A, B := e3.B, Length := w64 ((w64 (k2 + 1)) + 1), Risk := e3.Risk } : Fiber))) fun w H => ?_)
   replace hf : Fr a 41 [(0, (.slice A ((a2.set (i : Int).toNat ({ A := k2, B := e.B, Length := e.Length, Risk := e.Risk } : Fiber)).set (i : Int).toNat ({ A := e2.A, B := w64 (k2 + 1), Length := e2.Length, Risk := e2.Risk } : Fiber)).length c)), (1, (.int .i64 (w64 ((w64 (k2 + 1)) + 1)))), (5, (.int .i64 i)), (26, (.slice A ((a2.set (i : Int).toNat ({ A := k2, B := e.B, Length := e.Length, Risk := e.Risk } : Fiber)).set (i : Int).toNat ({ A := e2.A, B := w64 (k2 + 1), Length := e2.Length, Risk := e2.Risk } : Fiber)).length c)), (27, (.int .i64 i)), (28, (.int .i64 (w64 ((w64 (k2 + 1)) + 1)))), (29, (.pointer (some ⟨p3, o3 + 0, none⟩))), (30, (.pointer (some ⟨p3, o3 + 2, none⟩)))] := hf.prune [0, 1, 5, 26, 27, 28, 29, 30] rfl
   replace hf : Fr a 41 [(0, (.slice A (((a2.set (i : Int).toNat ({ A := k2, B := e.B, Length := e.Length, Risk := e.Risk } : Fiber)).set (i : Int).toNat ({ A := e2.A, B := w64 (k2 + 1), Length := e2.Length, Risk := e2.Risk } : Fiber)).set (i : Int).toNat ({ A := e3.A, B := e3.B, Length := w64 ((w64 (k2 + 1)) + 1), Risk := e3.Risk } : Fiber)).length c)), (1, (.int .i64 (w64 ((w64 (k2 + 1)) + 1)))), (5, (.int .i64 i)), (26, (.slice A (((a2.set (i : Int).toNat ({ A := k2, B := e.B, Length := e.Length, Risk := e.Risk } : Fiber)).set (i : Int).toNat ({ A := e2.A, B := w64 (k2 + 1), Length := e2.Length, Risk := e2.Risk } : Fiber)).set (i : Int).toNat ({ A := e3.A, B := e3.B, Length := w64 ((w64 (k2 + 1)) + 1), Risk := e3.Risk } : Fiber)).length c)), (27, (.int .i64 i)), (28, (.int .i64 (w64 ((w64 (k2 + 1)) + 1)))), (29, (.pointer (some ⟨p3, o3 + 0, none⟩))), (30, (.pointer (some ⟨p3, o3 + 2, none⟩)))] := by simpa only [List.length_set, Nat.add_zero] using hf
   refine wr (pz 3 hf fun a hf => ?_)
   refine wr (pz 3 hf fun a hf => ?_)
   obtain ⟨e4, he4, hR1⟩ := bs_ hR1
   refine wl0 rfl (op_iaddrR hf H Tryz.underlying32 TF.sz180 0 rfl rfl rfl he4 (by decide) fun p4 o4 cs4 a hf hA4 hr4 hk4 => ?_)
   obtain rfl := Fiber_cells hr4
   refine pz 1 hf fun a hf => ?_
   refine wl0 rfl (op_storeR (e' := ({ A := e4.A, B := e4.B, Length := e4.Length, Risk := w64 ((w64 ((w64 (k2 + 1)) + 1)) + 1) } : Fiber)) (o := o4) (off := 3) hf H TF.sz3 0 rfl rfl rfl rfl rfl (nle rfl) rfl hA4 he4 (fun cs h => by obtain rfl := Fiber_cells h; exact Fiber_mk (x := ({ A := e4.A, B := e4.B, Length := e4.Length, Risk := w64 ((w64 ((w64 (k2 + 1)) + 1)) + 1) } : Fiber))) fun w H => ?_)
   replace hf : Fr a 41 [(0, (.slice A (((a2.set (i : Int).toNat ({ A := k2, B := e.B, Length := e.Length, Risk := e.Risk } : Fiber)).set (i : Int).toNat ({ A := e2.A, B := w64 (k2 + 1), Length := e2.Length, Risk := e2.Risk } : Fiber)).set (i : Int).toNat ({ A := e3.A, B := e3.B, Length := w64 ((w64 (k2 + 1)) + 1), Risk := e3.Risk } : Fiber)).length c)), (1, (.int .i64 (w64 ((w64 ((w64 (k2 + 1)) + 1)) + 1)))), (5, (.int .i64 i)), (33, (.slice A (((a2.set (i : Int).toNat ({ A := k2, B := e.B, Length := e.Length, Risk := e.Risk } : Fiber)).set (i : Int).toNat ({ A := e2.A, B := w64 (k2 + 1), Length := e2.Length, Risk := e2.Risk } : Fiber)).set (i : Int).toNat ({ A := e3.A, B := e3.B, Length := w64 ((w64 (k2 + 1)) + 1), Risk := e3.Risk } : Fiber)).length c)), (34, (.int .i64 i)), (35, (.int .i64 (w64 ((w64 ((w64 (k2 + 1)) + 1)) + 1)))), (36, (.pointer (some ⟨p4, o4 + 0, none⟩))), (37, (.pointer (some ⟨p4, o4 + 3, none⟩)))] := hf.prune [0, 1, 5, 33, 34, 35, 36, 37] rfl
   replace hf : Fr a 41 [(0, (.slice A ((((a2.set (i : Int).toNat ({ A := k2, B := e.B, Length := e.Length, Risk := e.Risk } : Fiber)).set (i : Int).toNat ({ A := e2.A, B := w64 (k2 + 1), Length := e2.Length, Risk := e2.Risk } : Fiber)).set (i : Int).toNat ({ A := e3.A, B := e3.B, Length := w64 ((w64 (k2 + 1)) + 1), Risk := e3.Risk } : Fiber)).set (i : Int).toNat ({ A := e4.A, B := e4.B, Length := e4.Length, Risk := w64 ((w64 ((w64 (k2 + 1)) + 1)) + 1) } : Fiber)).length c)), (1, (.int .i64 (w64 ((w64 ((w64 (k2 + 1)) + 1)) + 1)))), (5, (.int .i64 i)), (33, (.slice A ((((a2.set (i : Int).toNat ({ A := k2, B := e.B, Length := e.Length, Risk := e.Risk } : Fiber)).set (i : Int).toNat ({ A := e2.A, B := w64 (k2 + 1), Length := e2.Length, Risk := e2.Risk } : Fiber)).set (i : Int).toNat ({ A := e3.A, B := e3.B, Length := w64 ((w64 (k2 + 1)) + 1), Risk := e3.Risk } : Fiber)).set (i : Int).toNat ({ A := e4.A, B := e4.B, Length := e4.Length, Risk := w64 ((w64 ((w64 (k2 + 1)) + 1)) + 1) } : Fiber)).length c)), (34, (.int .i64 i)), (35, (.int .i64 (w64 ((w64 ((w64 (k2 + 1)) + 1)) + 1)))), (36, (.pointer (some ⟨p4, o4 + 0, none⟩))), (37, (.pointer (some ⟨p4, o4 + 3, none⟩)))] := by simpa only [List.length_set, Nat.add_zero] using hf
   refine wl_end (then_n (reg (pz 3 hf fun a hf => ?_)))
   refine wl_end (blk_n (then_n (reg (pz 3 hf fun a hf => ?_))))
   refine wl_end ?_
   have hf := hf.pn [0, 1, 5]
   have hf : Fr a 41 [(0, (.slice A a'.length c)), (1, (.int .i64 (w64 ((w64 ((w64 ((w64 (k2 + 1)) + 1)) + 1)) + 1)))), (5, (.int .i64 (w64 (i + 1))))] := by first | exact hf | (simp only [List.length_set, hlen] at hf; exact hf)
   have H := H.lt_ [] [true] [] []
   exact then_n ⟨((((a2.set (i : Int).toNat ({ A := k2, B := e.B, Length := e.Length, Risk := e.Risk } : Fiber)).set (i : Int).toNat ({ A := e2.A, B := w64 (k2 + 1), Length := e2.Length, Risk := e2.Risk } : Fiber)).set (i : Int).toNat ({ A := e3.A, B := e3.B, Length := w64 ((w64 (k2 + 1)) + 1), Risk := e3.Risk } : Fiber)).set (i : Int).toNat ({ A := e4.A, B := e4.B, Length := e4.Length, Risk := w64 ((w64 ((w64 (k2 + 1)) + 1)) + 1) } : Fiber), w64 ((w64 ((w64 ((w64 (k2 + 1)) + 1)) + 1)) + 1), w64 (i + 1)), hR1, (by simp only [List.length_set, hlen]), hf, H⟩
  ·refine wp_exit (then_x (then_x (blk_e (?_))))
   have hf := hf.pn [0, 1, 5]
   have hf : Fr a 41 [(0, (.slice A a'.length c)), (1, (.int .i64 k2)), (5, (.int .i64 i))] := by first | exact hf | (simp only [List.length_set, hlen] at hf; exact hf)
   have H := H.lt_ [] [true] [] []
   exact ⟨(a2, k2, i), (Option.some.inj hR1).symm, (by simp only [List.length_set, hlen]), hf, H⟩
 rintro a w ⟨⟨a3, k3, i2⟩, rfl, hlen, hf, H⟩
 try dsimp only at hlen
 have hf : Fr a 41 [(0, (.slice A a3.length c)), (1, (.int .i64 k3)), (5, (.int .i64 i2))] := by rw [hlen]; exact hf
 try dsimp only at hF
 refine then_n (sqz (pz 2 hf fun a hf => ?_))
 refine wer ?_
 have H := H.rowOwn 0 rfl rfl
 obtain ⟨F', H⟩ := H.freezeOwn 0 rfl
 simp only [List.length_set, hlen] at H
 obtain rfl := oi hF
 refine rT hf ?_
 exact ⟨_, rfl, H.chg, mk_int, _, H.ownAt 0 rfl, H.back⟩
theorem laws_markNetwork_ok {S : Nat → Prop} {F : List Nat} {cs : List Value} {v1_ : Value} {a' : Network} {k' : Int} {r : Int × Network} (hO : GoTy.own w0 F cs a') (hn : F.Nodup) (h1 : VR w0 S v1_ k') (hF : laws_markNetwork fu a' k' = some r) :
    Calls Tryz.prog 59 [(bif GoTy.agg (Network) then .agg cs.toArray else cs.headD undef), v1_].toArray w0 fun e w' => ∃ v, e = .returned v ∧ (Chg w0 w' F ∧ VR w' (fun _ => True) v r.1 ∧ ∃ F', GoTy.own w' F' cs r.2 ∧ Back w0 w' F F') := by
 obtain rfl := VR_int h1
 obtain ⟨A1, c1, F1, A2, c2, F2, rfl, hFe, l1, l2⟩ := Network_own hO
 have H := Mem.startG S hO hn
 have H := H.recast (X := [(⟨F, MP.own F [(.slice A1 a'.Nodes.length c1), (.slice A2 a'.Fibers.length c2)] (a' : Network)⟩ : DI)]) (Y := [(⟨F1, MP.own F1 [(.slice A1 a'.Nodes.length c1)] (a'.Nodes : List ByteArray)⟩ : DI), (⟨F2, MP.own F2 [(.slice A2 a'.Fibers.length c2)] (a'.Fibers : List Fiber)⟩ : DI)]) (D := []) (List.Perm.of_eq (by simp [hFe])) fun _ => (ps1 l1 (ps1 l2 ps0))
 have H := H.lend 0 rfl
 have H := H.lend 1 rfl
 refine en Tryz.func59 fun a hf => ?_
 rw [laws_markNetwork] at hF
 refine bx hf H fun b' a w hf H => ?_
 refine pz 1 hf fun a hf => ?_
 refine wr (pz 1 hf fun a hf => ?_)
 refine lB 0 hf H TF.ls22 fun a hf => ?_
 refine pz 1 hf fun a hf => ?_
 obtain ⟨y, hy, hF⟩ := bs_ hF
 refine oc hf TF.cl128 (laws_markStringS_ok (S := TT) (F := F1) (cs := [(.slice A1 a'.Nodes.length c1)]) (H.ownAt 0 rfl) H.diNd.1 mk_int hy) fun v w a hp hf => ?_
 obtain ⟨hch, hv, F4, ho, hbk⟩ := hp
 obtain rfl := VR_int hv
 have H := H.wrote rfl hch ho hbk
 have H := H.lend 0 rfl
 have H := H.lend 1 rfl
 refine pz 1 hf fun a hf => ?_
 refine wr (pz 1 hf fun a hf => ?_)
 refine lB 0 hf H TF.ls32 fun a hf => ?_
 refine pz 1 hf fun a hf => ?_
 have H := H.frontD 1 rfl
 obtain ⟨y2, hy2, hF⟩ := bs_ hF
 refine oc hf TF.cl129 (laws_markFiberS_ok (S := TT) (F := F2) (cs := [(.slice A2 a'.Fibers.length c2)]) (H.ownAt 0 rfl) H.diNd.1 mk_int hy2) fun v2 w a hp2 hf => ?_
 obtain ⟨hch2, hv2, F5, ho2, hbk2⟩ := hp2
 obtain rfl := VR_int hv2
 have H := H.wrote rfl hch2 ho2 hbk2
 have H := H.lend 0 rfl
 have H := H.lend 1 rfl
 refine pz 1 hf fun a hf => ?_
 refine wr (pz 2 hf fun a hf => ?_)
 refine wer ?_
 have H := H.frontD 1 rfl
 have H := H.recast (X := [(⟨F4, MP.own F4 [(.slice A1 a'.Nodes.length c1)] (y.2 : List ByteArray)⟩ : DI), (⟨F5, MP.own F5 [(.slice A2 a'.Fibers.length c2)] (y2.2 : List Fiber)⟩ : DI)]) (Y := [(⟨(F4 ++ F5), MP.own (F4 ++ F5) [(.slice A1 a'.Nodes.length c1), (.slice A2 a'.Fibers.length c2)] (({ Nodes := y.2, Fibers := y2.2 } : Network) : Network)⟩ : DI)]) (List.Perm.of_eq (by simp)) fun _ => ps1 (Network_ownmk (x := ({ Nodes := y.2, Fibers := y2.2 } : Network)) (H.ownAt 0 rfl) (H.ownAt 1 rfl)) ps0
 obtain rfl := oi hF
 refine rT hf ?_
 exact ⟨_, rfl, H.chg, mk_int, _, H.ownAt 0 rfl, H.back⟩
theorem laws_markIntS_ok {S : Nat → Prop} {F : List Nat} {cs : List Value} {v1_ : Value} {a' : List Int} {k' : Int} {r : Int × List Int} (hO : GoTy.own w0 F cs a') (hn : F.Nodup) (h1 : VR w0 S v1_ k') (hF : laws_markIntS fu a' k' = some r) :
    Calls Tryz.prog 99 [(bif GoTy.agg (List Int) then .agg cs.toArray else cs.headD undef), v1_].toArray w0 fun e w' => ∃ v, e = .returned v ∧ (Chg w0 w' F ∧ VR w' (fun _ => True) v r.1 ∧ ∃ F', GoTy.own w' F' cs r.2 ∧ Back w0 w' F F') := by
 obtain rfl := VR_int h1
 obtain ⟨A, c, rfl, hO⟩ := own_list hO
 have H := Mem.startG S hO hn
 obtain ⟨Fs, E, H, -⟩ := H.thaw rfl
 have H := H.rowSh 0 rfl
 refine en Tryz.func99 fun a hf => ?_
 rw [laws_markIntS] at hF
 refine sqz (pz 1 hf fun a hf => ?_)
 refine we (sqz (pz 1 hf fun a hf => ?_))
 refine wl_end (then_n ?_)
 obtain ⟨out', hB1, hF⟩ := bs_ hF
 have hf := hf.pn [0, 1, 5]
 have hf : Fr a 19 [(0, (.slice A a'.length c)), (1, (.int .i64 k')), (5, (.int .i64 0))] := by first | exact hf | (simp only [List.length_set] at hf; exact hf)
 have H := H.lt_ [] [true] [] []
 refine loopC (fun (s : List Int × Int × Int) (a : Act) (w : World) => match s with | (a2, k2, i) => a2.length = a'.length ∧ Fr a 19 [(0, (.slice A a'.length c)), (1, (.int .i64 k2)), (5, (.int .i64 i))] ∧ Mem ⟨w0, F⟩ S [] [⟨.sh true, E, A, c, (a2 : List Int)⟩] [] [] w) (fun k (s : List Int × Int × Int) => laws_markIntS_L1 fu k s.1 s.2.1 s.2.2 = some out') (fun s => out' = s) (a', k', 0) fu hB1 ⟨rfl, hf, H⟩ (fun s h => by cases h) ?_ ?_
 ·rintro fk ⟨a2, k2, i⟩ a w hR1 hI
  replace hR1 : laws_markIntS_L1 fu (fk + 1) a2 k2 i = some out' := hR1
  rw [laws_markIntS_L1] at hR1
  obtain ⟨hlen, hf, H⟩ := hI
  have hf : Fr a 19 [(0, (.slice A a2.length c)), (1, (.int .i64 k2)), (5, (.int .i64 i))] := by rw [hlen]; exact hf
  refine sq (sqz (pz 4 hf fun a hf => ?_))
  refine wl_end (then_n (ib hR1 hf (fun hc hR1 => ?_) fun hc hR1 => ?_))
  ·refine ws (pz 3 hf fun a hf => ?_)
   obtain ⟨e, he, hR1⟩ := bs_ hR1
   refine wl0 rfl (op_iaddrR hf H Tryz.underlying47 TF.sz3 0 rfl rfl rfl he (by decide) fun p o cs a hf hA hr hk => ?_)
   obtain rfl := hr
   refine wl0 rfl (op_storeR (e' := k2) (o := o) (off := 0) hf H TF.sz3 0 rfl rfl rfl rfl rfl (nle rfl) rfl hA he (st_full rfl) fun w H => ?_)
   replace hf : Fr a 19 [(0, (.slice A a2.length c)), (1, (.int .i64 k2)), (5, (.int .i64 i)), (12, (.slice A a2.length c)), (13, (.int .i64 i)), (14, (.int .i64 k2)), (15, (.pointer (some ⟨p, o + 0, none⟩)))] := hf.prune [0, 1, 5, 12, 13, 14, 15] rfl
   replace hf : Fr a 19 [(0, (.slice A (a2.set (i : Int).toNat k2).length c)), (1, (.int .i64 k2)), (5, (.int .i64 i)), (12, (.slice A (a2.set (i : Int).toNat k2).length c)), (13, (.int .i64 i)), (14, (.int .i64 k2)), (15, (.pointer (some ⟨p, o + 0, none⟩)))] := by simpa only [List.length_set, Nat.add_zero] using hf
   refine wl_end (then_n (reg (pz 3 hf fun a hf => ?_)))
   refine wl_end (blk_n (then_n (reg (pz 3 hf fun a hf => ?_))))
   refine wl_end ?_
   have hf := hf.pn [0, 1, 5]
   have hf : Fr a 19 [(0, (.slice A a'.length c)), (1, (.int .i64 (w64 (k2 + 1)))), (5, (.int .i64 (w64 (i + 1))))] := by first | exact hf | (simp only [List.length_set, hlen] at hf; exact hf)
   have H := H.lt_ [] [true] [] []
   exact then_n ⟨(a2.set (i : Int).toNat k2, w64 (k2 + 1), w64 (i + 1)), hR1, (by simp only [List.length_set, hlen]), hf, H⟩
  ·refine wp_exit (then_x (then_x (blk_e (?_))))
   have hf := hf.pn [0, 1, 5]
   have hf : Fr a 19 [(0, (.slice A a'.length c)), (1, (.int .i64 k2)), (5, (.int .i64 i))] := by first | exact hf | (simp only [List.length_set, hlen] at hf; exact hf)
   have H := H.lt_ [] [true] [] []
   exact ⟨(a2, k2, i), (Option.some.inj hR1).symm, (by simp only [List.length_set, hlen]), hf, H⟩
 rintro a w ⟨⟨a3, k3, i2⟩, rfl, hlen, hf, H⟩
 try dsimp only at hlen
 have hf : Fr a 19 [(0, (.slice A a3.length c)), (1, (.int .i64 k3)), (5, (.int .i64 i2))] := by rw [hlen]; exact hf
 try dsimp only at hF
 refine then_n (sqz (pz 2 hf fun a hf => ?_))
 refine wer ?_
 have H := H.rowOwn 0 rfl rfl
 obtain ⟨F', H⟩ := H.freezeOwn 0 rfl
 simp only [List.length_set, hlen] at H
 obtain rfl := oi hF
 refine rT hf ?_
 exact ⟨_, rfl, H.chg, mk_int, _, H.ownAt 0 rfl, H.back⟩
theorem laws_markLightS_ok {S : Nat → Prop} {F : List Nat} {cs : List Value} {v1_ : Value} {a' : List Light} {k' : Int} {r : Int × List Light} (hO : GoTy.own w0 F cs a') (hn : F.Nodup) (h1 : VR w0 S v1_ k') (hF : laws_markLightS fu a' k' = some r) :
    Calls Tryz.prog 60 [(bif GoTy.agg (List Light) then .agg cs.toArray else cs.headD undef), v1_].toArray w0 fun e w' => ∃ v, e = .returned v ∧ (Chg w0 w' F ∧ VR w' (fun _ => True) v r.1 ∧ ∃ F', GoTy.own w' F' cs r.2 ∧ Back w0 w' F F') := by
 obtain rfl := VR_int h1
 obtain ⟨A, c, rfl, hO⟩ := own_list hO
 have H := Mem.startG S hO hn
 obtain ⟨Fs, E, H, -⟩ := H.thaw rfl
 refine en Tryz.func60 fun a hf => ?_
 rw [laws_markLightS] at hF
 refine sqz (pz 1 hf fun a hf => ?_)
 refine we (sqz (pz 1 hf fun a hf => ?_))
 refine wl_end (then_n ?_)
 obtain ⟨out', hB1, hF⟩ := bs_ hF
 have hf := hf.pn [0, 1, 5]
 have hf : Fr a 52 [(0, (.slice A a'.length c)), (1, (.int .i64 k')), (5, (.int .i64 0))] := by first | exact hf | (simp only [List.length_set] at hf; exact hf)
 have H := H.lt_ [] [true] [] []
 refine loopC (fun (s : List Light × Int × Int) (a : Act) (w : World) => match s with | (a2, k2, i) => ∃ (Fs2 : List (List Nat)), a2.length = a'.length ∧ Fr a 52 [(0, (.slice A a'.length c)), (1, (.int .i64 k2)), (5, (.int .i64 i))] ∧ Mem ⟨w0, F⟩ S [] [⟨.ow Fs2, E, A, c, (a2 : List Light)⟩] [] [] w) (fun k (s : List Light × Int × Int) => laws_markLightS_L1 fu k s.1 s.2.1 s.2.2 = some out') (fun s => out' = s) (a', k', 0) fu hB1 ⟨Fs, rfl, hf, H⟩ (fun s h => by cases h) ?_ ?_
 ·rintro fk ⟨a2, k2, i⟩ a w hR1 hI
  replace hR1 : laws_markLightS_L1 fu (fk + 1) a2 k2 i = some out' := hR1
  rw [laws_markLightS_L1] at hR1
  obtain ⟨Fs2, hlen, hf, H⟩ := hI
  have hf : Fr a 52 [(0, (.slice A a2.length c)), (1, (.int .i64 k2)), (5, (.int .i64 i))] := by rw [hlen]; exact hf
  refine sq (sqz (pz 4 hf fun a hf => ?_))
  refine wl_end (then_n (ib hR1 hf (fun hc hR1 => ?_) fun hc hR1 => ?_))
  ·refine ws (pz 3 hf fun a hf => ?_)
   obtain ⟨e, he, hR1⟩ := bs_ hR1
   refine wl0 rfl (op_iaddrR hf H Tryz.underlying35 TF.sz73 0 rfl rfl rfl he (by decide) fun p o cs a hf hA hr hk => ?_)
   have hrk := hr
   obtain ⟨A2, c2, rfl, hl⟩ := Light_cells hr
   have H := H.pT hl
   refine pz 1 hf fun a hf => ?_
   refine wl0 rfl (op_storeR (e' := ({ Id := k2, Route := e.Route, Block := e.Block } : Light)) (o := o) (off := 0) hf H TF.sz3 0 rfl rfl rfl rfl rfl (nle rfl) rfl hA he (st_own fun F cs h => by obtain ⟨A0, c0, F0, rfl, rfl, l0⟩ := Light_own h; exact Light_ownmk (x := ({ Id := k2, Route := e.Route, Block := e.Block } : Light)) l0) fun w H => ?_)
   replace hf : Fr a 52 [(0, (.slice A a2.length c)), (1, (.int .i64 k2)), (5, (.int .i64 i)), (12, (.slice A a2.length c)), (13, (.int .i64 i)), (14, (.int .i64 k2)), (15, (.pointer (some ⟨p, o + 0, none⟩))), (16, (.pointer (some ⟨p, o + 0, none⟩)))] := hf.prune [0, 1, 5, 12, 13, 14, 15, 16] rfl
   replace hf : Fr a 52 [(0, (.slice A (a2.set (i : Int).toNat ({ Id := k2, Route := e.Route, Block := e.Block } : Light)).length c)), (1, (.int .i64 k2)), (5, (.int .i64 i)), (12, (.slice A (a2.set (i : Int).toNat ({ Id := k2, Route := e.Route, Block := e.Block } : Light)).length c)), (13, (.int .i64 i)), (14, (.int .i64 k2)), (15, (.pointer (some ⟨p, o + 0, none⟩))), (16, (.pointer (some ⟨p, o + 0, none⟩)))] := by simpa only [List.length_set, Nat.add_zero] using hf
   refine wr (pz 3 hf fun a hf => ?_)
   refine wr (pz 3 hf fun a hf => ?_)
   obtain ⟨e2, he2, hR1⟩ := bs_ hR1
   refine wl0 rfl (op_iaddrR hf H Tryz.underlying35 TF.sz73 0 rfl rfl rfl he2 (by decide) fun p2 o2 cs2 a hf hA2 hr2 hk2 => ?_)
   have hrk2 := hr2
   obtain ⟨A3, c3, rfl, hl2⟩ := Light_cells hr2
   have H := H.pT hl2
   refine pz 2 hf fun a hf => ?_
   refine wl0 rfl (op_storeR (e' := ({ Id := e2.Id, Route := ({ Start := w64 (k2 + 1), Fibers := e2.Route.Fibers } : Route), Block := e2.Block } : Light)) (o := o2) (off := 1) hf H TF.sz3 0 rfl rfl rfl rfl rfl (nle rfl) rfl hA2 he2 (st_own fun F cs h => by obtain ⟨A0, c0, F0, rfl, rfl, l0⟩ := Light_own h; exact Light_ownmk (x := ({ Id := e2.Id, Route := ({ Start := w64 (k2 + 1), Fibers := e2.Route.Fibers } : Route), Block := e2.Block } : Light)) l0) fun w H => ?_)
   replace hf : Fr a 52 [(0, (.slice A (a2.set (i : Int).toNat ({ Id := k2, Route := e.Route, Block := e.Block } : Light)).length c)), (1, (.int .i64 (w64 (k2 + 1)))), (5, (.int .i64 i)), (19, (.slice A (a2.set (i : Int).toNat ({ Id := k2, Route := e.Route, Block := e.Block } : Light)).length c)), (20, (.int .i64 i)), (21, (.int .i64 (w64 (k2 + 1)))), (22, (.pointer (some ⟨p2, o2 + 0, none⟩))), (23, (.pointer (some ⟨p2, o2 + 1, none⟩))), (24, (.pointer (some ⟨p2, o2 + 1, none⟩)))] := hf.prune [0, 1, 5, 19, 20, 21, 22, 23, 24] rfl
   replace hf : Fr a 52 [(0, (.slice A ((a2.set (i : Int).toNat ({ Id := k2, Route := e.Route, Block := e.Block } : Light)).set (i : Int).toNat ({ Id := e2.Id, Route := ({ Start := w64 (k2 + 1), Fibers := e2.Route.Fibers } : Route), Block := e2.Block } : Light)).length c)), (1, (.int .i64 (w64 (k2 + 1)))), (5, (.int .i64 i)), (19, (.slice A ((a2.set (i : Int).toNat ({ Id := k2, Route := e.Route, Block := e.Block } : Light)).set (i : Int).toNat ({ Id := e2.Id, Route := ({ Start := w64 (k2 + 1), Fibers := e2.Route.Fibers } : Route), Block := e2.Block } : Light)).length c)), (20, (.int .i64 i)), (21, (.int .i64 (w64 (k2 + 1)))), (22, (.pointer (some ⟨p2, o2 + 0, none⟩))), (23, (.pointer (some ⟨p2, o2 + 1, none⟩))), (24, (.pointer (some ⟨p2, o2 + 1, none⟩)))] := by simpa only [List.length_set, Nat.add_zero] using hf
   refine wr (pz 3 hf fun a hf => ?_)
   refine wr (pz 2 hf fun a hf => ?_)
   obtain ⟨e3, he3, hR1⟩ := bs_ hR1
   refine wl0 rfl (op_iaddrR hf H Tryz.underlying35 TF.sz73 0 rfl rfl rfl he3 (by decide) fun p3 o3 cs3 a hf hA3 hr3 hk3 => ?_)
   have hrk3 := hr3
   obtain ⟨A4, c4, rfl, hl3⟩ := Light_cells hr3
   have H := H.pT hl3
   refine pz 2 hf fun a hf => ?_
   refine oq hf (rq_load1 hf TF.ls47 rfl (hk3 2 _ rfl)) fun a hf => ?_
   refine pz 1 hf fun a hf => ?_
   obtain ⟨y, hy, hR1⟩ := bs_ hR1
   obtain ⟨F2, hO, hNd, hnx⟩ := H.mutEl rfl he3 hA3 hrk3 hk3 Light_lens_Route_Fibers rfl
   refine oc hf TF.cl99 (laws_markIntS_ok (S := TT) (cs := [(.slice A4 e3.Route.Fibers.length c4)]) hO hNd mk_int hy) fun v w a hp hf => ?_
   obtain ⟨hch, hv, F3, ho, hbk⟩ := hp
   obtain rfl := VR_int hv
   obtain ⟨Fs3, H⟩ := hnx _ _ _ hch ho hbk
   replace hf : Fr a 52 [(0, (.slice A ((a2.set (i : Int).toNat ({ Id := k2, Route := e.Route, Block := e.Block } : Light)).set (i : Int).toNat ({ Id := e2.Id, Route := ({ Start := w64 (k2 + 1), Fibers := e2.Route.Fibers } : Route), Block := e2.Block } : Light)).length c)), (1, (.int .i64 (w64 ((w64 (k2 + 1)) + 1)))), (5, (.int .i64 i)), (27, (.slice A ((a2.set (i : Int).toNat ({ Id := k2, Route := e.Route, Block := e.Block } : Light)).set (i : Int).toNat ({ Id := e2.Id, Route := ({ Start := w64 (k2 + 1), Fibers := e2.Route.Fibers } : Route), Block := e2.Block } : Light)).length c)), (28, (.int .i64 i)), (29, (.pointer (some ⟨p3, o3 + 0, none⟩))), (30, (.pointer (some ⟨p3, o3 + 1, none⟩))), (31, (.pointer (some ⟨p3, o3 + 2, none⟩))), (32, (.slice A4 e3.Route.Fibers.length c4)), (33, (.int .i64 (w64 ((w64 (k2 + 1)) + 1)))), (34, (.int .i64 y.1))] := hf.prune [0, 1, 5, 27, 28, 29, 30, 31, 32, 33, 34] rfl
   replace hf : Fr a 52 [(0, (.slice A (((a2.set (i : Int).toNat ({ Id := k2, Route := e.Route, Block := e.Block } : Light)).set (i : Int).toNat ({ Id := e2.Id, Route := ({ Start := w64 (k2 + 1), Fibers := e2.Route.Fibers } : Route), Block := e2.Block } : Light)).set (i : Int).toNat ({ e3 with Route := { e3.Route with Fibers := y.2 } })).length c)), (1, (.int .i64 (w64 ((w64 (k2 + 1)) + 1)))), (5, (.int .i64 i)), (27, (.slice A (((a2.set (i : Int).toNat ({ Id := k2, Route := e.Route, Block := e.Block } : Light)).set (i : Int).toNat ({ Id := e2.Id, Route := ({ Start := w64 (k2 + 1), Fibers := e2.Route.Fibers } : Route), Block := e2.Block } : Light)).set (i : Int).toNat ({ e3 with Route := { e3.Route with Fibers := y.2 } })).length c)), (28, (.int .i64 i)), (29, (.pointer (some ⟨p3, o3 + 0, none⟩))), (30, (.pointer (some ⟨p3, o3 + 1, none⟩))), (31, (.pointer (some ⟨p3, o3 + 2, none⟩))), (32, (.slice A4 e3.Route.Fibers.length c4)), (33, (.int .i64 (w64 ((w64 (k2 + 1)) + 1)))), (34, (.int .i64 y.1))] := by simpa only [List.length_set, Nat.add_zero] using hf
   refine pz 1 hf fun a hf => ?_
   refine wr (pz 3 hf fun a hf => ?_)
   obtain ⟨e4, he4, hR1⟩ := bs_ hR1
   refine wl0 rfl (op_iaddrR hf H Tryz.underlying35 TF.sz73 0 rfl rfl rfl he4 (by decide) fun p4 o4 cs4 a hf hA4 hr4 hk4 => ?_)
   have hrk4 := hr4
   obtain ⟨A5, c5, rfl, hl4⟩ := Light_cells hr4
   have H := H.pT hl4
   refine pz 2 hf fun a hf => ?_
   refine wl0 rfl (op_storeR (e' := ({ Id := e4.Id, Route := e4.Route, Block := ({ First := y.1, Count := e4.Block.Count } : Block) } : Light)) (o := o4) (off := 3) hf H TF.sz3 0 rfl rfl rfl rfl rfl (nle rfl) rfl hA4 he4 (st_own fun F cs h => by obtain ⟨A0, c0, F0, rfl, rfl, l0⟩ := Light_own h; exact Light_ownmk (x := ({ Id := e4.Id, Route := e4.Route, Block := ({ First := y.1, Count := e4.Block.Count } : Block) } : Light)) l0) fun w H => ?_)
   replace hf : Fr a 52 [(0, (.slice A (((a2.set (i : Int).toNat ({ Id := k2, Route := e.Route, Block := e.Block } : Light)).set (i : Int).toNat ({ Id := e2.Id, Route := ({ Start := w64 (k2 + 1), Fibers := e2.Route.Fibers } : Route), Block := e2.Block } : Light)).set (i : Int).toNat ({ e3 with Route := { e3.Route with Fibers := y.2 } })).length c)), (1, (.int .i64 y.1)), (5, (.int .i64 i)), (35, (.slice A (((a2.set (i : Int).toNat ({ Id := k2, Route := e.Route, Block := e.Block } : Light)).set (i : Int).toNat ({ Id := e2.Id, Route := ({ Start := w64 (k2 + 1), Fibers := e2.Route.Fibers } : Route), Block := e2.Block } : Light)).set (i : Int).toNat ({ e3 with Route := { e3.Route with Fibers := y.2 } })).length c)), (36, (.int .i64 i)), (37, (.int .i64 y.1)), (38, (.pointer (some ⟨p4, o4 + 0, none⟩))), (39, (.pointer (some ⟨p4, o4 + 3, none⟩))), (40, (.pointer (some ⟨p4, o4 + 3, none⟩)))] := hf.prune [0, 1, 5, 35, 36, 37, 38, 39, 40] rfl
   replace hf : Fr a 52 [(0, (.slice A ((((a2.set (i : Int).toNat ({ Id := k2, Route := e.Route, Block := e.Block } : Light)).set (i : Int).toNat ({ Id := e2.Id, Route := ({ Start := w64 (k2 + 1), Fibers := e2.Route.Fibers } : Route), Block := e2.Block } : Light)).set (i : Int).toNat ({ e3 with Route := { e3.Route with Fibers := y.2 } })).set (i : Int).toNat ({ Id := e4.Id, Route := e4.Route, Block := ({ First := y.1, Count := e4.Block.Count } : Block) } : Light)).length c)), (1, (.int .i64 y.1)), (5, (.int .i64 i)), (35, (.slice A ((((a2.set (i : Int).toNat ({ Id := k2, Route := e.Route, Block := e.Block } : Light)).set (i : Int).toNat ({ Id := e2.Id, Route := ({ Start := w64 (k2 + 1), Fibers := e2.Route.Fibers } : Route), Block := e2.Block } : Light)).set (i : Int).toNat ({ e3 with Route := { e3.Route with Fibers := y.2 } })).set (i : Int).toNat ({ Id := e4.Id, Route := e4.Route, Block := ({ First := y.1, Count := e4.Block.Count } : Block) } : Light)).length c)), (36, (.int .i64 i)), (37, (.int .i64 y.1)), (38, (.pointer (some ⟨p4, o4 + 0, none⟩))), (39, (.pointer (some ⟨p4, o4 + 3, none⟩))), (40, (.pointer (some ⟨p4, o4 + 3, none⟩)))] := by simpa only [List.length_set, Nat.add_zero] using hf
   refine wr (pz 3 hf fun a hf => ?_)
   refine wr (pz 3 hf fun a hf => ?_)
   obtain ⟨e5, he5, hR1⟩ := bs_ hR1
   refine wl0 rfl (op_iaddrR hf H Tryz.underlying35 TF.sz73 0 rfl rfl rfl he5 (by decide) fun p5 o5 cs5 a hf hA5 hr5 hk5 => ?_)
   have hrk5 := hr5
   obtain ⟨A6, c6, rfl, hl5⟩ := Light_cells hr5
   have H := H.pT hl5
   refine pz 2 hf fun a hf => ?_
   refine wl0 rfl (op_storeR (e' := ({ Id := e5.Id, Route := e5.Route, Block := ({ First := e5.Block.First, Count := w64 (y.1 + 1) } : Block) } : Light)) (o := o5) (off := 4) hf H TF.sz3 0 rfl rfl rfl rfl rfl (nle rfl) rfl hA5 he5 (st_own fun F cs h => by obtain ⟨A0, c0, F0, rfl, rfl, l0⟩ := Light_own h; exact Light_ownmk (x := ({ Id := e5.Id, Route := e5.Route, Block := ({ First := e5.Block.First, Count := w64 (y.1 + 1) } : Block) } : Light)) l0) fun w H => ?_)
   replace hf : Fr a 52 [(0, (.slice A ((((a2.set (i : Int).toNat ({ Id := k2, Route := e.Route, Block := e.Block } : Light)).set (i : Int).toNat ({ Id := e2.Id, Route := ({ Start := w64 (k2 + 1), Fibers := e2.Route.Fibers } : Route), Block := e2.Block } : Light)).set (i : Int).toNat ({ e3 with Route := { e3.Route with Fibers := y.2 } })).set (i : Int).toNat ({ Id := e4.Id, Route := e4.Route, Block := ({ First := y.1, Count := e4.Block.Count } : Block) } : Light)).length c)), (1, (.int .i64 (w64 (y.1 + 1)))), (5, (.int .i64 i)), (43, (.slice A ((((a2.set (i : Int).toNat ({ Id := k2, Route := e.Route, Block := e.Block } : Light)).set (i : Int).toNat ({ Id := e2.Id, Route := ({ Start := w64 (k2 + 1), Fibers := e2.Route.Fibers } : Route), Block := e2.Block } : Light)).set (i : Int).toNat ({ e3 with Route := { e3.Route with Fibers := y.2 } })).set (i : Int).toNat ({ Id := e4.Id, Route := e4.Route, Block := ({ First := y.1, Count := e4.Block.Count } : Block) } : Light)).length c)), (44, (.int .i64 i)), (45, (.int .i64 (w64 (y.1 + 1)))), (46, (.pointer (some ⟨p5, o5 + 0, none⟩))), (47, (.pointer (some ⟨p5, o5 + 3, none⟩))), (48, (.pointer (some ⟨p5, o5 + 4, none⟩)))] := hf.prune [0, 1, 5, 43, 44, 45, 46, 47, 48] rfl
   replace hf : Fr a 52 [(0, (.slice A (((((a2.set (i : Int).toNat ({ Id := k2, Route := e.Route, Block := e.Block } : Light)).set (i : Int).toNat ({ Id := e2.Id, Route := ({ Start := w64 (k2 + 1), Fibers := e2.Route.Fibers } : Route), Block := e2.Block } : Light)).set (i : Int).toNat ({ e3 with Route := { e3.Route with Fibers := y.2 } })).set (i : Int).toNat ({ Id := e4.Id, Route := e4.Route, Block := ({ First := y.1, Count := e4.Block.Count } : Block) } : Light)).set (i : Int).toNat ({ Id := e5.Id, Route := e5.Route, Block := ({ First := e5.Block.First, Count := w64 (y.1 + 1) } : Block) } : Light)).length c)), (1, (.int .i64 (w64 (y.1 + 1)))), (5, (.int .i64 i)), (43, (.slice A (((((a2.set (i : Int).toNat ({ Id := k2, Route := e.Route, Block := e.Block } : Light)).set (i : Int).toNat ({ Id := e2.Id, Route := ({ Start := w64 (k2 + 1), Fibers := e2.Route.Fibers } : Route), Block := e2.Block } : Light)).set (i : Int).toNat ({ e3 with Route := { e3.Route with Fibers := y.2 } })).set (i : Int).toNat ({ Id := e4.Id, Route := e4.Route, Block := ({ First := y.1, Count := e4.Block.Count } : Block) } : Light)).set (i : Int).toNat ({ Id := e5.Id, Route := e5.Route, Block := ({ First := e5.Block.First, Count := w64 (y.1 + 1) } : Block) } : Light)).length c)), (44, (.int .i64 i)), (45, (.int .i64 (w64 (y.1 + 1)))), (46, (.pointer (some ⟨p5, o5 + 0, none⟩))), (47, (.pointer (some ⟨p5, o5 + 3, none⟩))), (48, (.pointer (some ⟨p5, o5 + 4, none⟩)))] := by simpa only [List.length_set, Nat.add_zero] using hf
   refine wl_end (then_n (reg (pz 3 hf fun a hf => ?_)))
   refine wl_end (blk_n (then_n (reg (pz 3 hf fun a hf => ?_))))
   refine wl_end ?_
   have hf := hf.pn [0, 1, 5]
   have hf : Fr a 52 [(0, (.slice A a'.length c)), (1, (.int .i64 (w64 ((w64 (y.1 + 1)) + 1)))), (5, (.int .i64 (w64 (i + 1))))] := by first | exact hf | (simp only [List.length_set, hlen] at hf; exact hf)
   have H := H.lt_ [] [true] [] []
   exact then_n ⟨(((((a2.set (i : Int).toNat ({ Id := k2, Route := e.Route, Block := e.Block } : Light)).set (i : Int).toNat ({ Id := e2.Id, Route := ({ Start := w64 (k2 + 1), Fibers := e2.Route.Fibers } : Route), Block := e2.Block } : Light)).set (i : Int).toNat ({ e3 with Route := { e3.Route with Fibers := y.2 } })).set (i : Int).toNat ({ Id := e4.Id, Route := e4.Route, Block := ({ First := y.1, Count := e4.Block.Count } : Block) } : Light)).set (i : Int).toNat ({ Id := e5.Id, Route := e5.Route, Block := ({ First := e5.Block.First, Count := w64 (y.1 + 1) } : Block) } : Light), w64 ((w64 (y.1 + 1)) + 1), w64 (i + 1)), hR1, Fs3, (by simp only [List.length_set, hlen]), hf, H⟩
  ·refine wp_exit (then_x (then_x (blk_e (?_))))
   have hf := hf.pn [0, 1, 5]
   have hf : Fr a 52 [(0, (.slice A a'.length c)), (1, (.int .i64 k2)), (5, (.int .i64 i))] := by first | exact hf | (simp only [List.length_set, hlen] at hf; exact hf)
   have H := H.lt_ [] [true] [] []
   exact ⟨(a2, k2, i), (Option.some.inj hR1).symm, Fs2, (by simp only [List.length_set, hlen]), hf, H⟩
 rintro a w ⟨⟨a3, k3, i2⟩, rfl, Fs4, hlen, hf, H⟩
 try dsimp only at hlen
 have hf : Fr a 52 [(0, (.slice A a3.length c)), (1, (.int .i64 k3)), (5, (.int .i64 i2))] := by rw [hlen]; exact hf
 try dsimp only at hF
 refine then_n (sqz (pz 2 hf fun a hf => ?_))
 refine wer ?_
 obtain ⟨F', H⟩ := H.freezeOwn 0 rfl
 simp only [List.length_set, hlen] at H
 obtain rfl := oi hF
 refine rT hf ?_
 exact ⟨_, rfl, H.chg, mk_int, _, H.ownAt 0 rfl, H.back⟩
theorem laws_markPlan_ok {S : Nat → Prop} {F : List Nat} {cs : List Value} {v1_ : Value} {a' : Plan} {k' : Int} {r : Int × Plan} (hO : GoTy.own w0 F cs a') (hn : F.Nodup) (h1 : VR w0 S v1_ k') (hF : laws_markPlan fu a' k' = some r) :
    Calls Tryz.prog 16 [(bif GoTy.agg (Plan) then .agg cs.toArray else cs.headD undef), v1_].toArray w0 fun e w' => ∃ v, e = .returned v ∧ (Chg w0 w' F ∧ VR w' (fun _ => True) v r.1 ∧ ∃ F', GoTy.own w' F' cs r.2 ∧ Back w0 w' F F') := by
 obtain rfl := VR_int h1
 obtain ⟨A1, c1, F1, A2, c2, F2, A3, c3, F3, rfl, hFe, l1, l2, l3⟩ := Plan_own hO
 have H := Mem.startG S hO hn
 have H := H.recast (X := [(⟨F, MP.own F [(.slice A1 a'.Network.Nodes.length c1), (.slice A2 a'.Network.Fibers.length c2), (.slice A3 a'.Lights.length c3)] (a' : Plan)⟩ : DI)]) (Y := [(⟨F1, MP.own F1 [(.slice A1 a'.Network.Nodes.length c1)] (a'.Network.Nodes : List ByteArray)⟩ : DI), (⟨F2, MP.own F2 [(.slice A2 a'.Network.Fibers.length c2)] (a'.Network.Fibers : List Fiber)⟩ : DI), (⟨F3, MP.own F3 [(.slice A3 a'.Lights.length c3)] (a'.Lights : List Light)⟩ : DI)]) (D := []) (List.Perm.of_eq (by simp [hFe])) fun _ => (ps1 l1 (ps1 l2 (ps1 l3 ps0)))
 have H := H.lend 0 rfl
 have H := H.lend 1 rfl
 have H := H.lend 2 rfl
 refine en Tryz.func16 fun a hf => ?_
 rw [laws_markPlan] at hF
 refine bx hf H fun b' a w hf H => ?_
 refine pz 1 hf fun a hf => ?_
 refine wr (pz 1 hf fun a hf => ?_)
 refine lN 0 hf H TF.la34 fun a hf => ?_
 refine pz 1 hf fun a hf => ?_
 have H := H.frontD 1 rfl
 have H := H.frontD 1 rfl
 have H := H.recast (X := [(⟨F1, MP.own F1 [(.slice A1 a'.Network.Nodes.length c1)] (a'.Network.Nodes : List ByteArray)⟩ : DI), (⟨F2, MP.own F2 [(.slice A2 a'.Network.Fibers.length c2)] (a'.Network.Fibers : List Fiber)⟩ : DI)]) (Y := [(⟨(F1 ++ F2), MP.own (F1 ++ F2) [(.slice A1 a'.Network.Nodes.length c1), (.slice A2 a'.Network.Fibers.length c2)] (a'.Network : Network)⟩ : DI)]) (List.Perm.of_eq (by simp)) fun _ => ps1 (Network_ownmk (x := a'.Network) (H.ownAt 0 rfl) (H.ownAt 1 rfl)) ps0
 obtain ⟨y, hy, hF⟩ := bs_ hF
 refine oc hf TF.cl59 (laws_markNetwork_ok (S := TT) (F := (F1 ++ F2)) (cs := [(.slice A1 a'.Network.Nodes.length c1), (.slice A2 a'.Network.Fibers.length c2)]) (H.ownAt 0 rfl) H.diNd.1 mk_int hy) fun v w a hp hf => ?_
 obtain ⟨hch, hv, F5, ho, hbk⟩ := hp
 obtain rfl := VR_int hv
 have H := H.wrote rfl hch ho hbk
 obtain ⟨F6, F7, hFe, hl, hl2⟩ := Network_ownc (H.ownAt 0 rfl)
 have H := H.recast (X := [(⟨F5, MP.own F5 [(.slice A1 a'.Network.Nodes.length c1), (.slice A2 a'.Network.Fibers.length c2)] (y.2 : Network)⟩ : DI)]) (Y := [(⟨F6, MP.own F6 [(.slice A1 a'.Network.Nodes.length c1)] (y.2.Nodes : List ByteArray)⟩ : DI), (⟨F7, MP.own F7 [(.slice A2 a'.Network.Fibers.length c2)] (y.2.Fibers : List Fiber)⟩ : DI)]) (List.Perm.of_eq (by simp [hFe])) fun _ => (ps1 hl (ps1 hl2 ps0))
 have H := H.lend 0 rfl
 have H := H.lend 1 rfl
 have H := H.lend 2 rfl
 refine pz 1 hf fun a hf => ?_
 refine wr (pz 1 hf fun a hf => ?_)
 refine lB 0 hf H TF.ls35 fun a hf => ?_
 refine pz 1 hf fun a hf => ?_
 have H := H.frontD 2 rfl
 obtain ⟨y2, hy2, hF⟩ := bs_ hF
 refine oc hf TF.cl60 (laws_markLightS_ok (S := TT) (F := F3) (cs := [(.slice A3 a'.Lights.length c3)]) (H.ownAt 0 rfl) H.diNd.1 mk_int hy2) fun v2 w a hp2 hf => ?_
 obtain ⟨hch2, hv2, F8, ho2, hbk2⟩ := hp2
 obtain rfl := VR_int hv2
 have H := H.wrote rfl hch2 ho2 hbk2
 have H := H.lend 0 rfl
 have H := H.lend 1 rfl
 have H := H.lend 2 rfl
 refine pz 1 hf fun a hf => ?_
 refine wr (pz 2 hf fun a hf => ?_)
 refine wer ?_
 have H := H.frontD 2 rfl
 have H := H.frontD 2 rfl
 have H := H.recast (X := [(⟨F6, MP.own F6 [(.slice A1 a'.Network.Nodes.length c1)] (y.2.Nodes : List ByteArray)⟩ : DI), (⟨F7, MP.own F7 [(.slice A2 a'.Network.Fibers.length c2)] (y.2.Fibers : List Fiber)⟩ : DI), (⟨F8, MP.own F8 [(.slice A3 a'.Lights.length c3)] (y2.2 : List Light)⟩ : DI)]) (Y := [(⟨(F6 ++ (F7 ++ F8)), MP.own (F6 ++ (F7 ++ F8)) [(.slice A1 a'.Network.Nodes.length c1), (.slice A2 a'.Network.Fibers.length c2), (.slice A3 a'.Lights.length c3)] (({ Network := y.2, Lights := y2.2 } : Plan) : Plan)⟩ : DI)]) (List.Perm.of_eq (by simp)) fun _ => ps1 (Plan_ownmk (x := ({ Network := y.2, Lights := y2.2 } : Plan)) (H.ownAt 0 rfl) (H.ownAt 1 rfl) (H.ownAt 2 rfl)) ps0
 obtain rfl := oi hF
 refine rT hf ?_
 exact ⟨_, rfl, H.chg, mk_int, _, H.ownAt 0 rfl, H.back⟩
theorem laws_heldStringS_ok {S : Nat → Prop} {v0_ : Value} {v1_ : Value} {a' : List ByteArray} {k' : Int} {r : Int} (h0 : VR w0 S v0_ a') (h1 : VR w0 S v1_ k') (hF : laws_heldStringS fu a' k' = some r) :
    Calls Tryz.prog 130 [v0_, v1_].toArray w0 fun e w' => ∃ v, e = .returned v ∧ (Below w0.heap.size w0 w' ∧ VR w' (St ⟨w0, []⟩ S [] [] [] true) v r) := by
 obtain ⟨A, c, rfl, hl⟩ := VR_list h0
 obtain rfl := VR_int h1
 have H := Mem.start ⟨w0, []⟩ S
 have H := H.pA hl
 refine en Tryz.func130 fun a hf => ?_
 rw [laws_heldStringS] at hF
 refine sqz (pz 1 hf fun a hf => ?_)
 refine we (sqz (pz 1 hf fun a hf => ?_))
 refine wl_end (then_n ?_)
 obtain ⟨out', hB1, hF⟩ := bs_ hF
 have hf := hf.pn [0, 1, 5]
 have H := H.lt_ [] [] [] [0]
 refine loopC (fun (s : Int × Int) (a : Act) (w : World) => match s with | (k2, i) => Fr a 22 [(0, (.slice A a'.length c)), (1, (.int .i64 k2)), (5, (.int .i64 i))] ∧ Mem ⟨w0, []⟩ S [] [] [] [(false, MP.val [(.slice A a'.length c)] (a' : List ByteArray))] w) (fun k (s : Int × Int) => laws_heldStringS_L1 fu a' k s.1 s.2 = some out') (fun s => out' = Out.next s) (k', 0) fu hB1 ⟨hf, H⟩ (fun s h => by cases h) ?_ ?_
 ·rintro fk ⟨k2, i⟩ a w hR1 hI
  replace hR1 : laws_heldStringS_L1 fu a' (fk + 1) k2 i = some out' := hR1
  rw [laws_heldStringS_L1] at hR1
  obtain ⟨hf, H⟩ := hI
  refine sq (sqz (pz 4 hf fun a hf => ?_))
  refine wl_end (then_n (ib hR1 hf (fun hc hR1 => ?_) fun hc hR1 => ?_))
  ·refine wp_skip (then_n (sq (wp_block (sq (sq (dw [] 7 fun w hb => ?_))))))
   have H := H.keep hb
   refine zp 0 hf trivial fun a hf => ?_
   refine zp 1 hf trivial fun a hf => ?_
   obtain ⟨e, he, hR1⟩ := bs_ hR1
   obtain ⟨p, o, cs, hx, hr, H⟩ := pre_iaddr H Tryz.underlying22 TF.sz9 0 rfl he
   refine tP 2 rfl rfl rfl rfl hf (by kernel_rfl) (fun _ => trivial) (fun w => rq_iaddrE hf rfl rfl rfl hx w) fun a hf => ?_
   obtain rfl := hr
   refine strT (H.lt_ [] [] [] [0]) (fun w H => trivial) fun hS => ?_
   refine zS 3 [] rfl rfl rfl rfl hf hS (fun w H => rq_loadI hf H TF.ls9 0 0 rfl rfl rfl) fun a hf => ?_
   refine zp 4 hf hS fun a hf => ?_
   obtain ⟨y, hy, hR1⟩ := bs_ hR1
   refine nn 5 rfl (oC hf TF.cl191 (laws_markText_ok (S := TT) mk_int hy) fun v w a hp hf => ?_)
   obtain ⟨hb, hp⟩ := hp
   obtain rfl := VR_str hp
   have H := H.keep hb
   have hS := H.lt_ [] [] [] [0]
   refine aS hS ?_
   refine zp 6 hf hS fun a hf => ?_
   refine dk ?_
   refine then_n (ib hR1 hf (fun hc2 hR1 => ?_) fun hc2 hR1 => ?_)
   ·refine sqz (pz 1 hf fun a hf => ?_)
    have hf := hf.pn [4]
    refine wl_end (then_n (wp_ret (then_r (blk_r (then_r (then_r (blk_r (then_r (then_r (?_))))))))))
    obtain rfl := oi hR1
    replace hF := on_ret hF
    obtain rfl := oi hF
    refine rT hf ?_
    exact ⟨_, rfl, H.bel, mk_int⟩
   ·refine wp_skip (then_n (reg (pz 3 hf fun a hf => ?_)))
    have hf := hf.pn [0, 1, 5]
    refine wl_end (blk_n (then_n (reg (pz 3 hf fun a hf => ?_))))
    refine wl_end ?_
    have hf := hf.pn [0, 1, 5]
    have H := H.lt_ [] [] [] [1]
    exact then_n ⟨(w64 (k2 + 1), w64 (i + 1)), hR1, hf, H⟩
  ·refine wp_exit (then_x (then_x (blk_e (?_))))
   have hf := hf.pn [0, 1, 5]
   have H := H.lt_ [] [] [] [0]
   exact ⟨(k2, i), (Option.some.inj hR1).symm, hf, H⟩
 rintro a w ⟨⟨k3, i2⟩, rfl, hf, H⟩
 replace hF := on_next hF
 try dsimp only at hF
 refine then_n (sqz (pz 2 hf fun a hf => ?_))
 refine wer ?_
 obtain rfl := oi hF
 refine rT hf ?_
 exact ⟨_, rfl, H.bel, mk_int⟩
theorem laws_heldFiberS_ok {S : Nat → Prop} {v0_ : Value} {v1_ : Value} {a' : List Fiber} {k' : Int} {r : Int} (h0 : VR w0 S v0_ a') (h1 : VR w0 S v1_ k') (hF : laws_heldFiberS fu a' k' = some r) :
    Calls Tryz.prog 131 [v0_, v1_].toArray w0 fun e w' => ∃ v, e = .returned v ∧ (Below w0.heap.size w0 w' ∧ VR w' (St ⟨w0, []⟩ S [] [] [] true) v r) := by
 obtain ⟨A, c, rfl, hl⟩ := VR_list h0
 obtain rfl := VR_int h1
 have H := Mem.start ⟨w0, []⟩ S
 have H := H.pA hl
 refine en Tryz.func131 fun a hf => ?_
 rw [laws_heldFiberS] at hF
 refine sqz (pz 1 hf fun a hf => ?_)
 refine we (sqz (pz 1 hf fun a hf => ?_))
 refine wl_end (then_n ?_)
 obtain ⟨out', hB1, hF⟩ := bs_ hF
 have hf := hf.pn [0, 1, 5]
 have H := H.lt_ [] [] [] [0]
 refine loopC (fun (s : Int × Int) (a : Act) (w : World) => match s with | (k2, i) => Fr a 49 [(0, (.slice A a'.length c)), (1, (.int .i64 k2)), (5, (.int .i64 i))] ∧ Mem ⟨w0, []⟩ S [] [] [] [(false, MP.val [(.slice A a'.length c)] (a' : List Fiber))] w) (fun k (s : Int × Int) => laws_heldFiberS_L1 fu a' k s.1 s.2 = some out') (fun s => out' = Out.next s) (k', 0) fu hB1 ⟨hf, H⟩ (fun s h => by cases h) ?_ ?_
 ·rintro fk ⟨k2, i⟩ a w hR1 hI
  replace hR1 : laws_heldFiberS_L1 fu a' (fk + 1) k2 i = some out' := hR1
  rw [laws_heldFiberS_L1] at hR1
  obtain ⟨hf, H⟩ := hI
  refine sq (sqz (pz 4 hf fun a hf => ?_))
  refine wl_end (then_n (ib hR1 hf (fun hc hR1 => ?_) fun hc hR1 => ?_))
  ·refine wp_skip (then_n (sq (wp_block (sq (sqz (pz 2 hf fun a hf => ?_))))))
   obtain ⟨e, he, hR1⟩ := bs_ hR1
   refine wl0 rfl (op_iaddr hf H Tryz.underlying32 TF.sz180 0 rfl rfl rfl he (by decide) fun p o cs a hf hr H => ?_)
   obtain rfl := Fiber_cells hr
   refine pz 1 hf fun a hf => ?_
   refine oq hf (rq_loadI hf H TF.ls3 0 0 rfl rfl rfl) fun a hf => ?_
   refine pz 2 hf fun a hf => ?_
   refine wl_end (then_n (ib hR1 hf (fun hc2 hR1 => ?_) fun hc2 hR1 => ?_))
   ·refine sqz (pz 1 hf fun a hf => ?_)
    have hf := hf.pn [4]
    refine wl_end (then_n (wp_ret (then_r (blk_r (then_r (then_r (blk_r (then_r (then_r (?_))))))))))
    obtain rfl := oi hR1
    replace hF := on_ret hF
    obtain rfl := oi hF
    refine rT hf ?_
    exact ⟨_, rfl, H.bel, mk_int⟩
   ·refine wp_skip (then_n (sqz (pz 3 hf fun a hf => ?_)))
    have hf := hf.pn [0, 1, 5]
    refine we (sqz (pz 2 hf fun a hf => ?_))
    obtain ⟨e2, he2, hR1⟩ := bs_ hR1
    refine wl0 rfl (op_iaddr hf H Tryz.underlying32 TF.sz180 1 rfl rfl rfl he2 (by decide) fun p2 o2 cs2 a hf hr2 H => ?_)
    obtain rfl := Fiber_cells hr2
    refine pz 1 hf fun a hf => ?_
    refine oq hf (rq_loadI hf H TF.ls3 0 1 rfl rfl rfl) fun a hf => ?_
    refine pz 2 hf fun a hf => ?_
    refine wl_end (then_n (ib hR1 hf (fun hc3 hR1 => ?_) fun hc3 hR1 => ?_))
    ·refine sqz (pz 1 hf fun a hf => ?_)
     refine wl_end (then_n (wp_ret (then_r (blk_r (then_r (then_r (blk_r (then_r (then_r (?_))))))))))
     obtain rfl := oi hR1
     replace hF := on_ret hF
     obtain rfl := oi hF
     refine rT hf ?_
     exact ⟨_, rfl, H.bel, mk_int⟩
    ·refine wp_skip (then_n (sqz (pz 3 hf fun a hf => ?_)))
     refine we (sqz (pz 2 hf fun a hf => ?_))
     obtain ⟨e3, he3, hR1⟩ := bs_ hR1
     refine wl0 rfl (op_iaddr hf H Tryz.underlying32 TF.sz180 2 rfl rfl rfl he3 (by decide) fun p3 o3 cs3 a hf hr3 H => ?_)
     obtain rfl := Fiber_cells hr3
     refine pz 1 hf fun a hf => ?_
     refine oq hf (rq_loadI hf H TF.ls3 0 2 rfl rfl rfl) fun a hf => ?_
     refine pz 2 hf fun a hf => ?_
     have hf := hf.pn [0, 1, 5, 36]
     refine wl_end (then_n (ib hR1 hf (fun hc4 hR1 => ?_) fun hc4 hR1 => ?_))
     ·refine sqz (pz 1 hf fun a hf => ?_)
      refine wl_end (then_n (wp_ret (then_r (blk_r (then_r (then_r (blk_r (then_r (then_r (?_))))))))))
      obtain rfl := oi hR1
      replace hF := on_ret hF
      obtain rfl := oi hF
      refine rT hf ?_
      exact ⟨_, rfl, H.bel, mk_int⟩
     ·refine wp_skip (then_n (sqz (pz 3 hf fun a hf => ?_)))
      refine we (sqz (pz 2 hf fun a hf => ?_))
      obtain ⟨e4, he4, hR1⟩ := bs_ hR1
      refine wl0 rfl (op_iaddr hf H Tryz.underlying32 TF.sz180 3 rfl rfl rfl he4 (by decide) fun p4 o4 cs4 a hf hr4 H => ?_)
      obtain rfl := Fiber_cells hr4
      refine pz 1 hf fun a hf => ?_
      refine oq hf (rq_loadI hf H TF.ls3 0 3 rfl rfl rfl) fun a hf => ?_
      refine pz 2 hf fun a hf => ?_
      refine wl_end (then_n (ib hR1 hf (fun hc5 hR1 => ?_) fun hc5 hR1 => ?_))
      ·refine sqz (pz 1 hf fun a hf => ?_)
       have hf := hf.pn [4]
       refine wl_end (then_n (wp_ret (then_r (blk_r (then_r (then_r (blk_r (then_r (then_r (?_))))))))))
       obtain rfl := oi hR1
       replace hF := on_ret hF
       obtain rfl := oi hF
       refine rT hf ?_
       exact ⟨_, rfl, H.bel, mk_int⟩
      ·refine wp_skip (then_n (reg (pz 3 hf fun a hf => ?_)))
       refine wl_end (blk_n (then_n (reg (pz 3 hf fun a hf => ?_))))
       have hf := hf.pn [0, 1, 5]
       refine wl_end ?_
       have hf := hf.pn [0, 1, 5]
       have H := H.lt_ [] [] [] [4]
       exact then_n ⟨(w64 ((w64 ((w64 ((w64 (k2 + 1)) + 1)) + 1)) + 1), w64 (i + 1)), hR1, hf, H⟩
  ·refine wp_exit (then_x (then_x (blk_e (?_))))
   have hf := hf.pn [0, 1, 5]
   have H := H.lt_ [] [] [] [0]
   exact ⟨(k2, i), (Option.some.inj hR1).symm, hf, H⟩
 rintro a w ⟨⟨k3, i2⟩, rfl, hf, H⟩
 replace hF := on_next hF
 try dsimp only at hF
 refine then_n (sqz (pz 2 hf fun a hf => ?_))
 refine wer ?_
 obtain rfl := oi hF
 refine rT hf ?_
 exact ⟨_, rfl, H.bel, mk_int⟩
theorem laws_heldNetwork_ok {S : Nat → Prop} {v0_ : Value} {v1_ : Value} {a' : Network} {k' : Int} {r : Int} (h0 : VR w0 S v0_ a') (h1 : VR w0 S v1_ k') (hF : laws_heldNetwork fu a' k' = some r) :
    Calls Tryz.prog 61 [v0_, v1_].toArray w0 fun e w' => ∃ v, e = .returned v ∧ (Below w0.heap.size w0 w' ∧ VR w' (St ⟨w0, []⟩ S [] [] [] true) v r) := by
 obtain ⟨A, c, A2, c2, rfl, hl, hl2⟩ := Network_open h0
 obtain rfl := VR_int h1
 have H := Mem.start ⟨w0, []⟩ S
 have H := H.pA hl
 have H := H.pA hl2
 refine en Tryz.func61 fun a hf => ?_
 rw [laws_heldNetwork] at hF
 refine bx hf H fun b' a w hf H => ?_
 refine pz 1 hf fun a hf => ?_
 refine wr (pz 1 hf fun a hf => ?_)
 refine lB 0 hf H TF.ls22 fun a hf => ?_
 refine pz 1 hf fun a hf => ?_
 obtain ⟨y, hy, hF⟩ := bs_ hF
 refine oc hf TF.cl130 (laws_heldStringS_ok (S := TT) (mk_list (H.rt 1 rfl)) mk_int hy) fun v w a hp hf => ?_
 obtain ⟨hb, hp⟩ := hp
 obtain rfl := VR_int hp
 have H := H.keep hb
 refine pz 1 hf fun a hf => ?_
 refine we (sqz (pz 2 hf fun a hf => ?_))
 refine wl_end (then_n (ib hF hf (fun hc hF => ?_) fun hc hF => ?_))
 ·refine sqz (pz 1 hf fun a hf => ?_)
  refine wl_end (then_n (wp_ret (then_r (?_))))
  obtain rfl := oi hF
  refine rT hf ?_
  exact ⟨_, rfl, H.bel, mk_int⟩
 ·refine wp_skip (then_n (sqz (pz 1 hf fun a hf => ?_)))
  refine lB 0 hf H TF.ls32 fun a hf => ?_
  refine pz 1 hf fun a hf => ?_
  obtain ⟨y2, hy2, hF⟩ := bs_ hF
  refine oc hf TF.cl131 (laws_heldFiberS_ok (S := TT) (mk_list (H.rt 0 rfl)) mk_int hy2) fun v2 w a hp2 hf => ?_
  obtain ⟨hb2, hp2⟩ := hp2
  obtain rfl := VR_int hp2
  have H := H.keep hb2
  refine pz 1 hf fun a hf => ?_
  have hf := hf.pn [1]
  refine we (sqz (pz 2 hf fun a hf => ?_))
  refine wl_end (then_n (ib hF hf (fun hc2 hF => ?_) fun hc2 hF => ?_))
  ·refine sqz (pz 1 hf fun a hf => ?_)
   refine wl_end (then_n (wp_ret (then_r (?_))))
   obtain rfl := oi hF
   refine rT hf ?_
   exact ⟨_, rfl, H.bel, mk_int⟩
  ·refine wp_skip (then_n (sqz (pz 2 hf fun a hf => ?_)))
   refine wer ?_
   obtain rfl := oi hF
   refine rT hf ?_
   exact ⟨_, rfl, H.bel, mk_int⟩
end AT
