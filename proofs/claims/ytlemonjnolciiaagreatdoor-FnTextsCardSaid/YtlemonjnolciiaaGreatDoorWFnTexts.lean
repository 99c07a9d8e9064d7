/- The Go functions do what is told of them, by program (gen.py). -/
import Derived.Test.YtlemonjnolciiaaGreatDoorWFnTexts3
set_option linter.unusedVariables false
set_option linter.unusedSimpArgs false
set_option maxRecDepth 100000
set_option maxHeartbeats 1000000
namespace AT
open Go Go.RowKit Go.Proofs
variable {fu : Nat} {w0 : World}
theorem spec_l9Good_ok {S : Nat → Prop} {v0_ : Value} {p : Plan} {r : Bool} (h0 : VR w0 S v0_ p) (hF : spec_l9Good fu p = some r) :
    Calls Tryz.prog 47 [v0_].toArray w0 fun e w' => ∃ v, e = .returned v ∧ (Below w0.heap.size w0 w' ∧ VR w' (St ⟨w0, []⟩ S [] [] [] true) v r) := by
 obtain ⟨A, c, A2, c2, A3, c3, rfl, hl, hl2, hl3⟩ := Plan_open h0
 have H := Mem.start ⟨w0, []⟩ S
 have H := H.pA hl
 have H := H.pA hl2
 have H := H.pA hl3
 refine en Tryz.func47 fun a hf => ?_
 rw [spec_l9Good] at hF
 refine bx hf H fun b' a w hf H => ?_
 refine pz 1 hf fun a hf => ?_
 refine wl_end (then_n (sq (sq ?_)))
 obtain ⟨c4, hGc4, hF⟩ := bs_ hF
 have fh := hf.prune [1] rfl
 have Hm := H.lm 1 0 0 3 7
 refine midF 14 (.bool c4) fh Hm ?_ fun a w hf H => ?_
 ·refine reg (pz 1 hf fun a hf => ?_)
  refine lN 0 hf H TF.la27 fun a hf => ?_
  obtain ⟨y, hy, hGc4⟩ := bs_ hGc4
  refine oc hf TF.cl32 (spec_l2Good_ok (S := TT) (Network_mkv (x := p.Network) (H.rt 2 rfl) (H.rt 1 rfl)) hy) fun v w a hp hf => ?_
  obtain ⟨hb, hp⟩ := hp
  obtain rfl := VR_bool hp
  have H := H.keep hb
  refine pz 2 hf fun a hf => ?_
  refine iteB hGc4 (fun hc hGc4 => ?_) fun hc hGc4 => ?_
  ·have hf := hf.lit 9 rfl hc
   refine pz 5 hf fun a hf => ?_
   obtain rfl := oi hGc4
   have hf := hf.pn [14, 1]
   have H := H.lm 1 0 0 3 7
   exact wl_end ⟨hf, H⟩
  ·have hf := hf.lit 9 rfl hc
   refine pz 1 hf fun a hf => ?_
   refine wlg hf rfl rfl rfl (op_q hf (rq_loadB hf H TF.ls51 0 rfl rfl rfl) rfl (by decide) fun a hf => ?_)
   refine pz 3 hf fun a hf => ?_
   obtain rfl := oi hGc4
   have hf := hf.pn [14, 1]
   have H := H.lm 1 0 0 3 7
   exact wl_end ⟨hf, H⟩
 refine then_n (ib hF hf (fun hc2 hF => ?_) fun hc2 hF => ?_)
 ·refine sqz (pz 1 hf fun a hf => ?_)
  refine wl_end (then_n (wp_ret (then_r (?_))))
  obtain rfl := oi hF
  refine rT hf ?_
  exact ⟨_, rfl, H.bel, mk_bool⟩
 ·refine wp_skip (then_n (sq (sqz (pz 1 hf fun a hf => ?_))))
  refine wl_end (then_n ?_)
  obtain ⟨out', hB1, hF⟩ := bs_ hF
  have hf := hf.pn [1, 3]
  have H := H.lm 1 0 0 3 7
  refine loopC (fun (s : Int) (a : Act) (w : World) => match s with | i => Fr a 67 [(1, (.pointer (some ⟨b', 0, none⟩))), (3, (.int .i64 i))] ∧ Mem ⟨w0, []⟩ S [⟨b', 53, [(.slice A p.Network.Nodes.length c), (.slice A2 p.Network.Fibers.length c2), (.slice A3 p.Lights.length c3)]⟩] [] [] [(false, MP.val [(.slice A3 p.Lights.length c3)] (p.Lights : List Light)), (false, MP.val [(.slice A2 p.Network.Fibers.length c2)] (p.Network.Fibers : List Fiber)), (false, MP.val [(.slice A p.Network.Nodes.length c)] (p.Network.Nodes : List ByteArray))] w) (fun k (s : Int) => spec_l9Good_L1 fu p k s = some out') (fun s => out' = Out.next s) 0 fu hB1 ⟨hf, H⟩ (fun s h => by cases h) ?_ ?_
  ·rintro fk i a w hR1 hI
   replace hR1 : spec_l9Good_L1 fu p (fk + 1) i = some out' := hR1
   rw [spec_l9Good_L1] at hR1
   obtain ⟨hf, H⟩ := hI
   refine sq (sqz (pz 2 hf fun a hf => ?_))
   refine lB 0 hf H TF.ls51 fun a hf => ?_
   refine pz 2 hf fun a hf => ?_
   refine wl_end (then_n (ib hR1 hf (fun hc3 hR1 => ?_) fun hc3 hR1 => ?_))
   ·refine wp_skip (then_n (sq (wp_block (sq (sq ?_)))))
    obtain ⟨c5, hGc5, hR1⟩ := bs_ hR1
    have fh2 := hf.prune [1, 3] rfl
    have Hm2 := H.lm 1 0 0 3 7
    refine midF 50 (.bool c5) fh2 Hm2 ?_ fun a w hf H => ?_
    ·refine dw [] 29 fun w hb => ?_
     have H := H.keep hb
     refine zp 0 hf trivial fun a hf => ?_
     refine strT (H.lk 1 0 0 []) (fun w H => trivial) fun hS => ?_
     refine zS 1 [] rfl rfl rfl rfl hf hS (fun w H => rq_loadBN hf H TF.la27 0 rfl rfl rfl rfl) fun a hf => ?_
     refine zp 2 hf hS fun a hf => ?_
     refine zS 3 [] rfl rfl rfl rfl hf hS (fun w H => rq_loadB hf H TF.ls51 0 rfl rfl rfl) fun a hf => ?_
     refine zp 4 hf hS fun a hf => ?_
     obtain ⟨e, he, hGc5⟩ := bs_ hGc5
     obtain ⟨p2, o, cs, hx, hr, H⟩ := pre_iaddr H Tryz.underlying51 TF.sz80 0 rfl he
     refine zP 5 rfl rfl rfl rfl hf hS (fun w => rq_iaddrE hf rfl rfl rfl hx w) fun a hf => ?_
     obtain ⟨A4, c6, rfl, hl4⟩ := Light_cells hr
     have H := H.pF hl4
     refine strT (H.lk 1 0 0 [1]) (fun w H => H.lk 1 0 0 []) fun hS => ?_
     refine zS 6 [] rfl rfl rfl rfl hf hS (fun w H => rq_loadIN hf H TF.la80 0 0 rfl rfl rfl rfl) fun a hf => ?_
     obtain ⟨y2, hy2, hGc5⟩ := bs_ hGc5
     refine nn 7 rfl (oC hf TF.cl83 (spec_l9Light_ok (S := TT) (Network_mkv (x := p.Network) (H.rt 4 rfl) (H.rt 3 rfl)) (Light_mkv (x := e) (H.rt 0 rfl)) hy2) fun v2 w a hp2 hf => ?_)
     obtain ⟨hb2, hp2⟩ := hp2
     obtain rfl := VR_bool hp2
     have H := H.keep hb2
     have hS := H.lk 1 0 0 [1]
     refine aS hS ?_
     refine zp 8 hf hS fun a hf => ?_
     refine zp 9 hf hS fun a hf => ?_
     refine iteB hGc5 (fun hc4 hGc5 => ?_) fun hc4 hGc5 => ?_
     ·have hf := hf.lit 31 rfl hc4
      refine zU 10 hf hS fun a hf => ?_
      refine zU 11 hf hS fun a hf => ?_
      refine zU 12 hf hS fun a hf => ?_
      refine zV 13 hf hS fun a hf => ?_
      refine zV 14 hf hS fun a hf => ?_
      refine zV 15 hf hS fun a hf => ?_
      refine zV 16 hf hS fun a hf => ?_
      refine zV 17 hf hS fun a hf => ?_
      refine zV 18 hf hS fun a hf => ?_
      refine zV 19 hf hS fun a hf => ?_
      refine zV 20 hf hS fun a hf => ?_
      refine zV 21 hf hS fun a hf => ?_
      refine zV 22 hf hS fun a hf => ?_
      refine zV 23 hf hS fun a hf => ?_
      refine zV 24 hf hS fun a hf => ?_
      refine zV 25 hf hS fun a hf => ?_
      refine zV 26 hf hS fun a hf => ?_
      refine zU 27 hf hS fun a hf => ?_
      refine zp 28 hf hS fun a hf => ?_
      refine dk ?_
      obtain rfl := oi hGc5
      have hf := hf.pn [50, 1, 3]
      have H := H.lm 1 0 0 5 28
      exact ⟨hf, H⟩
     ·have hf := hf.lit 31 rfl hc4
      refine zg 10 hf hS fun a hf => ?_
      refine zg 11 hf hS fun a hf => ?_
      refine zg 12 hf hS fun a hf => ?_
      refine iteB hGc5 (fun hc5 hGc5 => ?_) fun hc5 hGc5 => ?_
      ·have hf := hf.lit 34 rfl hc5
       refine zg 13 hf hS fun a hf => ?_
       refine tSg 14 [] rfl rfl rfl rfl rfl rfl hf (by kernel_rfl) (by kernel_rfl) hS (fun w H => rq_loadB hf H TF.ls51 0 rfl rfl rfl) fun a hf => ?_
       refine zg 15 hf hS fun a hf => ?_
       refine zg 16 hf hS fun a hf => ?_
       obtain ⟨e2, he2, hGc5⟩ := bs_ hGc5
       obtain ⟨p3, o2, cs2, hx2, hr2, H⟩ := pre_iaddr H Tryz.underlying51 TF.sz80 2 rfl he2
       refine tPg 17 rfl rfl rfl rfl rfl rfl hf (by kernel_rfl) (fun _ => hS) (fun w => rq_iaddrE hf rfl rfl rfl hx2 w) fun a hf => ?_
       obtain ⟨A5, c7, rfl, hl5⟩ := Light_cells hr2
       have H := H.pF hl5
       refine zg 18 hf hS fun a hf => ?_
       refine strT (H.lk 1 0 0 [1,3]) (fun w H => H.lk 1 0 0 [1]) fun hS => ?_
       refine tSg 19 [] rfl rfl rfl rfl rfl rfl hf (by kernel_rfl) (by kernel_rfl) hS (fun w H => rq_loadI hf H TF.ls3 0 0 rfl rfl rfl) fun a hf => ?_
       refine zg 20 hf hS fun a hf => ?_
       refine tSg 21 [] rfl rfl rfl rfl rfl rfl hf (by kernel_rfl) (by kernel_rfl) hS (fun w H => rq_loadB hf H TF.ls51 0 rfl rfl rfl) fun a hf => ?_
       refine zg 22 hf hS fun a hf => ?_
       obtain ⟨e3, he3, hGc5⟩ := bs_ hGc5
       obtain ⟨p4, o3, cs3, hx3, hr3, H⟩ := pre_iaddr H Tryz.underlying51 TF.sz80 4 rfl he3
       refine tPg 23 rfl rfl rfl rfl rfl rfl hf (by kernel_rfl) (fun _ => hS) (fun w => rq_iaddrE hf rfl rfl rfl hx3 w) fun a hf => ?_
       obtain ⟨A6, c8, rfl, hl6⟩ := Light_cells hr3
       have H := H.pF hl6
       refine zg 24 hf hS fun a hf => ?_
       refine strT (H.lm 1 0 0 6 42) (fun w H => H.lk 1 0 0 [1,2]) fun hS => ?_
       refine tSg 25 [] rfl rfl rfl rfl rfl rfl hf (by kernel_rfl) (by kernel_rfl) hS (fun w H => rq_loadI hf H TF.ls3 0 0 rfl rfl rfl) fun a hf => ?_
       refine zg 26 hf hS fun a hf => ?_
       refine zg 27 hf hS fun a hf => ?_
       refine zp 28 hf hS fun a hf => ?_
       refine dk ?_
       obtain rfl := oi hGc5
       have hf := hf.pn [50, 1, 3]
       have H := H.lm 1 0 0 9 448
       exact ⟨hf, H⟩
      ·have hf := hf.lit 34 rfl hc5
       refine zU 13 hf hS fun a hf => ?_
       refine zU 14 hf hS fun a hf => ?_
       refine zU 15 hf hS fun a hf => ?_
       refine zU 16 hf hS fun a hf => ?_
       refine zU 17 hf hS fun a hf => ?_
       refine zU 18 hf hS fun a hf => ?_
       refine zU 19 hf hS fun a hf => ?_
       refine zU 20 hf hS fun a hf => ?_
       refine zU 21 hf hS fun a hf => ?_
       refine zU 22 hf hS fun a hf => ?_
       refine zU 23 hf hS fun a hf => ?_
       refine zU 24 hf hS fun a hf => ?_
       refine zU 25 hf hS fun a hf => ?_
       refine zU 26 hf hS fun a hf => ?_
       refine zg 27 hf hS fun a hf => ?_
       refine zp 28 hf hS fun a hf => ?_
       refine dk ?_
       obtain rfl := oi hGc5
       have hf := hf.pn [50, 1, 3]
       have H := H.lm 1 0 0 5 28
       exact ⟨hf, H⟩
    refine then_n (ib hR1 hf (fun hc6 hR1 => ?_) fun hc6 hR1 => ?_)
    ·refine sqz (pz 1 hf fun a hf => ?_)
     refine wl_end (then_n (wp_ret (then_r (blk_r (then_r (then_r (blk_r (then_r (then_r (?_))))))))))
     obtain rfl := oi hR1
     replace hF := on_ret hF
     obtain rfl := oi hF
     refine rT hf ?_
     exact ⟨_, rfl, H.bel, mk_bool⟩
    ·refine wp_skip (then_n (sqz (pz 1 hf fun a hf => ?_)))
     refine wl_end (then_n ?_)
     obtain ⟨out2, hB2, hR1⟩ := bs_ hR1
     have hf := hf.pn [1, 3, 4]
     have H := H.lm 1 0 0 3 7
     refine loopC (fun (s : Int) (a : Act) (w : World) => match s with | k' => Fr a 67 [(1, (.pointer (some ⟨b', 0, none⟩))), (3, (.int .i64 i)), (4, (.int .i64 k'))] ∧ Mem ⟨w0, []⟩ S [⟨b', 53, [(.slice A p.Network.Nodes.length c), (.slice A2 p.Network.Fibers.length c2), (.slice A3 p.Lights.length c3)]⟩] [] [] [(false, MP.val [(.slice A3 p.Lights.length c3)] (p.Lights : List Light)), (false, MP.val [(.slice A2 p.Network.Fibers.length c2)] (p.Network.Fibers : List Fiber)), (false, MP.val [(.slice A p.Network.Nodes.length c)] (p.Network.Nodes : List ByteArray))] w) (fun k (s : Int) => spec_l9Good_L2 fu p i k s = some out2) (fun s => out2 = Out.next s) 0 fu hB2 ⟨hf, H⟩ (fun s h => by cases h) ?_ ?_
     ·rintro fk k' a w hR2 hI
      replace hR2 : spec_l9Good_L2 fu p i (fk + 1) k' = some out2 := hR2
      rw [spec_l9Good_L2] at hR2
      obtain ⟨hf, H⟩ := hI
      refine sq (sqz (pz 3 hf fun a hf => ?_))
      refine wl_end (then_n (ib hR2 hf (fun hc7 hR2 => ?_) fun hc7 hR2 => ?_))
      ·refine wp_skip (then_n (sq (wp_block (sq (dw [] 11 fun w hb => ?_)))))
       have H := H.keep hb
       refine zp 0 hf trivial fun a hf => ?_
       refine strT (H.lk 1 0 0 []) (fun w H => trivial) fun hS => ?_
       refine zS 1 [] rfl rfl rfl rfl hf hS (fun w H => rq_loadB hf H TF.ls51 0 rfl rfl rfl) fun a hf => ?_
       refine zp 2 hf hS fun a hf => ?_
       obtain ⟨e4, he4, hR2⟩ := bs_ hR2
       obtain ⟨p5, o4, cs4, hx4, hr4, H⟩ := pre_iaddr H Tryz.underlying51 TF.sz80 0 rfl he4
       refine zP 3 rfl rfl rfl rfl hf hS (fun w => rq_iaddrE hf rfl rfl rfl hx4 w) fun a hf => ?_
       obtain ⟨A7, c9, rfl, hl7⟩ := Light_cells hr4
       have H := H.pF hl7
       refine strT (H.lk 1 0 0 [1]) (fun w H => H.lk 1 0 0 []) fun hS => ?_
       refine zS 4 [] rfl rfl rfl rfl hf hS (fun w H => rq_loadIN hf H TF.la80 0 0 rfl rfl rfl rfl) fun a hf => ?_
       refine zp 5 hf hS fun a hf => ?_
       refine zS 6 [] rfl rfl rfl rfl hf hS (fun w H => rq_loadB hf H TF.ls51 0 rfl rfl rfl) fun a hf => ?_
       refine zp 7 hf hS fun a hf => ?_
       obtain ⟨e5, he5, hR2⟩ := bs_ hR2
       obtain ⟨p6, o5, cs5, hx5, hr5, H⟩ := pre_iaddr H Tryz.underlying51 TF.sz80 2 rfl he5
       refine zP 8 rfl rfl rfl rfl hf hS (fun w => rq_iaddrE hf rfl rfl rfl hx5 w) fun a hf => ?_
       obtain ⟨A8, c10, rfl, hl8⟩ := Light_cells hr5
       have H := H.pF hl8
       refine strT (H.lk 1 0 0 [1,3]) (fun w H => H.lk 1 0 0 [1]) fun hS => ?_
       refine zS 9 [] rfl rfl rfl rfl hf hS (fun w H => rq_loadIN hf H TF.la80 0 0 rfl rfl rfl rfl) fun a hf => ?_
       obtain ⟨y3, hy3, hR2⟩ := bs_ hR2
       refine nn 10 rfl (oC hf TF.cl84 (spec_l9Collide_ok (S := TT) (Light_mkv (x := e4) (H.rt 2 rfl)) (Light_mkv (x := e5) (H.rt 0 rfl)) hy3) fun v3 w a hp3 hf => ?_)
       obtain ⟨hb3, hp3⟩ := hp3
       obtain rfl := VR_bool hp3
       have H := H.keep hb3
       have hS := H.lk 1 0 0 [1,3]
       refine aS hS ?_
       refine dk ?_
       have hf := hf.pn [1, 3, 4, 66]
       refine then_n (ib hR2 hf (fun hc8 hR2 => ?_) fun hc8 hR2 => ?_)
       ·refine sqz (pz 1 hf fun a hf => ?_)
        refine wl_end (then_n (wp_ret (blk_r (then_r (then_r (blk_r (then_r (blk_r (then_r (then_r (blk_r (then_r (then_r (?_))))))))))))))
        obtain rfl := oi hR2
        replace hR1 := on_ret hR1
        obtain rfl := oi hR1
        replace hF := on_ret hF
        obtain rfl := oi hF
        refine rT hf ?_
        exact ⟨_, rfl, H.bel, mk_bool⟩
       ·refine wp_skip (blk_n (then_n (reg (pz 3 hf fun a hf => ?_))))
        refine wl_end ?_
        have hf := hf.pn [1, 3, 4]
        have H := H.lm 1 0 0 7 112
        exact then_n ⟨w64 (k' + 1), hR2, hf, H⟩
      ·refine wp_exit (then_x (then_x (blk_e (?_))))
       have hf := hf.pn [1, 3, 4]
       have H := H.lm 1 0 0 3 7
       exact ⟨k', (Option.some.inj hR2).symm, hf, H⟩
     rintro a w ⟨k2, rfl, hf, H⟩
     replace hR1 := on_next hR1
     refine blk_n (then_n (reg (pz 3 hf fun a hf => ?_)))
     refine wl_end ?_
     have hf := hf.pn [1, 3]
     have H := H.lm 1 0 0 3 7
     exact then_n ⟨w64 (i + 1), hR1, hf, H⟩
   ·refine wp_exit (then_x (then_x (blk_e (?_))))
    have hf := hf.pn [1, 3]
    have H := H.lm 1 0 0 3 7
    exact ⟨i, (Option.some.inj hR1).symm, hf, H⟩
  rintro a w ⟨i2, rfl, hf, H⟩
  replace hF := on_next hF
  refine then_n (sqz (pz 1 hf fun a hf => ?_))
  refine wer ?_
  obtain rfl := oi hF
  refine rT hf ?_
  exact ⟨_, rfl, H.bel, mk_bool⟩
theorem spec_IsValidPlan_ok {S : Nat → Prop} {v0_ : Value} {p : Plan} {r : Bool} (h0 : VR w0 S v0_ p) (hF : spec_IsValidPlan fu p = some r) :
    Calls Tryz.prog 21 [v0_].toArray w0 fun e w' => ∃ v, e = .returned v ∧ (Below w0.heap.size w0 w' ∧ VR w' (St ⟨w0, []⟩ S [] [] [] true) v r) := by
 obtain ⟨A, c, A2, c2, A3, c3, rfl, hl, hl2, hl3⟩ := Plan_open h0
 have H := Mem.start ⟨w0, []⟩ S
 have H := H.pA hl
 have H := H.pA hl2
 have H := H.pA hl3
 refine en Tryz.func21 fun a hf => ?_
 rw [spec_IsValidPlan] at hF
 refine bx hf H fun b' a w hf H => ?_
 refine pz 1 hf fun a hf => ?_
 refine wr (lN 0 hf H TF.la53 fun a hf => ?_)
 obtain ⟨y, hy, hF⟩ := bs_ hF
 refine oc hf TF.cl47 (spec_l9Good_ok (S := TT) (Plan_mkv (x := p) (H.rt 2 rfl) (H.rt 1 rfl) (H.rt 0 rfl)) hy) fun v w a hp hf => ?_
 obtain ⟨hb, hp⟩ := hp
 obtain rfl := VR_bool hp
 have H := H.keep hb
 refine pz 1 hf fun a hf => ?_
 refine wer ?_
 obtain rfl := oi hF
 refine rT hf ?_
 exact ⟨_, rfl, H.bel, mk_bool⟩
theorem laws_vLights_ok {S : Nat → Prop} {v0_ : Value} {v1_ : Value} {a' : Light} {b' : Light} {r : Bool} (h0 : VR w0 S v0_ a') (h1 : VR w0 S v1_ b') (hF : laws_vLights fu a' b' = some r) :
    Calls Tryz.prog 48 [v0_, v1_].toArray w0 fun e w' => ∃ v, e = .returned v ∧ (Below w0.heap.size w0 w' ∧ VR w' (St ⟨w0, []⟩ S [] [] [] true) v r) := by
 obtain ⟨A, c, rfl, hl⟩ := Light_open h0
 obtain ⟨A2, c2, rfl, hl2⟩ := Light_open h1
 have H := Mem.start ⟨w0, []⟩ S
 have H := H.pA hl
 have H := H.pA hl2
 refine en Tryz.func48 fun a hf => ?_
 rw [laws_vLights] at hF
 refine bx hf H fun b2 a w hf H => ?_
 refine wl0 rfl (op_box hf H rfl rfl (by decide) fun b3 a w hf H => ?_)
 refine pz 1 hf fun a hf => ?_
 refine wl_end (then_n (sq ?_))
 obtain ⟨c3, hGc3, hF⟩ := bs_ hF
 have fh := hf.prune [] rfl
 have Hm := H.lk 0 0 0 []
 refine midF 4 (.bool c3) fh Hm ?_ fun a w hf H => ?_
 ·refine reg (pz 1 hf fun a hf => ?_)
  refine lB 1 hf H TF.ls3 fun a hf => ?_
  refine pz 1 hf fun a hf => ?_
  refine lB 0 hf H TF.ls3 fun a hf => ?_
  refine pz 2 hf fun a hf => ?_
  refine iteB hGc3 (fun hc hGc3 => ?_) fun hc hGc3 => ?_
  ·have hf := hf.lit 10 rfl hc
   refine pz 1 hf fun a hf => ?_
   refine wlg hf rfl rfl rfl (op_q hf (rq_loadBN hf H TF.la45 1 rfl rfl rfl rfl) rfl (by decide) fun a hf => ?_)
   refine pz 1 hf fun a hf => ?_
   refine wlg hf rfl rfl rfl (op_q hf (rq_loadBN hf H TF.la45 0 rfl rfl rfl rfl) rfl (by decide) fun a hf => ?_)
   refine wlg hf rfl rfl rfl (op_q hf (rq_eqT hf TF.qeqt45 ([a'.Block.First, a'.Block.Count] : List Int) ([b'.Block.First, b'.Block.Count] : List Int) rfl rfl rfl rfl rfl rfl) rfl (by decide) fun a hf => ?_)
   refine pz 2 hf fun a hf => ?_
   refine iteB hGc3 (fun hc2 hGc3 => ?_) fun hc2 hGc3 => ?_
   ·have hf := hf.lit 17 rfl hc2
    refine pz 1 hf fun a hf => ?_
    refine wlg hf rfl rfl rfl (op_q hf (rq_loadBN hf H TF.la30 1 rfl rfl rfl rfl) rfl (by decide) fun a hf => ?_)
    refine pz 1 hf fun a hf => ?_
    refine wlg hf rfl rfl rfl (op_q hf (rq_loadBN hf H TF.la30 0 rfl rfl rfl rfl) rfl (by decide) fun a hf => ?_)
    obtain ⟨y, hy, hGc3⟩ := bs_ hGc3
    refine wlg hf rfl rfl rfl (oC hf TF.cl13 (laws_vRoutes_ok (S := TT) (Route_mkv (x := a'.Route) (H.rt 1 rfl)) (Route_mkv (x := b'.Route) (H.rt 0 rfl)) hy) fun v w a hp hf => ?_)
    obtain ⟨hb, hp⟩ := hp
    obtain rfl := VR_bool hp
    have H := H.keep hb
    refine pz 2 hf fun a hf => ?_
    obtain rfl := oi hGc3
    have hf := hf.pn [4]
    have H := H.lk 0 0 0 []
    exact wl_end ⟨hf, H⟩
   ·have hf := hf.lit 17 rfl hc2
    refine pz 7 hf fun a hf => ?_
    obtain rfl := oi hGc3
    have hf := hf.pn [4]
    have H := H.lk 0 0 0 []
    exact wl_end ⟨hf, H⟩
  ·have hf := hf.lit 10 rfl hc
   refine pz 14 hf fun a hf => ?_
   obtain rfl := oi hGc3
   have hf := hf.pn [4]
   have H := H.lk 0 0 0 []
   exact wl_end ⟨hf, H⟩
 refine then_n (wp_ret (?_))
 obtain rfl := oi hF
 refine rT hf ?_
 exact ⟨_, rfl, H.bel, mk_bool⟩
theorem laws_vPlans_ok {S : Nat → Prop} {v0_ : Value} {v1_ : Value} {a' : Plan} {b' : Plan} {r : Bool} (h0 : VR w0 S v0_ a') (h1 : VR w0 S v1_ b') (hF : laws_vPlans fu a' b' = some r) :
    Calls Tryz.prog 22 [v0_, v1_].toArray w0 fun e w' => ∃ v, e = .returned v ∧ (Below w0.heap.size w0 w' ∧ VR w' (St ⟨w0, []⟩ S [] [] [] true) v r) := by
 obtain ⟨A, c, A2, c2, A3, c3, rfl, hl, hl2, hl3⟩ := Plan_open h0
 obtain ⟨A4, c4, A5, c5, A6, c6, rfl, hl4, hl5, hl6⟩ := Plan_open h1
 have H := Mem.start ⟨w0, []⟩ S
 have H := H.pA hl
 have H := H.pA hl2
 have H := H.pA hl3
 have H := H.pA hl4
 have H := H.pA hl5
 have H := H.pA hl6
 refine en Tryz.func22 fun a hf => ?_
 rw [laws_vPlans] at hF
 refine bx hf H fun b2 a w hf H => ?_
 refine wl0 rfl (op_box hf H rfl rfl (by decide) fun b3 a w hf H => ?_)
 refine pz 1 hf fun a hf => ?_
 refine wl_end (then_n (sq (sq ?_)))
 obtain ⟨c7, hGc7, hF⟩ := bs_ hF
 have fh := hf.prune [2, 3] rfl
 have Hm := H.lm 3 0 0 6 63
 refine midF 20 (.bool c7) fh Hm ?_ fun a w hf H => ?_
 ·refine reg (pz 1 hf fun a hf => ?_)
  refine lN 1 hf H TF.la27 fun a hf => ?_
  refine pz 1 hf fun a hf => ?_
  refine lN 0 hf H TF.la27 fun a hf => ?_
  obtain ⟨y, hy, hGc7⟩ := bs_ hGc7
  refine oc hf TF.cl9 (laws_vNetworks_ok (S := TT) (Network_mkv (x := a'.Network) (H.rt 5 rfl) (H.rt 4 rfl)) (Network_mkv (x := b'.Network) (H.rt 2 rfl) (H.rt 1 rfl)) hy) fun v w a hp hf => ?_
  obtain ⟨hb, hp⟩ := hp
  obtain rfl := VR_bool hp
  have H := H.keep hb
  refine pz 2 hf fun a hf => ?_
  refine iteB hGc7 (fun hc hGc7 => ?_) fun hc hGc7 => ?_
  ·have hf := hf.lit 12 rfl hc
   refine pz 8 hf fun a hf => ?_
   obtain rfl := oi hGc7
   have hf := hf.pn [20, 2, 3]
   have H := H.lm 3 0 0 6 63
   exact wl_end ⟨hf, H⟩
  ·have hf := hf.lit 12 rfl hc
   refine pz 1 hf fun a hf => ?_
   refine wlg hf rfl rfl rfl (op_q hf (rq_loadB hf H TF.ls51 1 rfl rfl rfl) rfl (by decide) fun a hf => ?_)
   refine pz 2 hf fun a hf => ?_
   refine wlg hf rfl rfl rfl (op_q hf (rq_loadB hf H TF.ls51 0 rfl rfl rfl) rfl (by decide) fun a hf => ?_)
   refine pz 3 hf fun a hf => ?_
   obtain rfl := oi hGc7
   have hf := hf.pn [20, 2, 3]
   have H := H.lm 3 0 0 6 63
   exact wl_end ⟨hf, H⟩
 refine then_n (ib hF hf (fun hc2 hF => ?_) fun hc2 hF => ?_)
 ·refine sqz (pz 1 hf fun a hf => ?_)
  refine wl_end (then_n (wp_ret (then_r (?_))))
  obtain rfl := oi hF
  refine rT hf ?_
  exact ⟨_, rfl, H.bel, mk_bool⟩
 ·refine wp_skip (then_n (sq (sqz (pz 1 hf fun a hf => ?_))))
  refine wl_end (then_n ?_)
  obtain ⟨out', hB1, hF⟩ := bs_ hF
  have hf := hf.pn [2, 3, 5]
  have H := H.lm 3 0 0 6 63
  refine loopC (fun (s : Int) (a : Act) (w : World) => match s with | i => Fr a 40 [(2, (.pointer (some ⟨b2, 0, none⟩))), (3, (.pointer (some ⟨b3, 0, none⟩))), (5, (.int .i64 i))] ∧ Mem ⟨w0, []⟩ S [⟨b3, 53, [(.slice A4 b'.Network.Nodes.length c4), (.slice A5 b'.Network.Fibers.length c5), (.slice A6 b'.Lights.length c6)]⟩, ⟨b2, 53, [(.slice A a'.Network.Nodes.length c), (.slice A2 a'.Network.Fibers.length c2), (.slice A3 a'.Lights.length c3)]⟩] [] [] [(false, MP.val [(.slice A6 b'.Lights.length c6)] (b'.Lights : List Light)), (false, MP.val [(.slice A5 b'.Network.Fibers.length c5)] (b'.Network.Fibers : List Fiber)), (false, MP.val [(.slice A4 b'.Network.Nodes.length c4)] (b'.Network.Nodes : List ByteArray)), (false, MP.val [(.slice A3 a'.Lights.length c3)] (a'.Lights : List Light)), (false, MP.val [(.slice A2 a'.Network.Fibers.length c2)] (a'.Network.Fibers : List Fiber)), (false, MP.val [(.slice A a'.Network.Nodes.length c)] (a'.Network.Nodes : List ByteArray))] w) (fun k (s : Int) => laws_vPlans_L1 fu a' b' k s = some out') (fun s => out' = Out.next s) 0 fu hB1 ⟨hf, H⟩ (fun s h => by cases h) ?_ ?_
  ·rintro fk i a w hR1 hI
   replace hR1 : laws_vPlans_L1 fu a' b' (fk + 1) i = some out' := hR1
   rw [laws_vPlans_L1] at hR1
   obtain ⟨hf, H⟩ := hI
   refine sq (sqz (pz 2 hf fun a hf => ?_))
   refine lB 1 hf H TF.ls51 fun a hf => ?_
   refine pz 2 hf fun a hf => ?_
   refine wl_end (then_n (ib hR1 hf (fun hc3 hR1 => ?_) fun hc3 hR1 => ?_))
   ·refine wp_skip (then_n (sq (wp_block (sq (dw [] 12 fun w hb => ?_)))))
    have H := H.keep hb
    refine zp 0 hf trivial fun a hf => ?_
    refine strT (H.lk 2 0 0 []) (fun w H => trivial) fun hS => ?_
    refine zS 1 [] rfl rfl rfl rfl hf hS (fun w H => rq_loadB hf H TF.ls51 0 rfl rfl rfl) fun a hf => ?_
    refine zp 2 hf hS fun a hf => ?_
    obtain ⟨e, he, hR1⟩ := bs_ hR1
    obtain ⟨p, o, cs, hx, hr, H⟩ := pre_iaddr H Tryz.underlying51 TF.sz80 3 rfl he
    refine zP 3 rfl rfl rfl rfl hf hS (fun w => rq_iaddrE hf rfl rfl rfl hx w) fun a hf => ?_
    obtain ⟨A7, c8, rfl, hl7⟩ := Light_cells hr
    have H := H.pF hl7
    refine strT (H.lk 2 0 0 [1]) (fun w H => H.lk 1 0 0 []) fun hS => ?_
    refine zS 4 [] rfl rfl rfl rfl hf hS (fun w H => rq_loadIN hf H TF.la80 0 0 rfl rfl rfl rfl) fun a hf => ?_
    refine zp 5 hf hS fun a hf => ?_
    refine strT (H.lk 3 0 0 [1]) (fun w H => H.lk 2 0 0 [0]) fun hS => ?_
    refine zS 6 [] rfl rfl rfl rfl hf hS (fun w H => rq_loadB hf H TF.ls51 0 rfl rfl rfl) fun a hf => ?_
    refine zp 7 hf hS fun a hf => ?_
    obtain ⟨e2, he2, hR1⟩ := bs_ hR1
    obtain ⟨p2, o2, cs2, hx2, hr2, H⟩ := pre_iaddr H Tryz.underlying51 TF.sz80 2 rfl he2
    refine zP 8 rfl rfl rfl rfl hf hS (fun w => rq_iaddrE hf rfl rfl rfl hx2 w) fun a hf => ?_
    obtain ⟨A8, c9, rfl, hl8⟩ := Light_cells hr2
    have H := H.pF hl8
    refine strT (H.lk 3 0 0 [1,3]) (fun w H => H.lk 3 0 0 [1]) fun hS => ?_
    refine zS 9 [] rfl rfl rfl rfl hf hS (fun w H => rq_loadIN hf H TF.la80 0 0 rfl rfl rfl rfl) fun a hf => ?_
    obtain ⟨y2, hy2, hR1⟩ := bs_ hR1
    refine nn 10 rfl (oC hf TF.cl48 (laws_vLights_ok (S := TT) (Light_mkv (x := e) (H.rt 2 rfl)) (Light_mkv (x := e2) (H.rt 0 rfl)) hy2) fun v2 w a hp2 hf => ?_)
    obtain ⟨hb2, hp2⟩ := hp2
    obtain rfl := VR_bool hp2
    have H := H.keep hb2
    have hS := H.lk 3 0 0 [1,3]
    refine aS hS ?_
    refine zp 11 hf hS fun a hf => ?_
    refine dk ?_
    have hf := hf.pn [2, 3, 5, 39]
    refine then_n (ib hR1 hf (fun hc4 hR1 => ?_) fun hc4 hR1 => ?_)
    ·refine sqz (pz 1 hf fun a hf => ?_)
     refine wl_end (then_n (wp_ret (blk_r (then_r (then_r (blk_r (then_r (then_r (?_)))))))))
     obtain rfl := oi hR1
     replace hF := on_ret hF
     obtain rfl := oi hF
     refine rT hf ?_
     exact ⟨_, rfl, H.bel, mk_bool⟩
    ·refine wp_skip (blk_n (then_n (reg (pz 3 hf fun a hf => ?_))))
     refine wl_end ?_
     have hf := hf.pn [2, 3, 5]
     have H := H.lm 3 0 0 10 1008
     exact then_n ⟨w64 (i + 1), hR1, hf, H⟩
   ·refine wp_exit (then_x (then_x (blk_e (?_))))
    have hf := hf.pn [2, 3, 5]
    have H := H.lm 3 0 0 6 63
    exact ⟨i, (Option.some.inj hR1).symm, hf, H⟩
  rintro a w ⟨i2, rfl, hf, H⟩
  replace hF := on_next hF
  refine then_n (sqz (pz 1 hf fun a hf => ?_))
  refine wer ?_
  obtain rfl := oi hF
  refine rT hf ?_
  exact ⟨_, rfl, H.bel, mk_bool⟩
theorem spec_l1Num_B_ok {fu : Nat} {rec_ : (Int) → Option (ByteArray)} (ih : ∀ {w0 : World} {S : Nat → Prop} {v0_ : Value} {n' : Int} {r : ByteArray} (h0 : VR w0 S v0_ n') (hF : rec_ n' = some r), Calls Tryz.prog 120 [v0_].toArray w0 fun e w' => ∃ v, e = .returned v ∧ (Below w0.heap.size w0 w' ∧ VR w' (St ⟨w0, []⟩ S [] [] [] true) v r)) {w0 : World} {S : Nat → Prop} {v0_ : Value} {n' : Int} {r : ByteArray} (h0 : VR w0 S v0_ n') (hF : spec_l1Num_B fu rec_ n' = some r) :
    Calls Tryz.prog 120 [v0_].toArray w0 fun e w' => ∃ v, e = .returned v ∧ (Below w0.heap.size w0 w' ∧ VR w' (St ⟨w0, []⟩ S [] [] [] true) v r) := by
 obtain rfl := VR_int h0
 have H := Mem.start ⟨w0, []⟩ S
 refine en Tryz.func120 fun a hf => ?_
 rw [spec_l1Num_B] at hF
 refine sqz (pz 1 hf fun a hf => ?_)
 refine we (sqz (pz 2 hf fun a hf => ?_))
 refine wl_end (then_n (ib hF hf (fun hc hF => ?_) fun hc hF => ?_))
 ·refine sqz (pz 2 hf fun a hf => ?_)
  obtain ⟨y, hy, hF⟩ := bs_ hF
  refine oc hf TF.cl120 (ih (S := TT) mk_int hy) fun v w a hp hf => ?_
  obtain ⟨hb, hp⟩ := hp
  obtain rfl := VR_str hp
  have H := H.keep hb
  obtain ⟨s', hs', hF⟩ := bs_ hF
  refine oq hf (rq_scat hf rfl rfl hs') fun a hf => ?_
  refine pz 1 hf fun a hf => ?_
  refine wl_end (then_n (wp_ret (then_r (?_))))
  obtain rfl := oi hF
  refine rT hf ?_
  exact ⟨_, rfl, H.bel, mk_str⟩
 ·refine wp_skip (then_n (sq (sqz (pz 2 hf fun a hf => ?_))))
  refine wl_end (then_n (ib hF hf (fun hc2 hF => ?_) fun hc2 hF => ?_))
  ·refine sqz (pz 3 hf fun a hf => ?_)
   obtain ⟨s2, hs2, hF⟩ := bs_ hF
   refine oq hf (rq_ssub hf Tryz.underlying9 rfl rfl rfl (.inr rfl) (.inr rfl) hs2) fun a hf => ?_
   refine pz 1 hf fun a hf => ?_
   refine wl_end (then_n (wp_ret (then_r (?_))))
   obtain rfl := oi hF
   refine rT hf ?_
   exact ⟨_, rfl, H.bel, mk_str⟩
  ·refine wp_skip (then_n (sq (dw [] 11 fun w hb => ?_)))
   have H := H.keep hb
   refine zp 0 hf trivial fun a hf => ?_
   obtain ⟨q, hq, hF⟩ := bs_ hF
   refine tP 1 rfl rfl rfl rfl hf (by kernel_rfl) (fun _ => trivial) (fun w => rq_quo hf rfl rfl hq) fun a hf => ?_
   refine zp 3 hf trivial fun a hf => ?_
   obtain ⟨q2, hq2, hF⟩ := bs_ hF
   refine tP 4 rfl rfl rfl rfl hf (by kernel_rfl) (fun _ => trivial) (fun w => rq_rem hf rfl rfl hq2) fun a hf => ?_
   refine zp 5 hf trivial fun a hf => ?_
   obtain ⟨q3, hq3, hF⟩ := bs_ hF
   refine tP 6 rfl rfl rfl rfl hf (by kernel_rfl) (fun _ => trivial) (fun w => rq_rem hf rfl rfl hq3) fun a hf => ?_
   refine zp 7 hf trivial fun a hf => ?_
   obtain ⟨s3, hs3, hF⟩ := bs_ hF
   refine tP 8 rfl rfl rfl rfl hf (by kernel_rfl) (fun _ => trivial) (fun w => rq_ssub hf Tryz.underlying9 rfl rfl rfl (.inr rfl) (.inr rfl) hs3) fun a hf => ?_
   obtain ⟨y2, hy2, hF⟩ := bs_ hF
   refine nn 2 rfl (oC hf TF.cl120 (ih (S := TT) mk_int hy2) fun v2 w a hp2 hf => ?_)
   obtain ⟨hb2, hp2⟩ := hp2
   obtain rfl := VR_str hp2
   have H := H.keep hb2
   refine ⟨fun _ => trivial, ?_⟩
   obtain ⟨s4, hs4, hF⟩ := bs_ hF
   refine tP 9 rfl rfl rfl rfl hf (by kernel_rfl) (fun _ => trivial) (fun w => rq_scat hf rfl rfl hs4) fun a hf => ?_
   refine zp 10 hf trivial fun a hf => ?_
   refine dk ?_
   have hf := hf.pn [2]
   refine then_n (wp_ret (?_))
   obtain rfl := oi hF
   refine rT hf ?_
   exact ⟨_, rfl, H.bel, mk_str⟩
theorem spec_l1Num_ok {fu : Nat} : ∀ {w0 : World} {S : Nat → Prop} {v0_ : Value} {n' : Int} {r : ByteArray} (h0 : VR w0 S v0_ n') (hF : spec_l1Num fu n' = some r), Calls Tryz.prog 120 [v0_].toArray w0 fun e w' => ∃ v, e = .returned v ∧ (Below w0.heap.size w0 w' ∧ VR w' (St ⟨w0, []⟩ S [] [] [] true) v r) := by
  induction fu with
  | zero => intro w0 S v0_ n' r h0 hF; rw [spec_l1Num] at hF; cases hF
  | succ fu ih => intro w0 S v0_ n' r h0 hF; rw [spec_l1Num] at hF; exact spec_l1Num_B_ok (rec_ := fun n' => spec_l1Num fu n') (fun h0 hF => ih h0 hF) h0 hF
theorem spec_l3Network_ok {S : Nat → Prop} {v0_ : Value} {n' : Network} {r : ByteArray} (h0 : VR w0 S v0_ n') (hF : spec_l3Network fu n' = some r) :
    Calls Tryz.prog 85 [v0_].toArray w0 fun e w' => ∃ v, e = .returned v ∧ (Below w0.heap.size w0 w' ∧ VR w' (St ⟨w0, []⟩ S [] [] [] true) v r) := by
 obtain ⟨A, c, A2, c2, rfl, hl, hl2⟩ := Network_open h0
 have H := Mem.start ⟨w0, []⟩ S
 have H := H.pA hl
 have H := H.pA hl2
 refine en Tryz.func85 fun a hf => ?_
 rw [spec_l3Network] at hF
 refine bx hf H fun b' a w hf H => ?_
 refine pz 1 hf fun a hf => ?_
 refine wr (pz 1 hf fun a hf => ?_)
 refine we (sqz (pz 1 hf fun a hf => ?_))
 refine wl_end (then_n ?_)
 obtain ⟨out', hB1, hF⟩ := bs_ hF
 have hf := hf.pn [1, 3, 4]
 have H := H.lk 1 0 0 [0,1]
 refine loopC (fun (s : ByteArray × Int) (a : Act) (w : World) => match s with | (s', i) => Fr a 70 [(1, (.pointer (some ⟨b', 0, none⟩))), (3, (.string s')), (4, (.int .i64 i))] ∧ Mem ⟨w0, []⟩ S [⟨b', 27, [(.slice A n'.Nodes.length c), (.slice A2 n'.Fibers.length c2)]⟩] [] [] [(false, MP.val [(.slice A2 n'.Fibers.length c2)] (n'.Fibers : List Fiber)), (false, MP.val [(.slice A n'.Nodes.length c)] (n'.Nodes : List ByteArray))] w) (fun k (s : ByteArray × Int) => spec_l3Network_L1 fu n' k s.1 s.2 = some out') (fun s => out' = s) ((⟨#[110, 111, 100, 101, 115]⟩ : ByteArray), 0) fu hB1 ⟨hf, H⟩ (fun s h => by cases h) ?_ ?_
 ·rintro fk ⟨s', i⟩ a w hR1 hI
  replace hR1 : spec_l3Network_L1 fu n' (fk + 1) s' i = some out' := hR1
  rw [spec_l3Network_L1] at hR1
  obtain ⟨hf, H⟩ := hI
  refine sq (sqz (pz 2 hf fun a hf => ?_))
  refine lB 0 hf H TF.ls24 fun a hf => ?_
  refine pz 2 hf fun a hf => ?_
  refine wl_end (then_n (ib hR1 hf (fun hc hR1 => ?_) fun hc hR1 => ?_))
  ·refine wp_skip (then_n (sq (wp_block (reg (pz 1 hf fun a hf => ?_)))))
   obtain ⟨s2, hs2, hR1⟩ := bs_ hR1
   refine oq hf (rq_scat hf rfl rfl hs2) fun a hf => ?_
   refine pz 1 hf fun a hf => ?_
   refine lB 0 hf H TF.ls24 fun a hf => ?_
   refine pz 1 hf fun a hf => ?_
   obtain ⟨e, he, hR1⟩ := bs_ hR1
   refine wl0 rfl (op_iaddr hf H Tryz.underlying24 TF.sz9 1 rfl rfl rfl he (by decide) fun p o cs a hf hr H => ?_)
   obtain rfl := hr
   refine oq hf (rq_loadI hf H TF.ls9 0 0 rfl rfl rfl) fun a hf => ?_
   obtain ⟨s3, hs3, hR1⟩ := bs_ hR1
   refine oq hf (rq_scat hf rfl rfl hs3) fun a hf => ?_
   refine pz 1 hf fun a hf => ?_
   have hf := hf.pn [1, 3, 4]
   refine wl_end (blk_n (then_n (reg (pz 3 hf fun a hf => ?_))))
   refine wl_end ?_
   have hf := hf.pn [1, 3, 4]
   have H := H.lk 1 0 0 [1,2]
   exact then_n ⟨(s3, w64 (i + 1)), hR1, hf, H⟩
  ·refine wp_exit (then_x (then_x (blk_e (?_))))
   have hf := hf.pn [1, 3, 4]
   have H := H.lk 1 0 0 [0,1]
   exact ⟨(s', i), (Option.some.inj hR1).symm, hf, H⟩
 rintro a w ⟨⟨s4, i2⟩, rfl, hf, H⟩
 try dsimp only at hF
 refine then_n (sqz (pz 1 hf fun a hf => ?_))
 obtain ⟨s5, hs5, hF⟩ := bs_ hF
 refine oq hf (rq_scat hf rfl rfl hs5) fun a hf => ?_
 refine pz 1 hf fun a hf => ?_
 refine we (sqz (pz 1 hf fun a hf => ?_))
 refine wl_end (then_n ?_)
 obtain ⟨out2, hB1, hF⟩ := bs_ hF
 have hf := hf.pn [1, 3, 5]
 have H := H.lk 1 0 0 [0,1]
 refine loopC (fun (s : ByteArray × Int) (a : Act) (w : World) => match s with | (s6, i3) => Fr a 70 [(1, (.pointer (some ⟨b', 0, none⟩))), (3, (.string s6)), (5, (.int .i64 i3))] ∧ Mem ⟨w0, []⟩ S [⟨b', 27, [(.slice A n'.Nodes.length c), (.slice A2 n'.Fibers.length c2)]⟩] [] [] [(false, MP.val [(.slice A2 n'.Fibers.length c2)] (n'.Fibers : List Fiber)), (false, MP.val [(.slice A n'.Nodes.length c)] (n'.Nodes : List ByteArray))] w) (fun k (s : ByteArray × Int) => spec_l3Network_L2 fu n' k s.1 s.2 = some out2) (fun s => out2 = s) (s5, 0) fu hB1 ⟨hf, H⟩ (fun s h => by cases h) ?_ ?_
 ·rintro fk ⟨s6, i3⟩ a w hR1 hI
  replace hR1 : spec_l3Network_L2 fu n' (fk + 1) s6 i3 = some out2 := hR1
  rw [spec_l3Network_L2] at hR1
  obtain ⟨hf, H⟩ := hI
  refine sq (sqz (pz 2 hf fun a hf => ?_))
  refine lB 0 hf H TF.ls25 fun a hf => ?_
  refine pz 2 hf fun a hf => ?_
  refine wl_end (then_n (ib hR1 hf (fun hc2 hR1 => ?_) fun hc2 hR1 => ?_))
  ·refine ws (pz 1 hf fun a hf => ?_)
   refine lB 0 hf H TF.ls25 fun a hf => ?_
   refine pz 1 hf fun a hf => ?_
   obtain ⟨e2, he2, hR1⟩ := bs_ hR1
   refine wl0 rfl (op_iaddr hf H Tryz.underlying25 TF.sz63 0 rfl rfl rfl he2 (by decide) fun p2 o2 cs2 a hf hr2 H => ?_)
   obtain rfl := Fiber_cells hr2
   refine oq hf (rq_loadIN hf H TF.la63 0 0 rfl rfl rfl rfl) fun a hf => ?_
   refine aL hf H TF.zv63 fun b2 a w hf H => ?_
   refine sB 0 hf H TF.sz63 fun w H => ?_
   refine wl_end (then_n (sq (dw [] 23 fun w hb => ?_)))
   have H := H.keep hb
   refine zp 0 hf trivial fun a hf => ?_
   obtain ⟨s7, hs7, hR1⟩ := bs_ hR1
   refine tP 1 rfl rfl rfl rfl hf (by kernel_rfl) (fun _ => trivial) (fun w => rq_scat hf rfl rfl hs7) fun a hf => ?_
   refine zp 2 hf trivial fun a hf => ?_
   refine strT (H.lk 2 0 0 []) (fun w H => trivial) fun hS => ?_
   refine zS 3 [] rfl rfl rfl rfl hf hS (fun w H => rq_loadB hf H TF.ls24 0 rfl rfl rfl) fun a hf => ?_
   refine zp 4 hf hS fun a hf => ?_
   refine strT (H.lk 3 0 0 []) (fun w H => H.lk 2 0 0 []) fun hS => ?_
   refine zS 5 [] rfl rfl rfl rfl hf hS (fun w H => rq_loadB hf H TF.ls3 0 rfl rfl rfl) fun a hf => ?_
   obtain ⟨e3, he3, hR1⟩ := bs_ hR1
   obtain ⟨p3, o3, cs3, hx, hr3, H⟩ := pre_iaddr H Tryz.underlying24 TF.sz9 2 rfl he3
   refine zP 6 rfl rfl rfl rfl hf hS (fun w => rq_iaddrE hf rfl rfl rfl hx w) fun a hf => ?_
   obtain rfl := hr3
   refine strT (H.lk 3 0 0 [0]) (fun w H => H.lk 3 0 0 []) fun hS => ?_
   refine zS 7 [] rfl rfl rfl rfl hf hS (fun w H => rq_loadI hf H TF.ls9 0 0 rfl rfl rfl) fun a hf => ?_
   obtain ⟨s8, hs8, hR1⟩ := bs_ hR1
   refine zP 8 rfl rfl rfl rfl hf hS (fun w => rq_scat hf rfl rfl hs8) fun a hf => ?_
   obtain ⟨s9, hs9, hR1⟩ := bs_ hR1
   refine zP 9 rfl rfl rfl rfl hf hS (fun w => rq_scat hf rfl rfl hs9) fun a hf => ?_
   refine zp 10 hf hS fun a hf => ?_
   refine zS 11 [] rfl rfl rfl rfl hf hS (fun w H => rq_loadB hf H TF.ls24 1 rfl rfl rfl) fun a hf => ?_
   refine zp 12 hf hS fun a hf => ?_
   refine zS 13 [] rfl rfl rfl rfl hf hS (fun w H => rq_loadB hf H TF.ls3 0 rfl rfl rfl) fun a hf => ?_
   obtain ⟨e4, he4, hR1⟩ := bs_ hR1
   obtain ⟨p4, o4, cs4, hx2, hr4, H⟩ := pre_iaddr H Tryz.underlying24 TF.sz9 3 rfl he4
   refine zP 14 rfl rfl rfl rfl hf hS (fun w => rq_iaddrE hf rfl rfl rfl hx2 w) fun a hf => ?_
   obtain rfl := hr4
   refine strT (H.lk 3 0 0 [0,1]) (fun w H => H.lk 3 0 0 [1]) fun hS => ?_
   refine zS 15 [] rfl rfl rfl rfl hf hS (fun w H => rq_loadI hf H TF.ls9 0 0 rfl rfl rfl) fun a hf => ?_
   obtain ⟨s10, hs10, hR1⟩ := bs_ hR1
   refine zP 16 rfl rfl rfl rfl hf hS (fun w => rq_scat hf rfl rfl hs10) fun a hf => ?_
   obtain ⟨s11, hs11, hR1⟩ := bs_ hR1
   refine zP 17 rfl rfl rfl rfl hf hS (fun w => rq_scat hf rfl rfl hs11) fun a hf => ?_
   refine zp 18 hf hS fun a hf => ?_
   refine zS 19 [] rfl rfl rfl rfl hf hS (fun w H => rq_loadB hf H TF.ls3 0 rfl rfl rfl) fun a hf => ?_
   obtain ⟨y, hy, hR1⟩ := bs_ hR1
   refine nn 20 rfl (oC hf TF.cl120 (spec_l1Num_ok (S := TT) mk_int hy) fun v w a hp hf => ?_)
   obtain ⟨hb, hp⟩ := hp
   obtain rfl := VR_str hp
   have H := H.keep hb
   have hS := H.lk 3 0 0 [0,1]
   refine aS hS ?_
   obtain ⟨s12, hs12, hR1⟩ := bs_ hR1
   refine zP 21 rfl rfl rfl rfl hf hS (fun w => rq_scat hf rfl rfl hs12) fun a hf => ?_
   refine zp 22 hf hS fun a hf => ?_
   refine dk ?_
   have hf := hf.pn [1, 3, 5, 6]
   refine then_n (sq (sqz (pz 1 hf fun a hf => ?_)))
   refine lB 0 hf H TF.ls3 fun a hf => ?_
   refine pz 1 hf fun a hf => ?_
   refine wl_end (then_n (ib hR1 hf (fun hc3 hR1 => ?_) fun hc3 hR1 => ?_))
   ·refine reg (pz 1 hf fun a hf => ?_)
    obtain ⟨s13, hs13, hR1⟩ := bs_ hR1
    refine oq hf (rq_scat hf rfl rfl hs13) fun a hf => ?_
    refine pz 1 hf fun a hf => ?_
    refine lB 0 hf H TF.ls3 fun a hf => ?_
    obtain ⟨y2, hy2, hR1⟩ := bs_ hR1
    refine oc hf TF.cl120 (spec_l1Num_ok (S := TT) mk_int hy2) fun v2 w a hp2 hf => ?_
    obtain ⟨hb2, hp2⟩ := hp2
    obtain rfl := VR_str hp2
    have H := H.keep hb2
    obtain ⟨s14, hs14, hR1⟩ := bs_ hR1
    refine oq hf (rq_scat hf rfl rfl hs14) fun a hf => ?_
    refine pz 1 hf fun a hf => ?_
    refine wl_end (then_n (reg (pz 1 hf fun a hf => ?_)))
    obtain ⟨s15, hs15, hR1⟩ := bs_ hR1
    refine oq hf (rq_scat hf rfl rfl hs15) fun a hf => ?_
    refine pz 1 hf fun a hf => ?_
    refine wl_end (blk_n (then_n (reg (pz 3 hf fun a hf => ?_))))
    have hf := hf.pn [1, 3, 5]
    refine wl_end ?_
    have hf := hf.pn [1, 3, 5]
    have H := H.lk 2 0 0 [3,4]
    exact then_n ⟨(s15, w64 (i3 + 1)), hR1, hf, H⟩
   ·refine wp_skip (then_n (reg (pz 1 hf fun a hf => ?_)))
    obtain ⟨s16, hs16, hR1⟩ := bs_ hR1
    refine oq hf (rq_scat hf rfl rfl hs16) fun a hf => ?_
    refine pz 1 hf fun a hf => ?_
    refine wl_end (blk_n (then_n (reg (pz 3 hf fun a hf => ?_))))
    refine wl_end ?_
    have hf := hf.pn [1, 3, 5]
    have H := H.lk 2 0 0 [3,4]
    exact then_n ⟨(s16, w64 (i3 + 1)), hR1, hf, H⟩
  ·refine wp_exit (then_x (then_x (blk_e (?_))))
   have hf := hf.pn [1, 3, 5]
   have H := H.lk 1 0 0 [0,1]
   exact ⟨(s6, i3), (Option.some.inj hR1).symm, hf, H⟩
 rintro a w ⟨⟨s17, i4⟩, rfl, hf, H⟩
 try dsimp only at hF
 refine then_n (sqz (pz 2 hf fun a hf => ?_))
 refine wer ?_
 obtain rfl := oi hF
 refine rT hf ?_
 exact ⟨_, rfl, H.bel, mk_str⟩
theorem spec_l4Nodes_ok {S : Nat → Prop} {v0_ : Value} {v1_ : Value} {n' : Network} {r' : Route} {r : List Int} (h0 : VR w0 S v0_ n') (h1 : VR w0 S v1_ r') (hF : spec_l4Nodes fu n' r' = some r) :
    Calls Tryz.prog 151 [v0_, v1_].toArray w0 fun e w' => ∃ v, e = .returned v ∧ (Below w0.heap.size w0 w' ∧ ∃ F0, VO w' F0 v r ∧ New w0 w' F0) := by
 obtain ⟨A, c, A2, c2, rfl, hl, hl2⟩ := Network_open h0
 obtain ⟨A3, c3, rfl, hl3⟩ := Route_open h1
 have H := Mem.start ⟨w0, []⟩ S
 have H := H.pA hl
 have H := H.pA hl2
 have H := H.pA hl3
 refine en Tryz.func151 fun a hf => ?_
 rw [spec_l4Nodes] at hF
 refine bx hf H fun b' a w hf H => ?_
 refine wl0 rfl (op_box hf H rfl rfl (by decide) fun b2 a w hf H => ?_)
 refine pz 1 hf fun a hf => ?_
 refine wr (lN 1 hf H TF.la27 fun a hf => ?_)
 refine lN 0 hf H TF.la30 fun a hf => ?_
 obtain ⟨y, hy, hF⟩ := bs_ hF
 refine oc hf TF.cl74 (spec_l4Walk_ok (S := TT) (Network_mkv (x := n') (H.rt 2 rfl) (H.rt 1 rfl)) (Route_mkv (x := r') (H.rt 0 rfl)) hy) fun v w a hp hf => ?_
 obtain ⟨hb, F, v2, v3, rfl, hp2, hp3, hN⟩ := hp
 obtain ⟨A4, c4, rfl, hl4⟩ := VO_list hp2
 obtain rfl := VR_bool hp3
 have H := H.aO1 hb hN hl4
 have H := H.lend 0 rfl
 refine pz 5 hf fun a hf => ?_
 refine wr (pz 2 hf fun a hf => ?_)
 have hf := hf.pn [4]
 refine wer ?_
 obtain rfl := oi hF
 refine rT hf ?_
 have hN := H.ends1
 exact ⟨_, rfl, H.bel, F, (mko_list (H.ownAt 0 rfl)), by first | exact hN | simpa using hN⟩
theorem spec_l3Route_ok {S : Nat → Prop} {v0_ : Value} {v1_ : Value} {n' : Network} {r' : Route} {r : ByteArray} (h0 : VR w0 S v0_ n') (h1 : VR w0 S v1_ r') (hF : spec_l3Route fu n' r' = some r) :
    Calls Tryz.prog 121 [v0_, v1_].toArray w0 fun e w' => ∃ v, e = .returned v ∧ (Below w0.heap.size w0 w' ∧ VR w' (St ⟨w0, []⟩ S [] [] [] true) v r) := by
 obtain ⟨A, c, A2, c2, rfl, hl, hl2⟩ := Network_open h0
 obtain ⟨A3, c3, rfl, hl3⟩ := Route_open h1
 have H := Mem.start ⟨w0, []⟩ S
 have H := H.pA hl
 have H := H.pA hl2
 have H := H.pA hl3
 refine en Tryz.func121 fun a hf => ?_
 rw [spec_l3Route] at hF
 refine bx hf H fun b' a w hf H => ?_
 refine wl0 rfl (op_box hf H rfl rfl (by decide) fun b2 a w hf H => ?_)
 refine pz 1 hf fun a hf => ?_
 refine wr (lN 1 hf H TF.la27 fun a hf => ?_)
 refine lN 0 hf H TF.la30 fun a hf => ?_
 obtain ⟨y, hy, hF⟩ := bs_ hF
 refine oc hf TF.cl151 (spec_l4Nodes_ok (S := TT) (Network_mkv (x := n') (H.rt 2 rfl) (H.rt 1 rfl)) (Route_mkv (x := r') (H.rt 0 rfl)) hy) fun v w a hp hf => ?_
 obtain ⟨hb, F, hp2, hN⟩ := hp
 obtain ⟨A4, c4, rfl, hl4⟩ := VO_list hp2
 have H := H.aO1 hb hN hl4
 have H := H.lend 0 rfl
 refine pz 1 hf fun a hf => ?_
 refine wr (pz 1 hf fun a hf => ?_)
 refine lB 1 hf H TF.ls24 fun a hf => ?_
 refine pz 1 hf fun a hf => ?_
 refine lB 0 hf H TF.ls3 fun a hf => ?_
 obtain ⟨e, he, hF⟩ := bs_ hF
 refine wl0 rfl (op_iaddr hf H Tryz.underlying24 TF.sz9 3 rfl rfl rfl he (by decide) fun p o cs a hf hr H => ?_)
 obtain rfl := hr
 refine oq hf (rq_loadI hf H TF.ls9 0 0 rfl rfl rfl) fun a hf => ?_
 refine pz 1 hf fun a hf => ?_
 refine we (sqz (pz 1 hf fun a hf => ?_))
 refine wl_end (then_n ?_)
 obtain ⟨out', hB1, hF⟩ := bs_ hF
 have hf := hf.pn [2, 3, 5, 6, 7]
 have H := H.lm 3 0 1 5 30
 refine loopC (fun (s : ByteArray × Int) (a : Act) (w : World) => match s with | (s', i) => Fr a 45 [(2, (.pointer (some ⟨b', 0, none⟩))), (3, (.pointer (some ⟨b2, 0, none⟩))), (5, (.slice A4 y.length c4)), (6, (.string s')), (7, (.int .i64 i))] ∧ Mem ⟨w0, []⟩ S [⟨b2, 30, [(.int .i64 r'.Start), (.slice A3 r'.Fibers.length c3)]⟩, ⟨b', 27, [(.slice A n'.Nodes.length c), (.slice A2 n'.Fibers.length c2)]⟩] [] [⟨F, MP.own F [(.slice A4 y.length c4)] (y : List Int)⟩] [(true, MP.val [(.slice A4 y.length c4)] (y : List Int)), (false, MP.val [(.slice A3 r'.Fibers.length c3)] (r'.Fibers : List Int)), (false, MP.val [(.slice A2 n'.Fibers.length c2)] (n'.Fibers : List Fiber)), (false, MP.val [(.slice A n'.Nodes.length c)] (n'.Nodes : List ByteArray))] w) (fun k (s : ByteArray × Int) => spec_l3Route_L1 fu n' r' y k s.1 s.2 = some out') (fun s => out' = s) (e, 0) fu hB1 ⟨hf, H⟩ (fun s h => by cases h) ?_ ?_
 ·rintro fk ⟨s', i⟩ a w hR1 hI
  replace hR1 : spec_l3Route_L1 fu n' r' y (fk + 1) s' i = some out' := hR1
  rw [spec_l3Route_L1] at hR1
  obtain ⟨hf, H⟩ := hI
  refine sq (sqz (pz 2 hf fun a hf => ?_))
  refine lB 0 hf H TF.ls28 fun a hf => ?_
  refine pz 2 hf fun a hf => ?_
  refine wl_end (then_n (ib hR1 hf (fun hc hR1 => ?_) fun hc hR1 => ?_))
  ·refine wp_skip (then_n (sq (wp_block (dw [] 21 fun w hb => ?_))))
   have H := H.keep hb
   refine zp 0 hf trivial fun a hf => ?_
   obtain ⟨s2, hs2, hR1⟩ := bs_ hR1
   refine tP 1 rfl rfl rfl rfl hf (by kernel_rfl) (fun _ => trivial) (fun w => rq_scat hf rfl rfl hs2) fun a hf => ?_
   refine zp 2 hf trivial fun a hf => ?_
   refine strT (H.lk 1 0 0 []) (fun w H => trivial) fun hS => ?_
   refine zS 3 [] rfl rfl rfl rfl hf hS (fun w H => rq_loadB hf H TF.ls28 0 rfl rfl rfl) fun a hf => ?_
   refine zp 4 hf hS fun a hf => ?_
   obtain ⟨e2, he2, hR1⟩ := bs_ hR1
   obtain ⟨p2, o2, cs2, hx, hr2, H⟩ := pre_iaddr H Tryz.underlying28 TF.sz3 1 rfl he2
   refine zP 5 rfl rfl rfl rfl hf hS (fun w => rq_iaddrE hf rfl rfl rfl hx w) fun a hf => ?_
   obtain rfl := hr2
   refine strT (H.lk 1 0 0 [0]) (fun w H => H.lk 1 0 0 []) fun hS => ?_
   refine zS 6 [] rfl rfl rfl rfl hf hS (fun w H => rq_loadI hf H TF.ls3 0 0 rfl rfl rfl) fun a hf => ?_
   refine zp 10 hf hS fun a hf => ?_
   refine strT (H.lk 3 0 0 [0]) (fun w H => H.lk 1 0 0 [0]) fun hS => ?_
   refine zS 11 [] rfl rfl rfl rfl hf hS (fun w H => rq_loadB hf H TF.ls24 1 rfl rfl rfl) fun a hf => ?_
   refine zp 12 hf hS fun a hf => ?_
   refine zp 13 hf hS fun a hf => ?_
   refine zp 14 hf hS fun a hf => ?_
   obtain ⟨e3, he3, hR1⟩ := bs_ hR1
   obtain ⟨p3, o3, cs3, hx2, hr3, H⟩ := pre_iaddr H Tryz.underlying28 TF.sz3 1 rfl he3
   refine zP 15 rfl rfl rfl rfl hf hS (fun w => rq_iaddrE hf rfl rfl rfl hx2 w) fun a hf => ?_
   obtain rfl := hr3
   refine strT (H.lk 3 0 0 [0,1]) (fun w H => H.lk 3 0 0 [1]) fun hS => ?_
   refine zS 16 [] rfl rfl rfl rfl hf hS (fun w H => rq_loadI hf H TF.ls3 0 0 rfl rfl rfl) fun a hf => ?_
   obtain ⟨e4, he4, hR1⟩ := bs_ hR1
   obtain ⟨p4, o4, cs4, hx3, hr4, H⟩ := pre_iaddr H Tryz.underlying24 TF.sz9 5 rfl he4
   refine zP 17 rfl rfl rfl rfl hf hS (fun w => rq_iaddrE hf rfl rfl rfl hx3 w) fun a hf => ?_
   obtain rfl := hr4
   refine strT (H.lm 3 0 0 3 7) (fun w H => H.lk 3 0 0 [1,2]) fun hS => ?_
   refine zS 18 [] rfl rfl rfl rfl hf hS (fun w H => rq_loadI hf H TF.ls9 0 0 rfl rfl rfl) fun a hf => ?_
   obtain ⟨y2, hy2, hR1⟩ := bs_ hR1
   refine nn 7 rfl (oC hf TF.cl120 (spec_l1Num_ok (S := TT) mk_int hy2) fun v2 w a hp3 hf => ?_)
   obtain ⟨hb2, hp3⟩ := hp3
   obtain rfl := VR_str hp3
   have H := H.keep hb2
   have hS := H.lm 3 0 0 3 7
   refine aS hS ?_
   obtain ⟨s3, hs3, hR1⟩ := bs_ hR1
   refine zP 8 rfl rfl rfl rfl hf hS (fun w => rq_scat hf rfl rfl hs3) fun a hf => ?_
   obtain ⟨s4, hs4, hR1⟩ := bs_ hR1
   refine zP 9 rfl rfl rfl rfl hf hS (fun w => rq_scat hf rfl rfl hs4) fun a hf => ?_
   obtain ⟨s5, hs5, hR1⟩ := bs_ hR1
   refine zP 19 rfl rfl rfl rfl hf hS (fun w => rq_scat hf rfl rfl hs5) fun a hf => ?_
   refine zp 20 hf hS fun a hf => ?_
   refine dk ?_
   have hf := hf.pn [2, 3, 5, 6, 7]
   refine blk_n (then_n (reg (pz 3 hf fun a hf => ?_)))
   refine wl_end ?_
   have hf := hf.pn [2, 3, 5, 6, 7]
   have H := H.lm 3 0 1 7 120
   exact then_n ⟨(s5, w64 (i + 1)), hR1, hf, H⟩
  ·refine wp_exit (then_x (then_x (blk_e (?_))))
   have hf := hf.pn [2, 3, 5, 6, 7]
   have H := H.lm 3 0 1 4 15
   exact ⟨(s', i), (Option.some.inj hR1).symm, hf, H⟩
 rintro a w ⟨⟨s6, i2⟩, rfl, hf, H⟩
 try dsimp only at hF
 refine then_n (sqz (pz 2 hf fun a hf => ?_))
 refine wer ?_
 obtain rfl := oi hF
 refine rT hf ?_
 exact ⟨_, rfl, H.bel, mk_str⟩
theorem spec_l3Block_ok {S : Nat → Prop} {v0_ : Value} {b' : Block} {r : ByteArray} (h0 : VR w0 S v0_ b') (hF : spec_l3Block fu b' = some r) :
    Calls Tryz.prog 122 [v0_].toArray w0 fun e w' => ∃ v, e = .returned v ∧ (Below w0.heap.size w0 w' ∧ VR w' (St ⟨w0, []⟩ S [] [] [] true) v r) := by
 obtain rfl := Block_open h0
 have H := Mem.start ⟨w0, []⟩ S
 refine en Tryz.func122 fun a hf => ?_
 rw [spec_l3Block] at hF
 refine bx hf H fun b2 a w hf H => ?_
 refine pz 1 hf fun a hf => ?_
 refine wl_end (then_n (sq (dw [] 9 fun w hb => ?_)))
 have H := H.keep hb
 refine zp 0 hf trivial fun a hf => ?_
 refine strT H (fun w H => trivial) fun hS => ?_
 refine zS 1 [] rfl rfl rfl rfl hf hS (fun w H => rq_loadB hf H TF.ls3 0 rfl rfl rfl) fun a hf => ?_
 refine zp 4 hf hS fun a hf => ?_
 refine zS 5 [] rfl rfl rfl rfl hf hS (fun w H => rq_loadB hf H TF.ls3 0 rfl rfl rfl) fun a hf => ?_
 obtain ⟨y, hy, hF⟩ := bs_ hF
 refine nn 2 rfl (oC hf TF.cl120 (spec_l1Num_ok (S := TT) mk_int hy) fun v w a hp hf => ?_)
 obtain ⟨hb, hp⟩ := hp
 obtain rfl := VR_str hp
 have H := H.keep hb
 have hS := H
 refine aS hS ?_
 obtain ⟨s', hs', hF⟩ := bs_ hF
 refine zP 3 rfl rfl rfl rfl hf hS (fun w => rq_scat hf rfl rfl hs') fun a hf => ?_
 obtain ⟨y2, hy2, hF⟩ := bs_ hF
 refine nn 6 rfl (oC hf TF.cl120 (spec_l1Num_ok (S := TT) mk_int hy2) fun v2 w a hp2 hf => ?_)
 obtain ⟨hb2, hp2⟩ := hp2
 obtain rfl := VR_str hp2
 have H := H.keep hb2
 have hS := H
 refine aS hS ?_
 obtain ⟨s2, hs2, hF⟩ := bs_ hF
 refine zP 7 rfl rfl rfl rfl hf hS (fun w => rq_scat hf rfl rfl hs2) fun a hf => ?_
 refine zp 8 hf hS fun a hf => ?_
 refine dk ?_
 refine then_n (wp_ret (?_))
 obtain rfl := oi hF
 refine rT hf ?_
 exact ⟨_, rfl, H.bel, mk_str⟩
theorem spec_l3Light_ok {S : Nat → Prop} {v0_ : Value} {v1_ : Value} {n' : Network} {x1 : Light} {r : ByteArray} (h0 : VR w0 S v0_ n') (h1 : VR w0 S v1_ x1) (hF : spec_l3Light fu n' x1 = some r) :
    Calls Tryz.prog 86 [v0_, v1_].toArray w0 fun e w' => ∃ v, e = .returned v ∧ (Below w0.heap.size w0 w' ∧ VR w' (St ⟨w0, []⟩ S [] [] [] true) v r) := by
 obtain ⟨A, c, A2, c2, rfl, hl, hl2⟩ := Network_open h0
 obtain ⟨A3, c3, rfl, hl3⟩ := Light_open h1
 have H := Mem.start ⟨w0, []⟩ S
 have H := H.pA hl
 have H := H.pA hl2
 have H := H.pA hl3
 refine en Tryz.func86 fun a hf => ?_
 rw [spec_l3Light] at hF
 refine bx hf H fun b' a w hf H => ?_
 refine wl0 rfl (op_box hf H rfl rfl (by decide) fun b2 a w hf H => ?_)
 refine pz 1 hf fun a hf => ?_
 refine wl_end (then_n (sq (dw [] 15 fun w hb => ?_)))
 have H := H.keep hb
 refine zp 0 hf trivial fun a hf => ?_
 refine strT (H.lk 1 0 0 []) (fun w H => trivial) fun hS => ?_
 refine zS 1 [] rfl rfl rfl rfl hf hS (fun w H => rq_loadB hf H TF.ls3 0 rfl rfl rfl) fun a hf => ?_
 refine strT (H.lk 3 0 0 []) (fun w H => H.lk 1 0 0 []) fun hS => ?_
 refine zS 4 [] rfl rfl rfl rfl hf hS (fun w H => rq_loadBN hf H TF.la27 1 rfl rfl rfl rfl) fun a hf => ?_
 refine zp 5 hf hS fun a hf => ?_
 refine zS 6 [] rfl rfl rfl rfl hf hS (fun w H => rq_loadBN hf H TF.la30 0 rfl rfl rfl rfl) fun a hf => ?_
 refine zp 10 hf hS fun a hf => ?_
 refine zS 11 [] rfl rfl rfl rfl hf hS (fun w H => rq_loadBN hf H TF.la45 0 rfl rfl rfl rfl) fun a hf => ?_
 obtain ⟨y, hy, hF⟩ := bs_ hF
 refine nn 2 rfl (oC hf TF.cl120 (spec_l1Num_ok (S := TT) mk_int hy) fun v w a hp hf => ?_)
 obtain ⟨hb, hp⟩ := hp
 obtain rfl := VR_str hp
 have H := H.keep hb
 have hS := H.lk 3 0 0 []
 refine aS hS ?_
 obtain ⟨s', hs', hF⟩ := bs_ hF
 refine zP 3 rfl rfl rfl rfl hf hS (fun w => rq_scat hf rfl rfl hs') fun a hf => ?_
 obtain ⟨y2, hy2, hF⟩ := bs_ hF
 refine nn 7 rfl (oC hf TF.cl121 (spec_l3Route_ok (S := TT) (Network_mkv (x := n') (H.rt 2 rfl) (H.rt 1 rfl)) (Route_mkv (x := x1.Route) (H.rt 0 rfl)) hy2) fun v2 w a hp2 hf => ?_)
 obtain ⟨hb2, hp2⟩ := hp2
 obtain rfl := VR_str hp2
 have H := H.keep hb2
 have hS := H.lk 3 0 0 []
 refine aS hS ?_
 obtain ⟨s2, hs2, hF⟩ := bs_ hF
 refine zP 8 rfl rfl rfl rfl hf hS (fun w => rq_scat hf rfl rfl hs2) fun a hf => ?_
 obtain ⟨s3, hs3, hF⟩ := bs_ hF
 refine zP 9 rfl rfl rfl rfl hf hS (fun w => rq_scat hf rfl rfl hs3) fun a hf => ?_
 obtain ⟨y3, hy3, hF⟩ := bs_ hF
 refine nn 12 rfl (oC hf TF.cl122 (spec_l3Block_ok (S := TT) Block_mkv hy3) fun v3 w a hp3 hf => ?_)
 obtain ⟨hb3, hp3⟩ := hp3
 obtain rfl := VR_str hp3
 have H := H.keep hb3
 have hS := H.lk 3 0 0 []
 refine aS hS ?_
 obtain ⟨s4, hs4, hF⟩ := bs_ hF
 refine zP 13 rfl rfl rfl rfl hf hS (fun w => rq_scat hf rfl rfl hs4) fun a hf => ?_
 refine zp 14 hf hS fun a hf => ?_
 refine dk ?_
 have hf := hf.pn [4]
 refine then_n (wp_ret (?_))
 obtain rfl := oi hF
 refine rT hf ?_
 exact ⟨_, rfl, H.bel, mk_str⟩
theorem spec_l3Plan_ok {S : Nat → Prop} {v0_ : Value} {p : Plan} {r : ByteArray} (h0 : VR w0 S v0_ p) (hF : spec_l3Plan fu p = some r) :
    Calls Tryz.prog 49 [v0_].toArray w0 fun e w' => ∃ v, e = .returned v ∧ (Below w0.heap.size w0 w' ∧ VR w' (St ⟨w0, []⟩ S [] [] [] true) v r) := by
 obtain ⟨A, c, A2, c2, A3, c3, rfl, hl, hl2, hl3⟩ := Plan_open h0
 have H := Mem.start ⟨w0, []⟩ S
 have H := H.pA hl
 have H := H.pA hl2
 have H := H.pA hl3
 refine en Tryz.func49 fun a hf => ?_
 rw [spec_l3Plan] at hF
 refine bx hf H fun b' a w hf H => ?_
 refine pz 1 hf fun a hf => ?_
 refine wr (pz 1 hf fun a hf => ?_)
 refine lN 0 hf H TF.la27 fun a hf => ?_
 obtain ⟨y, hy, hF⟩ := bs_ hF
 refine oc hf TF.cl85 (spec_l3Network_ok (S := TT) (Network_mkv (x := p.Network) (H.rt 2 rfl) (H.rt 1 rfl)) hy) fun v w a hp hf => ?_
 obtain ⟨hb, hp⟩ := hp
 obtain rfl := VR_str hp
 have H := H.keep hb
 refine pz 1 hf fun a hf => ?_
 refine we (sqz (pz 1 hf fun a hf => ?_))
 refine wl_end (then_n ?_)
 obtain ⟨out', hB1, hF⟩ := bs_ hF
 have hf := hf.pn [1, 3, 4]
 have H := H.lm 1 0 0 3 7
 refine loopC (fun (s : ByteArray × Int) (a : Act) (w : World) => match s with | (s', i) => Fr a 28 [(1, (.pointer (some ⟨b', 0, none⟩))), (3, (.string s')), (4, (.int .i64 i))] ∧ Mem ⟨w0, []⟩ S [⟨b', 53, [(.slice A p.Network.Nodes.length c), (.slice A2 p.Network.Fibers.length c2), (.slice A3 p.Lights.length c3)]⟩] [] [] [(false, MP.val [(.slice A3 p.Lights.length c3)] (p.Lights : List Light)), (false, MP.val [(.slice A2 p.Network.Fibers.length c2)] (p.Network.Fibers : List Fiber)), (false, MP.val [(.slice A p.Network.Nodes.length c)] (p.Network.Nodes : List ByteArray))] w) (fun k (s : ByteArray × Int) => spec_l3Plan_L1 fu p k s.1 s.2 = some out') (fun s => out' = s) (y, 0) fu hB1 ⟨hf, H⟩ (fun s h => by cases h) ?_ ?_
 ·rintro fk ⟨s', i⟩ a w hR1 hI
  replace hR1 : spec_l3Plan_L1 fu p (fk + 1) s' i = some out' := hR1
  rw [spec_l3Plan_L1] at hR1
  obtain ⟨hf, H⟩ := hI
  refine sq (sqz (pz 2 hf fun a hf => ?_))
  refine lB 0 hf H TF.ls51 fun a hf => ?_
  refine pz 2 hf fun a hf => ?_
  refine wl_end (then_n (ib hR1 hf (fun hc hR1 => ?_) fun hc hR1 => ?_))
  ·refine wp_skip (then_n (sq (wp_block (dw [] 13 fun w hb => ?_))))
   have H := H.keep hb
   refine zp 0 hf trivial fun a hf => ?_
   obtain ⟨s2, hs2, hR1⟩ := bs_ hR1
   refine tP 1 rfl rfl rfl rfl hf (by kernel_rfl) (fun _ => trivial) (fun w => rq_scat hf rfl rfl hs2) fun a hf => ?_
   refine zp 2 hf trivial fun a hf => ?_
   refine strT (H.lk 1 0 0 []) (fun w H => trivial) fun hS => ?_
   refine zS 3 [] rfl rfl rfl rfl hf hS (fun w H => rq_loadBN hf H TF.la27 0 rfl rfl rfl rfl) fun a hf => ?_
   refine zp 4 hf hS fun a hf => ?_
   refine zS 5 [] rfl rfl rfl rfl hf hS (fun w H => rq_loadB hf H TF.ls51 0 rfl rfl rfl) fun a hf => ?_
   refine zp 6 hf hS fun a hf => ?_
   obtain ⟨e, he, hR1⟩ := bs_ hR1
   obtain ⟨p2, o, cs, hx, hr, H⟩ := pre_iaddr H Tryz.underlying51 TF.sz80 0 rfl he
   refine zP 7 rfl rfl rfl rfl hf hS (fun w => rq_iaddrE hf rfl rfl rfl hx w) fun a hf => ?_
   obtain ⟨A4, c4, rfl, hl4⟩ := Light_cells hr
   have H := H.pF hl4
   refine strT (H.lk 1 0 0 [1]) (fun w H => H.lk 1 0 0 []) fun hS => ?_
   refine zS 8 [] rfl rfl rfl rfl hf hS (fun w H => rq_loadIN hf H TF.la80 0 0 rfl rfl rfl rfl) fun a hf => ?_
   obtain ⟨y2, hy2, hR1⟩ := bs_ hR1
   refine nn 9 rfl (oC hf TF.cl86 (spec_l3Light_ok (S := TT) (Network_mkv (x := p.Network) (H.rt 4 rfl) (H.rt 3 rfl)) (Light_mkv (x := e) (H.rt 0 rfl)) hy2) fun v2 w a hp2 hf => ?_)
   obtain ⟨hb2, hp2⟩ := hp2
   obtain rfl := VR_str hp2
   have H := H.keep hb2
   have hS := H.lk 1 0 0 [1]
   refine aS hS ?_
   obtain ⟨s3, hs3, hR1⟩ := bs_ hR1
   refine zP 10 rfl rfl rfl rfl hf hS (fun w => rq_scat hf rfl rfl hs3) fun a hf => ?_
   obtain ⟨s4, hs4, hR1⟩ := bs_ hR1
   refine zP 11 rfl rfl rfl rfl hf hS (fun w => rq_scat hf rfl rfl hs4) fun a hf => ?_
   refine zp 12 hf hS fun a hf => ?_
   refine dk ?_
   have hf := hf.pn [1, 3, 4]
   refine blk_n (then_n (reg (pz 3 hf fun a hf => ?_)))
   refine wl_end ?_
   have hf := hf.pn [1, 3, 4]
   have H := H.lm 1 0 0 5 28
   exact then_n ⟨(s4, w64 (i + 1)), hR1, hf, H⟩
  ·refine wp_exit (then_x (then_x (blk_e (?_))))
   have hf := hf.pn [1, 3, 4]
   have H := H.lm 1 0 0 3 7
   exact ⟨(s', i), (Option.some.inj hR1).symm, hf, H⟩
 rintro a w ⟨⟨s5, i2⟩, rfl, hf, H⟩
 try dsimp only at hF
 refine then_n (sqz (pz 2 hf fun a hf => ?_))
 refine wer ?_
 obtain rfl := oi hF
 refine rT hf ?_
 exact ⟨_, rfl, H.bel, mk_str⟩
theorem spec_l1Cur_spoilt_ok {S : Nat → Prop} {b0 : Nat} {cs0 : List Value} {v1_ : Value} {v2_ : Value} {c : L1CurP} {t : ByteArray} {with' : ByteArray} {r : ByteArray × L1CurP} (hp0 : w0.heap[b0]? = some (.cells cs0.toArray 87 (0, 0))) (hr0 : GoTy.rep w0 S cs0 c) (hS0 : ¬ S b0) (h1 : VR w0 S v1_ t) (h2 : VR w0 S v2_ with') (hF : spec_l1Cur_spoilt fu c t with' = some r) :
    Calls Tryz.prog 52 [(.pointer (some ⟨b0, 0, none⟩)), v1_, v2_].toArray w0 fun e w' => ∃ v, e = .returned v ∧ (Chg w0 w' [b0] ∧ ∃ cs', w'.heap[b0]? = some (.cells cs'.toArray 87 (0, 0)) ∧ GoTy.rep w' (St ⟨w0, [b0]⟩ S [⟨b0, 87, cs'⟩] [] [] false) cs' r.2 ∧ (cs'[0]? = cs0[0]? ∧ r.2.code = c.code) ∧ VR w' (St ⟨w0, [b0]⟩ S [⟨b0, 87, cs'⟩] [] [] true) v r.1) := by
 obtain ⟨A, c2, rfl, hl⟩ := L1CurP_cells hr0
 obtain rfl := VR_str h1
 obtain rfl := VR_str h2
 have H := Mem.startB S hp0
 have H := H.pB hS0 hl
 refine en Tryz.func52 fun a hf => ?_
 rw [spec_l1Cur_spoilt] at hF
 refine sqz (pz 1 hf fun a hf => ?_)
 refine we (sqz (pz 2 hf fun a hf => ?_))
 refine wl_end (then_n (ib hF hf (fun hc hF => ?_) fun hc hF => ?_))
 ·refine sqz (pz 1 hf fun a hf => ?_)
  obtain ⟨s', hs', hF⟩ := bs_ hF
  refine oq hf (rq_ssub hf Tryz.underlying9 rfl rfl rfl (.inl ⟨rfl, rfl⟩) (.inr rfl) hs') fun a hf => ?_
  refine pz 1 hf fun a hf => ?_
  refine wl_end (then_n (wp_ret (then_r (?_))))
  obtain rfl := oi hF
  refine rT hf ?_
  exact ⟨_, rfl, H.chg, _, H.boxAt 0 rfl, (L1CurP_mk (x := c) (eB 0 (H.get 0 rfl))), ⟨rfl, rfl⟩, mk_str⟩
 ·refine wp_skip (then_n (sqz (pz 3 hf fun a hf => ?_)))
  obtain ⟨y, hy, hF⟩ := bs_ hF
  refine oc hf TF.cl75 (spec_l1Cur_pick_ok (S := NB b0) (H.boxAt 0 rfl) ((L1CurP_mk (x := c) (H.nb 0 rfl (H.get 0 rfl)))) (fun h => h rfl) mk_int hy) fun v w a hp4 hf => ?_
  obtain ⟨hch, cs4, hbx, hr4, ⟨hx, hx2⟩, hs⟩ := hp4
  obtain rfl := VR_int hs
  obtain ⟨A2, c3, rfl, hl2⟩ := L1CurP_cells hr4
  obtain ⟨rfl, rfl⟩ := fx_slice hx rfl rfl
  have H := H.wroteBox 0 rfl hch hbx
  have H := H.pX 0 rfl hx2
  refine pz 1 hf fun a hf => ?_
  refine wr (pz 4 hf fun a hf => ?_)
  obtain ⟨y2, hy2, hF⟩ := bs_ hF
  refine oc hf TF.cl75 (spec_l1Cur_pick_ok (S := NB b0) (H.boxAt 0 rfl) ((L1CurP_mk (x := y.2) (H.nb 0 rfl (H.get 0 rfl)))) (fun h => h rfl) mk_int hy2) fun v2 w a hp5 hf => ?_
  obtain ⟨hch2, cs5, hbx2, hr5, ⟨hx3, hx4⟩, hs2⟩ := hp5
  obtain rfl := VR_int hs2
  obtain ⟨A3, c4, rfl, hl3⟩ := L1CurP_cells hr5
  obtain ⟨rfl, rfl⟩ := fx_slice hx3 rfl rfl
  have hx5 := hx4.trans hx2
  have H := H.wroteBox 0 rfl hch2 hbx2
  have H := H.pX 0 rfl hx4
  obtain ⟨s2, hs2, hF⟩ := bs_ hF
  refine oq hf (rq_ssub hf Tryz.underlying9 rfl rfl rfl (.inr rfl) (.inl ⟨rfl, rfl⟩) hs2) fun a hf => ?_
  obtain ⟨s3, hs3, hF⟩ := bs_ hF
  refine oq hf (rq_ssub hf Tryz.underlying9 rfl rfl rfl (.inl ⟨rfl, rfl⟩) (.inr rfl) hs3) fun a hf => ?_
  refine pz 1 hf fun a hf => ?_
  have hf := hf.pn [0, 1, 7, 8]
  refine we (sqz (pz 1 hf fun a hf => ?_))
  obtain ⟨y3, hy3, hF⟩ := bs_ hF
  refine oc hf TF.cl75 (spec_l1Cur_pick_ok (S := NB b0) (H.boxAt 0 rfl) ((L1CurP_mk (x := y2.2) (H.nb 0 rfl (H.get 0 rfl)))) (fun h => h rfl) mk_int hy3) fun v3 w a hp6 hf => ?_
  obtain ⟨hch3, cs6, hbx3, hr6, ⟨hx6, hx7⟩, hs3⟩ := hp6
  obtain rfl := VR_int hs3
  obtain ⟨A4, c5, rfl, hl4⟩ := L1CurP_cells hr6
  obtain ⟨rfl, rfl⟩ := fx_slice hx6 rfl rfl
  have hx8 := hx7.trans hx5
  have H := H.wroteBox 0 rfl hch3 hbx3
  have H := H.pX 0 rfl hx7
  refine wl_end (then_n (wp_block (sqz (pz 2 hf fun a hf => ?_))))
  refine wl_end (then_n (ib hF hf (fun hc2 hF => ?_) fun hc2 hF => ?_))
  ·refine sq (dw [] 10 fun w hb => ?_)
   have H := H.keep hb
   refine zp 0 hf trivial fun a hf => ?_
   refine zp 1 hf trivial fun a hf => ?_
   obtain ⟨s4, hs4, hF⟩ := bs_ hF
   refine tP 2 rfl rfl rfl rfl hf (by kernel_rfl) (fun _ => trivial) (fun w => rq_ssub hf Tryz.underlying9 rfl rfl rfl (.inl ⟨rfl, rfl⟩) (.inr rfl) hs4) fun a hf => ?_
   refine zp 3 hf trivial fun a hf => ?_
   obtain ⟨s5, hs5, hF⟩ := bs_ hF
   refine tP 4 rfl rfl rfl rfl hf (by kernel_rfl) (fun _ => trivial) (fun w => rq_scat hf rfl rfl hs5) fun a hf => ?_
   refine zp 5 hf trivial fun a hf => ?_
   refine zp 6 hf trivial fun a hf => ?_
   obtain ⟨s6, hs6, hF⟩ := bs_ hF
   refine tP 7 rfl rfl rfl rfl hf (by kernel_rfl) (fun _ => trivial) (fun w => rq_ssub hf Tryz.underlying9 rfl rfl rfl (.inr rfl) (.inl ⟨rfl, rfl⟩) hs6) fun a hf => ?_
   obtain ⟨s7, hs7, hF⟩ := bs_ hF
   refine tP 8 rfl rfl rfl rfl hf (by kernel_rfl) (fun _ => trivial) (fun w => rq_scat hf rfl rfl hs7) fun a hf => ?_
   refine zp 9 hf trivial fun a hf => ?_
   refine dk ?_
   have hf := hf.pn [6]
   refine then_n (wp_ret (blk_r (then_r (?_))))
   obtain rfl := oi hF
   refine rT hf ?_
   exact ⟨_, rfl, H.chg, _, H.boxAt 0 rfl, (L1CurP_mk (x := y3.2) (eB 0 (H.get 0 rfl))), ⟨fxc hx8, hx8⟩, mk_str⟩
  ·refine sqz (pz 2 hf fun a hf => ?_)
   refine wl_end (then_n (ib hF hf (fun hc3 hF => ?_) fun hc3 hF => ?_))
   ·refine sq (dw [] 11 fun w hb => ?_)
    have H := H.keep hb
    refine zp 0 hf trivial fun a hf => ?_
    refine zp 1 hf trivial fun a hf => ?_
    obtain ⟨s8, hs8, hF⟩ := bs_ hF
    refine tP 2 rfl rfl rfl rfl hf (by kernel_rfl) (fun _ => trivial) (fun w => rq_ssub hf Tryz.underlying9 rfl rfl rfl (.inl ⟨rfl, rfl⟩) (.inr rfl) hs8) fun a hf => ?_
    refine zp 3 hf trivial fun a hf => ?_
    obtain ⟨s9, hs9, hF⟩ := bs_ hF
    refine tP 4 rfl rfl rfl rfl hf (by kernel_rfl) (fun _ => trivial) (fun w => rq_scat hf rfl rfl hs9) fun a hf => ?_
    refine zp 5 hf trivial fun a hf => ?_
    refine zp 6 hf trivial fun a hf => ?_
    refine zp 7 hf trivial fun a hf => ?_
    obtain ⟨s10, hs10, hF⟩ := bs_ hF
    refine tP 8 rfl rfl rfl rfl hf (by kernel_rfl) (fun _ => trivial) (fun w => rq_ssub hf Tryz.underlying9 rfl rfl rfl (.inr rfl) (.inl ⟨rfl, rfl⟩) hs10) fun a hf => ?_
    obtain ⟨s11, hs11, hF⟩ := bs_ hF
    refine tP 9 rfl rfl rfl rfl hf (by kernel_rfl) (fun _ => trivial) (fun w => rq_scat hf rfl rfl hs11) fun a hf => ?_
    refine zp 10 hf trivial fun a hf => ?_
    refine dk ?_
    have hf := hf.pn [6]
    refine then_n (wp_ret (blk_r (then_r (?_))))
    obtain rfl := oi hF
    refine rT hf ?_
    exact ⟨_, rfl, H.chg, _, H.boxAt 0 rfl, (L1CurP_mk (x := y3.2) (eB 0 (H.get 0 rfl))), ⟨fxc hx8, hx8⟩, mk_str⟩
   ·refine wp_skip (blk_n (then_n (sq (dw [] 9 fun w hb => ?_))))
    have H := H.keep hb
    refine zp 0 hf trivial fun a hf => ?_
    refine zp 1 hf trivial fun a hf => ?_
    obtain ⟨s12, hs12, hF⟩ := bs_ hF
    refine tP 2 rfl rfl rfl rfl hf (by kernel_rfl) (fun _ => trivial) (fun w => rq_ssub hf Tryz.underlying9 rfl rfl rfl (.inl ⟨rfl, rfl⟩) (.inr rfl) hs12) fun a hf => ?_
    refine zp 3 hf trivial fun a hf => ?_
    refine zp 4 hf trivial fun a hf => ?_
    refine zp 5 hf trivial fun a hf => ?_
    obtain ⟨s13, hs13, hF⟩ := bs_ hF
    refine tP 6 rfl rfl rfl rfl hf (by kernel_rfl) (fun _ => trivial) (fun w => rq_ssub hf Tryz.underlying9 rfl rfl rfl (.inr rfl) (.inl ⟨rfl, rfl⟩) hs13) fun a hf => ?_
    obtain ⟨s14, hs14, hF⟩ := bs_ hF
    refine tP 7 rfl rfl rfl rfl hf (by kernel_rfl) (fun _ => trivial) (fun w => rq_scat hf rfl rfl hs14) fun a hf => ?_
    refine zp 8 hf trivial fun a hf => ?_
    refine dk ?_
    have hf := hf.pn [6]
    refine then_n (wp_ret (?_))
    obtain rfl := oi hF
    refine rT hf ?_
    exact ⟨_, rfl, H.chg, _, H.boxAt 0 rfl, (L1CurP_mk (x := y3.2) (eB 0 (H.get 0 rfl))), ⟨fxc hx8, hx8⟩, mk_str⟩
theorem spec_DrawParsePlan_ok {S : Nat → Prop} {v0_ : Value} {code : List By} {r : ByteArray} (h0 : VR w0 S v0_ code) (hF : spec_DrawParsePlan fu code = some r) :
    Calls Tryz.prog 23 [v0_].toArray w0 fun e w' => ∃ v, e = .returned v ∧ (Below w0.heap.size w0 w' ∧ VR w' (St ⟨w0, []⟩ S [] [] [] true) v r) := by
 obtain ⟨A, c, rfl, hl⟩ := VR_list h0
 have H := Mem.start ⟨w0, []⟩ S
 have H := H.pA hl
 refine en Tryz.func23 fun a hf => ?_
 rw [spec_DrawParsePlan] at hF
 refine sqz (pz 1 hf fun a hf => ?_)
 refine wr (pz 1 hf fun a hf => ?_)
 refine oq hf (rq_build hf (cs := [(.slice A code.length c), (.int .i64 0), (.int .u64 0)]) rfl (fun w => by kernel_rfl)) fun a hf => ?_
 refine wl0 rfl (op_box hf H rfl rfl (by decide) fun b' a w hf H => ?_)
 refine pz 1 hf fun a hf => ?_
 refine wr (pz 1 hf fun a hf => ?_)
 obtain ⟨y, hy, hF⟩ := bs_ hF
 refine oc hf TF.cl50 (spec_l1Cur_plan_ok (S := NB b') (H.boxAt 0 rfl) ((L1CurP_mk (x := ({ code := code, at_ := 0, seed := (⟨0⟩ : U64) } : L1CurP)) (H.nb 0 rfl (H.get 0 rfl)))) (fun h => h rfl) hy) fun v w a hp hf => ?_
 obtain ⟨cs, hr, ⟨hx, hx2⟩, A2, c2, F, A3, c3, F2, A4, c4, E, rfl, Hc⟩ := hp
 obtain ⟨A5, c5, rfl, hl2⟩ := L1CurP_cells hr
 obtain ⟨rfl, rfl⟩ := fx_slice hx rfl rfl
 have H := H.compB 0 rfl Hc (.inl rfl)
 have H := H.pX 0 rfl hx2
 have H := H.lend 0 rfl
 have H := H.lend 1 rfl
 obtain ⟨y2, hy2, hF⟩ := bs_ hF
 refine oc hf TF.cl49 (spec_l3Plan_ok (S := TT) (Plan_mkv (x := y.1) (H.rt 1 rfl) (H.rt 0 rfl) (H.rowTrue 0 rfl)) hy2) fun v2 w a hp2 hf => ?_
 obtain ⟨hb, hp2⟩ := hp2
 obtain rfl := VR_str hp2
 have H := H.keep hb
 refine pz 1 hf fun a hf => ?_
 refine we (sqz (pz 1 hf fun a hf => ?_))
 obtain ⟨y3, hy3, hF⟩ := bs_ hF
 refine oc hf TF.cl51 (spec_l1Cur_one_ok (S := NB b') (H.boxAt 0 rfl) ((L1CurP_mk (x := y.2) (H.nb 0 rfl (H.get 2 rfl)))) (fun h => h rfl) mk_int hy3) fun v3 w a hp3 hf => ?_
 obtain ⟨hch, cs2, hbx, hr2, ⟨hx3, hx4⟩, hs⟩ := hp3
 obtain rfl := VR_bool hs
 obtain ⟨A6, c6, rfl, hl3⟩ := L1CurP_cells hr2
 obtain ⟨rfl, rfl⟩ := fx_slice hx3 rfl rfl
 have hx5 := hx4.trans hx2
 have H := H.wroteBox 0 rfl hch hbx
 have H := H.pX 2 rfl hx4
 refine wl_end (then_n (ib hF hf (fun hc hF => ?_) fun hc hF => ?_))
 ·refine reg (pz 2 hf fun a hf => ?_)
  obtain ⟨y4, hy4, hF⟩ := bs_ hF
  refine oc hf TF.cl52 (spec_l1Cur_spoilt_ok (S := NB b') (H.boxAt 0 rfl) ((L1CurP_mk (x := y3.2) (H.nb 0 rfl (H.get 0 rfl)))) (fun h => h rfl) mk_str mk_str hy4) fun v4 w a hp4 hf => ?_
  obtain ⟨hch2, cs3, hbx2, hr3, ⟨hx6, hx7⟩, hs2⟩ := hp4
  obtain rfl := VR_str hs2
  obtain ⟨A7, c7, rfl, hl4⟩ := L1CurP_cells hr3
  obtain ⟨rfl, rfl⟩ := fx_slice hx6 rfl rfl
  have hx8 := hx7.trans hx5
  have H := H.wroteBox 0 rfl hch2 hbx2
  have H := H.pX 0 rfl hx7
  refine pz 1 hf fun a hf => ?_
  have hf := hf.pn [4]
  refine wr (pz 2 hf fun a hf => ?_)
  refine wer ?_
  obtain rfl := oi hF
  refine rT hf ?_
  exact ⟨_, rfl, H.bel, mk_str⟩
 ·refine wp_skip (then_n (sqz (pz 2 hf fun a hf => ?_)))
  refine wer ?_
  obtain rfl := oi hF
  refine rT hf ?_
  exact ⟨_, rfl, H.bel, mk_str⟩
theorem laws_FnTexts_ok {S : Nat → Prop} {v0_ : Value} {code : List By} {r : Bool} (h0 : VR w0 S v0_ code) (hG : (GLm 0 1 2).pred w0 S) (hF : laws_FnTexts fu code = some r) :
    Calls Tryz.prog 3 [v0_].toArray w0 fun e w' => ∃ v, e = .returned v ∧ (Below w0.heap.size w0 w' ∧ VR w' (St ⟨w0, []⟩ S [] [] [] true) v r) := by
 obtain ⟨A, c, rfl, hl⟩ := VR_list h0
 have H := Mem.start ⟨w0, []⟩ S
 have H := H.pA hl
 have H := H.pushArg (GLm 0 1 2) hG
 refine en Tryz.func3 fun a hf => ?_
 rw [laws_FnTexts] at hF
 refine sqz (pz 1 hf fun a hf => ?_)
 refine we (sqz (pz 1 hf fun a hf => ?_))
 obtain ⟨y, hy, hF⟩ := bs_ hF
 refine oc hf TF.cl4 (laws_vBig_ok (S := TT) (mk_list (H.rt 1 rfl)) hy) fun v w a hp hf => ?_
 obtain ⟨hb, hp⟩ := hp
 obtain rfl := VR_bool hp
 have H := H.keep hb
 refine wl_end (then_n (ib hF hf (fun hc hF => ?_) fun hc hF => ?_))
 ·refine sqz (pz 1 hf fun a hf => ?_)
  refine wl_end (then_n (wp_ret (then_r (?_))))
  obtain rfl := oi hF
  refine rT hf ?_
  exact ⟨_, rfl, H.bel, mk_bool⟩
 ·refine wp_skip (then_n (sqz (pz 1 hf fun a hf => ?_)))
  obtain ⟨y2, hy2, hF⟩ := bs_ hF
  refine oc hf TF.cl5 (spec_DrawFormatRoute_ok (S := TT) (mk_list (H.rt 1 rfl)) hy2) fun v2 w a hp2 hf => ?_
  obtain ⟨hb2, F, F2, v3, v4, rfl, hp3, hp4, hN⟩ := hp2
  obtain ⟨A2, c2, F3, A3, c3, F4, rfl, rfl, hl2, hl3⟩ := Network_vo hp3
  obtain ⟨A4, c4, F5, rfl, rfl, hl4⟩ := Route_vo hp4
  have H := H.aO3 hb2 (by first | exact hN | simpa using hN) hl2 hl3 hl4
  have H := H.lend 0 rfl
  have H := H.lend 1 rfl
  have H := H.lend 2 rfl
  refine pz 3 hf fun a hf => ?_
  refine aL hf H TF.zv27 fun b' a w hf H => ?_
  refine aL hf H TF.zv30 fun b2 a w hf H => ?_
  refine sB 1 hf H TF.sz27 fun w H => ?_
  refine sB 0 hf H TF.sz30 fun w H => ?_
  refine wr (lN 1 hf H TF.la27 fun a hf => ?_)
  obtain ⟨y3, hy3, hF⟩ := bs_ hF
  refine oc hf TF.cl6 (impl_FormatNetwork_ok (S := TT) (Network_mkv (x := y2.1) (H.rt 2 rfl) (H.rt 1 rfl)) (mp_true (H.get 3 rfl)) hy3) fun v5 w a hp5 hf => ?_
  obtain ⟨hb3, v6, v7, rfl, hp6, hp7⟩ := hp5
  obtain rfl := VR_str hp6
  obtain rfl := VR_bool hp7
  have H := H.keep hb3
  refine pz 5 hf fun a hf => ?_
  have hf := hf.pn [0, 3, 4, 5, 6]
  refine wr (pz 1 hf fun a hf => ?_)
  obtain ⟨y4, hy4, hF⟩ := bs_ hF
  refine oc hf TF.cl7 (impl_ParseNetwork_ok (S := TT) mk_str (mp_true (H.get 3 rfl)) hy4) fun v8 w a hp8 hf => ?_
  obtain ⟨hb4, F6, v9, v10, rfl, hp9, hp10, hN2⟩ := hp8
  obtain ⟨A5, c5, F7, A6, c6, F8, rfl, rfl, hl5, hl6⟩ := Network_vo hp9
  obtain rfl := VR_bool hp10
  have H := H.aO2 hb4 hN2 hl5 hl6
  have H := H.lend 0 rfl
  have H := H.lend 1 rfl
  refine pz 3 hf fun a hf => ?_
  refine aL hf H TF.zv27 fun b3 a w hf H => ?_
  refine sB 0 hf H TF.sz27 fun w H => ?_
  refine pz 1 hf fun a hf => ?_
  refine wl_end (then_n (sq (sq ?_)))
  obtain ⟨c7, hGc7, hF⟩ := bs_ hF
  have fh := hf.prune [0, 3, 4] rfl
  have Hm := H.lm 6 0 28 7 124
  refine midF 61 (.bool c7) fh Hm ?_ fun a w hf H => ?_
  ·refine reg (pz 1 hf fun a hf => ?_)
   refine lN 2 hf H TF.la27 fun a hf => ?_
   obtain ⟨y5, hy5, hGc7⟩ := bs_ hGc7
   refine oc hf TF.cl8 (spec_IsValidNetwork_ok (S := TT) (Network_mkv (x := y2.1) (H.rt 4 rfl) (H.rt 3 rfl)) hy5) fun v11 w a hp11 hf => ?_
   obtain ⟨hb5, hp11⟩ := hp11
   obtain rfl := VR_bool hp11
   have H := H.keep hb5
   refine pz 2 hf fun a hf => ?_
   refine iteB hGc7 (fun hc2 hGc7 => ?_) fun hc2 hGc7 => ?_
   ·have hf := hf.lit 49 rfl hc2
    refine pz 2 hf fun a hf => ?_
    refine wlsu hf rfl rfl rfl rfl (by decide) fun a hf => ?_
    refine wlsu hf rfl rfl rfl rfl (by decide) fun a hf => ?_
    refine wlsu hf rfl rfl rfl rfl (by decide) fun a hf => ?_
    refine wlsu hf rfl rfl rfl rfl (by decide) fun a hf => ?_
    refine wlsu hf rfl rfl rfl rfl (by decide) fun a hf => ?_
    refine wlsu hf rfl rfl rfl rfl (by decide) fun a hf => ?_
    refine wlsu hf rfl rfl rfl rfl (by decide) fun a hf => ?_
    refine wlsu hf rfl rfl rfl rfl (by decide) fun a hf => ?_
    refine pz 2 hf fun a hf => ?_
    obtain rfl := oi hGc7
    have hf := hf.pn [61, 0, 3, 4]
    have H := H.lm 6 0 28 7 124
    exact wl_end ⟨hf, H⟩
   ·have hf := hf.lit 49 rfl hc2
    refine pz 2 hf fun a hf => ?_
    refine iteB hGc7 (fun hc3 hGc7 => ?_) fun hc3 hGc7 => ?_
    ·have hf := hf.lit 51 rfl hc3
     refine pz 3 hf fun a hf => ?_
     refine iteB hGc7 (fun hc4 hGc7 => ?_) fun hc4 hGc7 => ?_
     ·have hf := hf.lit 54 rfl hc4
      refine pz 7 hf fun a hf => ?_
      obtain rfl := oi hGc7
      have hf := hf.pn [61, 0, 3, 4]
      have H := H.lm 6 0 28 7 124
      exact wl_end ⟨hf, H⟩
     ·have hf := hf.lit 54 rfl hc4
      refine wlg hf rfl rfl rfl (op_q hf (rq_loadBN hf H TF.la27 0 rfl rfl rfl rfl) rfl (by decide) fun a hf => ?_)
      refine wlg hf rfl rfl rfl (op_q hf (rq_loadBN hf H TF.la27 2 rfl rfl rfl rfl) rfl (by decide) fun a hf => ?_)
      obtain ⟨y6, hy6, hGc7⟩ := bs_ hGc7
      refine wlg hf rfl rfl rfl (oC hf TF.cl9 (laws_vNetworks_ok (S := TT) (Network_mkv (x := y4.1) (H.rt 1 rfl) (H.rt 0 rfl)) (Network_mkv (x := y2.1) (H.rt 4 rfl) (H.rt 3 rfl)) hy6) fun v12 w a hp12 hf => ?_)
      obtain ⟨hb6, hp12⟩ := hp12
      obtain rfl := VR_bool hp12
      have H := H.keep hb6
      refine pz 4 hf fun a hf => ?_
      obtain rfl := oi hGc7
      have hf := hf.pn [61, 0, 3, 4]
      have H := H.lm 6 0 28 7 124
      exact wl_end ⟨hf, H⟩
    ·have hf := hf.lit 51 rfl hc3
     refine pz 3 hf fun a hf => ?_
     refine wlsu hf rfl rfl rfl rfl (by decide) fun a hf => ?_
     refine wlsu hf rfl rfl rfl rfl (by decide) fun a hf => ?_
     refine wlsu hf rfl rfl rfl rfl (by decide) fun a hf => ?_
     refine wlsu hf rfl rfl rfl rfl (by decide) fun a hf => ?_
     refine pz 3 hf fun a hf => ?_
     obtain rfl := oi hGc7
     have hf := hf.pn [61, 0, 3, 4]
     have H := H.lm 6 0 28 7 124
     exact wl_end ⟨hf, H⟩
  refine then_n (ib hF hf (fun hc5 hF => ?_) fun hc5 hF => ?_)
  ·refine sqz (pz 1 hf fun a hf => ?_)
   refine wl_end (then_n (wp_ret (then_r (?_))))
   obtain rfl := oi hF
   refine rT hf ?_
   exact ⟨_, rfl, H.bel, mk_bool⟩
  ·refine wp_skip (then_n (sq (reg (lN 1 hf H TF.la27 fun a hf => ?_))))
   refine lN 0 hf H TF.la30 fun a hf => ?_
   obtain ⟨y7, hy7, hF⟩ := bs_ hF
   refine oc hf TF.cl10 (impl_FormatRoute_ok (S := TT) (Network_mkv (x := y2.1) (H.rt 2 rfl) (H.rt 1 rfl)) (Route_mkv (x := y2.2) (H.rt 0 rfl)) (mp_true (H.get 3 rfl)) hy7) fun v13 w a hp13 hf => ?_
   obtain ⟨hb7, v14, v15, rfl, hp14, hp15⟩ := hp13
   obtain rfl := VR_str hp14
   obtain rfl := VR_bool hp15
   have H := H.keep hb7
   refine pz 5 hf fun a hf => ?_
   refine wr (lN 1 hf H TF.la27 fun a hf => ?_)
   refine pz 1 hf fun a hf => ?_
   obtain ⟨y8, hy8, hF⟩ := bs_ hF
   refine oc hf TF.cl11 (impl_ParseRoute_ok (S := TT) (Network_mkv (x := y2.1) (H.rt 2 rfl) (H.rt 1 rfl)) mk_str (mp_true (H.get 3 rfl)) hy8) fun v16 w a hp16 hf => ?_
   obtain ⟨hb8, F9, v17, v18, rfl, hp17, hp18, hN3⟩ := hp16
   obtain ⟨A7, c8, F10, rfl, rfl, hl7⟩ := Route_vo hp17
   obtain rfl := VR_bool hp18
   have H := H.aO1 hb8 hN3 hl7
   have H := H.lend 0 rfl
   refine pz 3 hf fun a hf => ?_
   refine aL hf H TF.zv30 fun b4 a w hf H => ?_
   refine sB 0 hf H TF.sz30 fun w H => ?_
   refine pz 1 hf fun a hf => ?_
   have hf := hf.pn [0, 3, 4, 10, 11, 12]
   refine wl_end (then_n (sq (sq ?_)))
   obtain ⟨c9, hGc9, hF⟩ := bs_ hF
   have fh2 := hf.prune [0] rfl
   have Hm2 := H.lk 0 0 0 [4,5]
   refine midF 91 (.bool c9) fh2 Hm2 ?_ fun a w hf H => ?_
   ·refine reg (pz 1 hf fun a hf => ?_)
    refine lN 2 hf H TF.la27 fun a hf => ?_
    refine lN 1 hf H TF.la30 fun a hf => ?_
    obtain ⟨y9, hy9, hGc9⟩ := bs_ hGc9
    refine oc hf TF.cl12 (spec_IsValidRoute_ok (S := TT) (Network_mkv (x := y2.1) (H.rt 3 rfl) (H.rt 2 rfl)) (Route_mkv (x := y2.2) (H.rt 1 rfl)) hy9) fun v19 w a hp19 hf => ?_
    obtain ⟨hb9, hp19⟩ := hp19
    obtain rfl := VR_bool hp19
    have H := H.keep hb9
    refine pz 2 hf fun a hf => ?_
    refine iteB hGc9 (fun hc6 hGc9 => ?_) fun hc6 hGc9 => ?_
    ·have hf := hf.lit 79 rfl hc6
     refine pz 2 hf fun a hf => ?_
     refine wlsu hf rfl rfl rfl rfl (by decide) fun a hf => ?_
     refine wlsu hf rfl rfl rfl rfl (by decide) fun a hf => ?_
     refine wlsu hf rfl rfl rfl rfl (by decide) fun a hf => ?_
     refine wlsu hf rfl rfl rfl rfl (by decide) fun a hf => ?_
     refine wlsu hf rfl rfl rfl rfl (by decide) fun a hf => ?_
     refine wlsu hf rfl rfl rfl rfl (by decide) fun a hf => ?_
     refine wlsu hf rfl rfl rfl rfl (by decide) fun a hf => ?_
     refine wlsu hf rfl rfl rfl rfl (by decide) fun a hf => ?_
     refine pz 2 hf fun a hf => ?_
     obtain rfl := oi hGc9
     have hf := hf.pn [91, 0]
     have H := H.lk 0 0 0 [4,5]
     exact wl_end ⟨hf, H⟩
    ·have hf := hf.lit 79 rfl hc6
     refine pz 2 hf fun a hf => ?_
     refine iteB hGc9 (fun hc7 hGc9 => ?_) fun hc7 hGc9 => ?_
     ·have hf := hf.lit 81 rfl hc7
      refine pz 3 hf fun a hf => ?_
      refine iteB hGc9 (fun hc8 hGc9 => ?_) fun hc8 hGc9 => ?_
      ·have hf := hf.lit 84 rfl hc8
       refine pz 7 hf fun a hf => ?_
       obtain rfl := oi hGc9
       have hf := hf.pn [91, 0]
       have H := H.lk 0 0 0 [4,5]
       exact wl_end ⟨hf, H⟩
      ·have hf := hf.lit 84 rfl hc8
       refine wlg hf rfl rfl rfl (op_q hf (rq_loadBN hf H TF.la30 0 rfl rfl rfl rfl) rfl (by decide) fun a hf => ?_)
       refine wlg hf rfl rfl rfl (op_q hf (rq_loadBN hf H TF.la30 1 rfl rfl rfl rfl) rfl (by decide) fun a hf => ?_)
       obtain ⟨y10, hy10, hGc9⟩ := bs_ hGc9
       refine wlg hf rfl rfl rfl (oC hf TF.cl13 (laws_vRoutes_ok (S := TT) (Route_mkv (x := y8.1) (H.rt 0 rfl)) (Route_mkv (x := y2.2) (H.rt 1 rfl)) hy10) fun v20 w a hp20 hf => ?_)
       obtain ⟨hb10, hp20⟩ := hp20
       obtain rfl := VR_bool hp20
       have H := H.keep hb10
       refine pz 4 hf fun a hf => ?_
       obtain rfl := oi hGc9
       have hf := hf.pn [91, 0]
       have H := H.lk 0 0 0 [4,5]
       exact wl_end ⟨hf, H⟩
     ·have hf := hf.lit 81 rfl hc7
      refine pz 3 hf fun a hf => ?_
      refine wlsu hf rfl rfl rfl rfl (by decide) fun a hf => ?_
      refine wlsu hf rfl rfl rfl rfl (by decide) fun a hf => ?_
      refine wlsu hf rfl rfl rfl rfl (by decide) fun a hf => ?_
      refine wlsu hf rfl rfl rfl rfl (by decide) fun a hf => ?_
      refine pz 3 hf fun a hf => ?_
      obtain rfl := oi hGc9
      have hf := hf.pn [91, 0]
      have H := H.lk 0 0 0 [4,5]
      exact wl_end ⟨hf, H⟩
   refine then_n (ib hF hf (fun hc9 hF => ?_) fun hc9 hF => ?_)
   ·refine sqz (pz 1 hf fun a hf => ?_)
    refine wl_end (then_n (wp_ret (then_r (?_))))
    obtain rfl := oi hF
    refine rT hf ?_
    exact ⟨_, rfl, H.bel, mk_bool⟩
   ·refine wp_skip (then_n (sqz (pz 1 hf fun a hf => ?_)))
    obtain ⟨y11, hy11, hF⟩ := bs_ hF
    refine oc hf TF.cl14 (spec_DrawFormatBlock_ok (S := TT) (mk_list (H.rt 1 rfl)) hy11) fun v21 w a hp21 hf => ?_
    obtain ⟨hb11, hp21⟩ := hp21
    obtain rfl := Block_open hp21
    have H := H.keep hb11
    refine aL hf H TF.zv45 fun b5 a w hf H => ?_
    refine sB 0 hf H TF.sz45 fun w H => ?_
    refine wr (lN 0 hf H TF.la45 fun a hf => ?_)
    obtain ⟨y12, hy12, hF⟩ := bs_ hF
    refine oc hf TF.cl15 (impl_FormatBlock_ok (S := TT) Block_mkv (mp_true (H.get 0 rfl)) hy12) fun v22 w a hp22 hf => ?_
    obtain ⟨hb12, v23, v24, rfl, hp23, hp24⟩ := hp22
    obtain rfl := VR_str hp23
    obtain rfl := VR_bool hp24
    have H := H.keep hb12
    refine pz 5 hf fun a hf => ?_
    refine wr (pz 1 hf fun a hf => ?_)
    obtain ⟨y13, hy13, hF⟩ := bs_ hF
    refine oc hf TF.cl16 (impl_ParseBlock_ok (S := TT) mk_str (mp_true (H.get 0 rfl)) hy13) fun v25 w a hp25 hf => ?_
    obtain ⟨hb13, v26, v27, rfl, hp26, hp27⟩ := hp25
    obtain rfl := Block_open hp26
    obtain rfl := VR_bool hp27
    have H := H.keep hb13
    refine pz 3 hf fun a hf => ?_
    refine aL hf H TF.zv45 fun b6 a w hf H => ?_
    refine sB 0 hf H TF.sz45 fun w H => ?_
    refine pz 1 hf fun a hf => ?_
    have hf := hf.pn [0, 13, 15, 16, 17]
    refine wl_end (then_n (sq (sq ?_)))
    obtain ⟨c10, hGc10, hF⟩ := bs_ hF
    have fh3 := hf.prune [0] rfl
    have Hm3 := H.lk 0 0 0 [0,1]
    refine midF 119 (.bool c10) fh3 Hm3 ?_ fun a w hf H => ?_
    ·refine reg (pz 1 hf fun a hf => ?_)
     refine lN 1 hf H TF.la45 fun a hf => ?_
     obtain ⟨y14, hy14, hGc10⟩ := bs_ hGc10
     refine oc hf TF.cl17 (spec_IsValidBlock_ok (S := TT) Block_mkv hy14) fun v28 w a hp28 hf => ?_
     obtain ⟨hb14, hp28⟩ := hp28
     obtain rfl := VR_bool hp28
     have H := H.keep hb14
     refine pz 2 hf fun a hf => ?_
     refine iteB hGc10 (fun hc10 hGc10 => ?_) fun hc10 hGc10 => ?_
     ·have hf := hf.lit 108 rfl hc10
      refine pz 2 hf fun a hf => ?_
      refine wlsu hf rfl rfl rfl rfl (by decide) fun a hf => ?_
      refine wlsu hf rfl rfl rfl rfl (by decide) fun a hf => ?_
      refine wlsu hf rfl rfl rfl rfl (by decide) fun a hf => ?_
      refine wlsu hf rfl rfl rfl rfl (by decide) fun a hf => ?_
      refine wlsu hf rfl rfl rfl rfl (by decide) fun a hf => ?_
      refine wlsu hf rfl rfl rfl rfl (by decide) fun a hf => ?_
      refine wlsu hf rfl rfl rfl rfl (by decide) fun a hf => ?_
      refine pz 2 hf fun a hf => ?_
      obtain rfl := oi hGc10
      have hf := hf.pn [119, 0]
      have H := H.lk 0 0 0 [0,1]
      exact wl_end ⟨hf, H⟩
     ·have hf := hf.lit 108 rfl hc10
      refine pz 2 hf fun a hf => ?_
      refine iteB hGc10 (fun hc11 hGc10 => ?_) fun hc11 hGc10 => ?_
      ·have hf := hf.lit 110 rfl hc11
       refine pz 3 hf fun a hf => ?_
       refine iteB hGc10 (fun hc12 hGc10 => ?_) fun hc12 hGc10 => ?_
       ·have hf := hf.lit 113 rfl hc12
        refine pz 6 hf fun a hf => ?_
        obtain rfl := oi hGc10
        have hf := hf.pn [119, 0]
        have H := H.lk 0 0 0 [0,1]
        exact wl_end ⟨hf, H⟩
       ·have hf := hf.lit 113 rfl hc12
        refine wlg hf rfl rfl rfl (op_q hf (rq_loadBN hf H TF.la45 0 rfl rfl rfl rfl) rfl (by decide) fun a hf => ?_)
        refine wlg hf rfl rfl rfl (op_q hf (rq_loadBN hf H TF.la45 1 rfl rfl rfl rfl) rfl (by decide) fun a hf => ?_)
        refine wlg hf rfl rfl rfl (op_q hf (rq_neT hf TF.qeqt45 ([y13.1.First, y13.1.Count] : List Int) ([y11.First, y11.Count] : List Int) rfl rfl rfl rfl rfl rfl) rfl (by decide) fun a hf => ?_)
        refine pz 3 hf fun a hf => ?_
        obtain rfl := oi hGc10
        have hf := hf.pn [119, 0]
        have H := H.lk 0 0 0 [0,1]
        exact wl_end ⟨hf, H⟩
      ·have hf := hf.lit 110 rfl hc11
       refine pz 3 hf fun a hf => ?_
       refine wlsu hf rfl rfl rfl rfl (by decide) fun a hf => ?_
       refine wlsu hf rfl rfl rfl rfl (by decide) fun a hf => ?_
       refine wlsu hf rfl rfl rfl rfl (by decide) fun a hf => ?_
       refine pz 3 hf fun a hf => ?_
       obtain rfl := oi hGc10
       have hf := hf.pn [119, 0]
       have H := H.lk 0 0 0 [0,1]
       exact wl_end ⟨hf, H⟩
    refine then_n (ib hF hf (fun hc13 hF => ?_) fun hc13 hF => ?_)
    ·refine sqz (pz 1 hf fun a hf => ?_)
     refine wl_end (then_n (wp_ret (then_r (?_))))
     obtain rfl := oi hF
     refine rT hf ?_
     exact ⟨_, rfl, H.bel, mk_bool⟩
    ·refine wp_skip (then_n (sqz (pz 1 hf fun a hf => ?_)))
     obtain ⟨y15, hy15, hF⟩ := bs_ hF
     refine oc hf TF.cl18 (spec_DrawFormatPlan_ok (S := TT) (mk_list (H.rt 1 rfl)) hy15) fun v29 w a hp29 hf => ?_
     obtain ⟨A8, c11, F11, A9, c12, F12, A10, c13, E, rfl, Hc⟩ := hp29
     have H := H.comp Hc (.inl rfl)
     have H := H.lend 0 rfl
     have H := H.lend 1 rfl
     refine aL hf H TF.zv53 fun b7 a w hf H => ?_
     refine sB 0 hf H TF.sz53 fun w H => ?_
     refine wr (lN 0 hf H TF.la53 fun a hf => ?_)
     obtain ⟨y16, hy16, hF⟩ := bs_ hF
     refine oc hf TF.cl19 (impl_FormatPlan_ok (S := TT) (Plan_mkv (x := y15) (H.rt 1 rfl) (H.rt 0 rfl) (H.rowTrue 0 rfl)) (mp_true (H.get 2 rfl)) hy16) fun v30 w a hp30 hf => ?_
     obtain ⟨hb15, v31, v32, rfl, hp31, hp32⟩ := hp30
     obtain rfl := VR_str hp31
     obtain rfl := VR_bool hp32
     have H := H.keep hb15
     refine pz 5 hf fun a hf => ?_
     refine wr (pz 1 hf fun a hf => ?_)
     obtain ⟨y17, hy17, hF⟩ := bs_ hF
     refine oc hf TF.cl20 (impl_ParsePlan_ok (S := TT) mk_str (mp_true (H.get 2 rfl)) hy17) fun v33 w a hp33 hf => ?_
     obtain ⟨hb16, F13, v34, v35, rfl, hp34, hp35, hN4⟩ := hp33
     obtain ⟨A11, c14, F14, A12, c15, F15, A13, c16, F16, rfl, rfl, hl8, hl9, hl10⟩ := Plan_vo hp34
     obtain rfl := VR_bool hp35
     have H := H.aO3 hb16 (by first | exact hN4 | simpa using hN4) hl8 hl9 hl10
     have H := H.lend 0 rfl
     have H := H.lend 1 rfl
     have H := H.lend 2 rfl
     refine pz 3 hf fun a hf => ?_
     refine aL hf H TF.zv53 fun b8 a w hf H => ?_
     refine sB 0 hf H TF.sz53 fun w H => ?_
     refine pz 1 hf fun a hf => ?_
     have hf := hf.pn [0, 18, 20, 21, 22]
     refine wl_end (then_n (sq (sq ?_)))
     obtain ⟨c17, hGc17, hF⟩ := bs_ hF
     have fh4 := hf.prune [0] rfl
     have Hm4 := H.lk 0 0 0 [5,6]
     refine midF 148 (.bool c17) fh4 Hm4 ?_ fun a w hf H => ?_
     ·refine reg (pz 1 hf fun a hf => ?_)
      refine lN 1 hf H TF.la53 fun a hf => ?_
      obtain ⟨y18, hy18, hGc17⟩ := bs_ hGc17
      refine oc hf TF.cl21 (spec_IsValidPlan_ok (S := TT) (Plan_mkv (x := y15) (H.rt 4 rfl) (H.rt 3 rfl) (H.rowTrue 0 rfl)) hy18) fun v36 w a hp36 hf => ?_
      obtain ⟨hb17, hp36⟩ := hp36
      obtain rfl := VR_bool hp36
      have H := H.keep hb17
      refine pz 2 hf fun a hf => ?_
      refine iteB hGc17 (fun hc14 hGc17 => ?_) fun hc14 hGc17 => ?_
      ·have hf := hf.lit 136 rfl hc14
       refine pz 2 hf fun a hf => ?_
       refine wlsu hf rfl rfl rfl rfl (by decide) fun a hf => ?_
       refine wlsu hf rfl rfl rfl rfl (by decide) fun a hf => ?_
       refine wlsu hf rfl rfl rfl rfl (by decide) fun a hf => ?_
       refine wlsu hf rfl rfl rfl rfl (by decide) fun a hf => ?_
       refine wlsu hf rfl rfl rfl rfl (by decide) fun a hf => ?_
       refine wlsu hf rfl rfl rfl rfl (by decide) fun a hf => ?_
       refine wlsu hf rfl rfl rfl rfl (by decide) fun a hf => ?_
       refine wlsu hf rfl rfl rfl rfl (by decide) fun a hf => ?_
       refine pz 2 hf fun a hf => ?_
       obtain rfl := oi hGc17
       have hf := hf.pn [148, 0]
       have H := H.lk 0 0 0 [5,6]
       exact wl_end ⟨hf, H⟩
      ·have hf := hf.lit 136 rfl hc14
       refine pz 2 hf fun a hf => ?_
       refine iteB hGc17 (fun hc15 hGc17 => ?_) fun hc15 hGc17 => ?_
       ·have hf := hf.lit 138 rfl hc15
        refine pz 3 hf fun a hf => ?_
        refine iteB hGc17 (fun hc16 hGc17 => ?_) fun hc16 hGc17 => ?_
        ·have hf := hf.lit 141 rfl hc16
         refine pz 7 hf fun a hf => ?_
         obtain rfl := oi hGc17
         have hf := hf.pn [148, 0]
         have H := H.lk 0 0 0 [5,6]
         exact wl_end ⟨hf, H⟩
        ·have hf := hf.lit 141 rfl hc16
         refine wlg hf rfl rfl rfl (op_q hf (rq_loadBN hf H TF.la53 0 rfl rfl rfl rfl) rfl (by decide) fun a hf => ?_)
         refine wlg hf rfl rfl rfl (op_q hf (rq_loadBN hf H TF.la53 1 rfl rfl rfl rfl) rfl (by decide) fun a hf => ?_)
         obtain ⟨y19, hy19, hGc17⟩ := bs_ hGc17
         refine wlg hf rfl rfl rfl (oC hf TF.cl22 (laws_vPlans_ok (S := TT) (Plan_mkv (x := y17.1) (H.rt 2 rfl) (H.rt 1 rfl) (H.rt 0 rfl)) (Plan_mkv (x := y15) (H.rt 4 rfl) (H.rt 3 rfl) (H.rowTrue 0 rfl)) hy19) fun v37 w a hp37 hf => ?_)
         obtain ⟨hb18, hp37⟩ := hp37
         obtain rfl := VR_bool hp37
         have H := H.keep hb18
         refine pz 4 hf fun a hf => ?_
         obtain rfl := oi hGc17
         have hf := hf.pn [148, 0]
         have H := H.lk 0 0 0 [5,6]
         exact wl_end ⟨hf, H⟩
       ·have hf := hf.lit 138 rfl hc15
        refine pz 3 hf fun a hf => ?_
        refine wlsu hf rfl rfl rfl rfl (by decide) fun a hf => ?_
        refine wlsu hf rfl rfl rfl rfl (by decide) fun a hf => ?_
        refine wlsu hf rfl rfl rfl rfl (by decide) fun a hf => ?_
        refine wlsu hf rfl rfl rfl rfl (by decide) fun a hf => ?_
        refine pz 3 hf fun a hf => ?_
        obtain rfl := oi hGc17
        have hf := hf.pn [148, 0]
        have H := H.lk 0 0 0 [5,6]
        exact wl_end ⟨hf, H⟩
     refine then_n (ib hF hf (fun hc17 hF => ?_) fun hc17 hF => ?_)
     ·refine sqz (pz 1 hf fun a hf => ?_)
      refine wl_end (then_n (wp_ret (then_r (?_))))
      obtain rfl := oi hF
      refine rT hf ?_
      exact ⟨_, rfl, H.bel, mk_bool⟩
     ·refine wp_skip (then_n (sqz (pz 1 hf fun a hf => ?_)))
      obtain ⟨y20, hy20, hF⟩ := bs_ hF
      refine oc hf TF.cl23 (spec_DrawParsePlan_ok (S := TT) (mk_list (H.rt 1 rfl)) hy20) fun v38 w a hp38 hf => ?_
      obtain ⟨hb19, hp38⟩ := hp38
      obtain rfl := VR_str hp38
      have H := H.keep hb19
      refine pz 1 hf fun a hf => ?_
      refine wr (pz 1 hf fun a hf => ?_)
      obtain ⟨y21, hy21, hF⟩ := bs_ hF
      refine oc hf TF.cl20 (impl_ParsePlan_ok (S := TT) mk_str (mp_true (H.get 0 rfl)) hy21) fun v39 w a hp39 hf => ?_
      obtain ⟨hb20, F17, v40, v41, rfl, hp40, hp41, hN5⟩ := hp39
      obtain ⟨A14, c18, F18, A15, c19, F19, A16, c20, F20, rfl, rfl, hl11, hl12, hl13⟩ := Plan_vo hp40
      obtain rfl := VR_bool hp41
      have H := H.aO3 hb20 (by first | exact hN5 | simpa using hN5) hl11 hl12 hl13
      have H := H.lend 0 rfl
      have H := H.lend 1 rfl
      have H := H.lend 2 rfl
      refine pz 3 hf fun a hf => ?_
      refine aL hf H TF.zv53 fun b9 a w hf H => ?_
      refine sB 0 hf H TF.sz53 fun w H => ?_
      refine pz 1 hf fun a hf => ?_
      refine wr (lN 0 hf H TF.la53 fun a hf => ?_)
      obtain ⟨y22, hy22, hF⟩ := bs_ hF
      refine oc hf TF.cl19 (impl_FormatPlan_ok (S := TT) (Plan_mkv (x := y21.1) (H.rt 2 rfl) (H.rt 1 rfl) (H.rt 0 rfl)) (mp_true (H.get 3 rfl)) hy22) fun v42 w a hp42 hf => ?_
      obtain ⟨hb21, v43, v44, rfl, hp43, hp44⟩ := hp42
      obtain rfl := VR_str hp43
      obtain rfl := VR_bool hp44
      have H := H.keep hb21
      refine pz 5 hf fun a hf => ?_
      have hf := hf.pn [23, 25, 26, 27]
      refine wl_end (then_n (sq ?_))
      obtain ⟨c21, hGc21, hF⟩ := bs_ hF
      have fh5 := hf.prune [] rfl
      have Hm5 := H.lk 0 0 0 [3]
      refine midF 2 (.bool c21) fh5 Hm5 ?_ fun a w hf H => ?_
      ·refine reg (pz 3 hf fun a hf => ?_)
       refine iteB hGc21 (fun hc18 hGc21 => ?_) fun hc18 hGc21 => ?_
       ·have hf := hf.lit 163 rfl hc18
        refine pz 2 hf fun a hf => ?_
        refine wlsu hf rfl rfl rfl rfl (by decide) fun a hf => ?_
        refine wlsu hf rfl rfl rfl rfl (by decide) fun a hf => ?_
        refine wlsu hf rfl rfl rfl rfl (by decide) fun a hf => ?_
        refine pz 3 hf fun a hf => ?_
        obtain rfl := oi hGc21
        have hf := hf.pn [2]
        have H := H.lk 0 0 0 [3]
        exact wl_end ⟨hf, H⟩
       ·have hf := hf.lit 163 rfl hc18
        refine pz 2 hf fun a hf => ?_
        refine iteB hGc21 (fun hc19 hGc21 => ?_) fun hc19 hGc21 => ?_
        ·have hf := hf.lit 165 rfl hc19
         refine pz 6 hf fun a hf => ?_
         obtain rfl := oi hGc21
         have hf := hf.pn [2]
         have H := H.lk 0 0 0 [3]
         exact wl_end ⟨hf, H⟩
        ·have hf := hf.lit 165 rfl hc19
         refine pz 6 hf fun a hf => ?_
         obtain rfl := oi hGc21
         have hf := hf.pn [2]
         have H := H.lk 0 0 0 [3]
         exact wl_end ⟨hf, H⟩
      refine then_n (wp_ret (?_))
      obtain rfl := oi hF
      refine rT hf ?_
      exact ⟨_, rfl, H.bel, mk_bool⟩
end AT
