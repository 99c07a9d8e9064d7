/- The Go functions do what is told of them, by program (gen.py). -/
import Derived.Test.YtkjhklpdcoicdaaGreatWFnBills3
set_option linter.unusedVariables false
set_option linter.unusedSimpArgs false
set_option maxRecDepth 100000
set_option maxHeartbeats 1000000
namespace AT
open Go Go.RowKit Go.Proofs
variable {fu : Nat} {w0 : World}
theorem spec_l2Name_ok {S : Nat → Prop} {v0_ : Value} {s' : ByteArray} {r : Bool} (h0 : VR w0 S v0_ s') (hF : spec_l2Name fu s' = some r) :
    Calls Tryz.prog 210 [v0_].toArray w0 fun e w' => ∃ v, e = .returned v ∧ (Below w0.heap.size w0 w' ∧ VR w' (St ⟨w0, []⟩ S [] [] [] true) v r) := by
 obtain rfl := VR_str h0
 have H := Mem.start ⟨w0, []⟩ S
 refine en Tryz.func210 fun a hf => ?_
 rw [spec_l2Name] at hF
 refine sqz (pz 1 hf fun a hf => ?_)
 refine wl_end (then_n (sq (sq ?_)))
 obtain ⟨c, hGc, hF⟩ := bs_ hF
 have fh := hf.prune [0] rfl
 have Hm := H.lt_ [] [] [] []
 refine midF 17 (.bool c) fh Hm ?_ fun a w hf H => ?_
 ·refine reg (pz 2 hf fun a hf => ?_)
  obtain ⟨y, hy, hGc⟩ := bs_ hGc
  refine oc hf TF.cl68 (spec_l1In_ok (S := TT) mk_int mk_int mk_int hy) fun v w a hp hf => ?_
  obtain ⟨hb, hp⟩ := hp
  obtain rfl := VR_bool hp
  have H := H.keep hb
  refine pz 2 hf fun a hf => ?_
  refine iteB hGc (fun hc hGc => ?_) fun hc hGc => ?_
  ·have hf := hf.lit 8 rfl hc
   refine pz 9 hf fun a hf => ?_
   obtain rfl := oi hGc
   have hf := hf.pn [17, 0]
   have H := H.lt_ [] [] [] []
   exact wl_end ⟨hf, H⟩
  ·have hf := hf.lit 8 rfl hc
   refine pz 1 hf fun a hf => ?_
   obtain ⟨e, he, hGc⟩ := bs_ hGc
   refine wlg hf rfl rfl rfl (op_q hf (rq_indexS hf Tryz.underlying9 rfl rfl he) rfl (by decide) fun a hf => ?_)
   refine wlg hf rfl rfl rfl (op_q hf (rq_ltK hf rfl rfl) rfl (by decide) fun a hf => ?_)
   refine pz 2 hf fun a hf => ?_
   refine iteB hGc (fun hc2 hGc => ?_) fun hc2 hGc => ?_
   ·have hf := hf.lit 13 rfl hc2
    refine pz 4 hf fun a hf => ?_
    obtain rfl := oi hGc
    have hf := hf.pn [17, 0]
    have H := H.lt_ [] [] [] []
    exact wl_end ⟨hf, H⟩
   ·have hf := hf.lit 13 rfl hc2
    refine pz 1 hf fun a hf => ?_
    obtain ⟨e2, he2, hGc⟩ := bs_ hGc
    refine wlg hf rfl rfl rfl (op_q hf (rq_indexS hf Tryz.underlying9 rfl rfl he2) rfl (by decide) fun a hf => ?_)
    refine wlg hf rfl rfl rfl (op_q hf (rq_gtK hf rfl rfl) rfl (by decide) fun a hf => ?_)
    refine pz 1 hf fun a hf => ?_
    obtain rfl := oi hGc
    have hf := hf.pn [17, 0]
    have H := H.lt_ [] [] [] []
    exact wl_end ⟨hf, H⟩
 refine then_n (ib hF hf (fun hc3 hF => ?_) fun hc3 hF => ?_)
 ·refine sqz (pz 1 hf fun a hf => ?_)
  refine wl_end (then_n (wp_ret (then_r (?_))))
  obtain rfl := oi hF
  refine rT hf ?_
  exact ⟨_, rfl, H.bel, mk_bool⟩
 ·refine wp_skip (then_n (sq (sqz (pz 1 hf fun a hf => ?_))))
  refine wl_end (then_n ?_)
  obtain ⟨out', hB1, hF⟩ := bs_ hF
  have hf := hf.pn [0, 3]
  have H := H.lt_ [] [] [] []
  refine loopC (fun (s : Int) (a : Act) (w : World) => match s with | i => Fr a 29 [(0, (.string s')), (3, (.int .i64 i))] ∧ Mem ⟨w0, []⟩ S [] [] [] [] w) (fun k (s : Int) => spec_l2Name_L1 fu s' k s = some out') (fun s => out' = Out.next s) 0 fu hB1 ⟨hf, H⟩ (fun s h => by cases h) ?_ ?_
  ·rintro fk i a w hR1 hI
   replace hR1 : spec_l2Name_L1 fu s' (fk + 1) i = some out' := hR1
   rw [spec_l2Name_L1] at hR1
   obtain ⟨hf, H⟩ := hI
   refine sq (sqz (pz 4 hf fun a hf => ?_))
   refine wl_end (then_n (ib hR1 hf (fun hc4 hR1 => ?_) fun hc4 hR1 => ?_))
   ·refine ws (pz 2 hf fun a hf => ?_)
    obtain ⟨e3, he3, hR1⟩ := bs_ hR1
    refine oq hf (rq_indexS hf Tryz.underlying9 rfl rfl he3) fun a hf => ?_
    obtain ⟨y2, hy2, hR1⟩ := bs_ hR1
    refine oc hf TF.cl258 (spec_l2Sign_ok (S := TT) mk_by hy2) fun v2 w a hp2 hf => ?_
    obtain ⟨hb2, hp2⟩ := hp2
    obtain rfl := VR_bool hp2
    have H := H.keep hb2
    refine pz 1 hf fun a hf => ?_
    refine wl_end (then_n (ib hR1 hf (fun hc5 hR1 => ?_) fun hc5 hR1 => ?_))
    ·refine sqz (pz 1 hf fun a hf => ?_)
     refine wl_end (then_n (wp_ret (blk_r (then_r (then_r (blk_r (then_r (then_r (?_)))))))))
     obtain rfl := oi hR1
     replace hF := on_ret hF
     obtain rfl := oi hF
     refine rT hf ?_
     exact ⟨_, rfl, H.bel, mk_bool⟩
    ·refine wp_skip (blk_n (then_n (reg (pz 3 hf fun a hf => ?_))))
     refine wl_end ?_
     have hf := hf.pn [0, 3]
     have H := H.lt_ [] [] [] []
     exact then_n ⟨w64 (i + 1), hR1, hf, H⟩
   ·refine wp_exit (then_x (then_x (blk_e (?_))))
    have hf := hf.pn [0, 3]
    have H := H.lt_ [] [] [] []
    exact ⟨i, (Option.some.inj hR1).symm, hf, H⟩
  rintro a w ⟨i2, rfl, hf, H⟩
  replace hF := on_next hF
  refine then_n (sqz (pz 1 hf fun a hf => ?_))
  refine wer ?_
  obtain rfl := oi hF
  refine rT hf ?_
  exact ⟨_, rfl, H.bel, mk_bool⟩
theorem spec_l2Find_ok {S : Nat → Prop} {v0_ : Value} {v1_ : Value} {list : List ByteArray} {name : ByteArray} {r : Int} (h0 : VR w0 S v0_ list) (h1 : VR w0 S v1_ name) (hF : spec_l2Find fu list name = some r) :
    Calls Tryz.prog 211 [v0_, v1_].toArray w0 fun e w' => ∃ v, e = .returned v ∧ (Below w0.heap.size w0 w' ∧ VR w' (St ⟨w0, []⟩ S [] [] [] true) v r) := by
 obtain ⟨A, c, rfl, hl⟩ := VR_list h0
 obtain rfl := VR_str h1
 have H := Mem.start ⟨w0, []⟩ S
 have H := H.pA hl
 refine en Tryz.func211 fun a hf => ?_
 rw [spec_l2Find] at hF
 refine sqz (pz 1 hf fun a hf => ?_)
 refine wl_end (then_n (sq (sqz (pz 1 hf fun a hf => ?_))))
 refine wl_end (then_n ?_)
 obtain ⟨out', hB1, hF⟩ := bs_ hF
 have hf := hf.pn [0, 1, 5]
 have H := H.lt_ [] [] [] [0]
 refine loopC (fun (s : Int) (a : Act) (w : World) => match s with | i => Fr a 19 [(0, (.slice A list.length c)), (1, (.string name)), (5, (.int .i64 i))] ∧ Mem ⟨w0, []⟩ S [] [] [] [(false, MP.val [(.slice A list.length c)] (list : List ByteArray))] w) (fun k (s : Int) => spec_l2Find_L1 fu list name k s = some out') (fun s => out' = Out.next s) 0 fu hB1 ⟨hf, H⟩ (fun s h => by cases h) ?_ ?_
 ·rintro fk i a w hR1 hI
  replace hR1 : spec_l2Find_L1 fu list name (fk + 1) i = some out' := hR1
  rw [spec_l2Find_L1] at hR1
  obtain ⟨hf, H⟩ := hI
  refine sq (sqz (pz 4 hf fun a hf => ?_))
  refine wl_end (then_n (ib hR1 hf (fun hc hR1 => ?_) fun hc hR1 => ?_))
  ·refine ws (pz 2 hf fun a hf => ?_)
   obtain ⟨e, he, hR1⟩ := bs_ hR1
   refine wl0 rfl (op_iaddr hf H Tryz.underlying32 TF.sz9 0 rfl rfl rfl he (by decide) fun p o cs a hf hr H => ?_)
   obtain rfl := hr
   refine oq hf (rq_loadI hf H TF.ls9 0 0 rfl rfl rfl) fun a hf => ?_
   refine pz 2 hf fun a hf => ?_
   refine wl_end (then_n (ib hR1 hf (fun hc2 hR1 => ?_) fun hc2 hR1 => ?_))
   ·refine sqz (pz 2 hf fun a hf => ?_)
    have hf := hf.pn [4]
    refine wl_end (then_n (wp_ret (blk_r (then_r (then_r (blk_r (then_r (then_r (?_)))))))))
    obtain rfl := oi hR1
    replace hF := on_ret hF
    obtain rfl := oi hF
    refine rT hf ?_
    exact ⟨_, rfl, H.bel, mk_int⟩
   ·refine wp_skip (blk_n (then_n (reg (pz 3 hf fun a hf => ?_))))
    refine wl_end ?_
    have hf := hf.pn [0, 1, 5]
    have H := H.lt_ [] [] [] [1]
    exact then_n ⟨w64 (i + 1), hR1, hf, H⟩
  ·refine wp_exit (then_x (then_x (blk_e (?_))))
   have hf := hf.pn [0, 1, 5]
   have H := H.lt_ [] [] [] [0]
   exact ⟨i, (Option.some.inj hR1).symm, hf, H⟩
 rintro a w ⟨i2, rfl, hf, H⟩
 replace hF := on_next hF
 refine then_n (sqz (pz 1 hf fun a hf => ?_))
 refine wer ?_
 obtain rfl := oi hF
 refine rT hf ?_
 exact ⟨_, rfl, H.bel, mk_int⟩
theorem spec_l2Fiber_ok {S : Nat → Prop} {v0_ : Value} {v1_ : Value} {f : Fiber} {nodes : Int} {r : Bool} (h0 : VR w0 S v0_ f) (h1 : VR w0 S v1_ nodes) (hF : spec_l2Fiber fu f nodes = some r) :
    Calls Tryz.prog 212 [v0_, v1_].toArray w0 fun e w' => ∃ v, e = .returned v ∧ (Below w0.heap.size w0 w' ∧ VR w' (St ⟨w0, []⟩ S [] [] [] true) v r) := by
 obtain rfl := Fiber_open h0
 obtain rfl := VR_int h1
 have H := Mem.start ⟨w0, []⟩ S
 refine en Tryz.func212 fun a hf => ?_
 rw [spec_l2Fiber] at hF
 refine bx hf H fun b' a w hf H => ?_
 refine pz 1 hf fun a hf => ?_
 refine wl_end (then_n (sq ?_))
 obtain ⟨c, hGc, hF⟩ := bs_ hF
 have fh := hf.prune [] rfl
 have Hm := H.lt_ [false] [] [] []
 refine midF 4 (.bool c) fh Hm ?_ fun a w hf H => ?_
 ·refine reg (pz 1 hf fun a hf => ?_)
  refine lB 0 hf H TF.ls3 fun a hf => ?_
  refine pz 2 hf fun a hf => ?_
  obtain ⟨y, hy, hGc⟩ := bs_ hGc
  refine oc hf TF.cl68 (spec_l1In_ok (S := TT) mk_int mk_int mk_int hy) fun v w a hp hf => ?_
  obtain ⟨hb, hp⟩ := hp
  obtain rfl := VR_bool hp
  have H := H.keep hb
  refine pz 1 hf fun a hf => ?_
  refine iteB hGc (fun hc hGc => ?_) fun hc hGc => ?_
  ·have hf := hf.lit 10 rfl hc
   refine pz 1 hf fun a hf => ?_
   refine wlg hf rfl rfl rfl (op_q hf (rq_loadB hf H TF.ls3 0 rfl rfl rfl) rfl (by decide) fun a hf => ?_)
   refine pz 1 hf fun a hf => ?_
   refine wlg hf rfl rfl rfl (op_q hf (rq_loadB hf H TF.ls3 0 rfl rfl rfl) rfl (by decide) fun a hf => ?_)
   refine pz 3 hf fun a hf => ?_
   obtain ⟨y2, hy2, hGc⟩ := bs_ hGc
   refine wlg hf rfl rfl rfl (oC hf TF.cl68 (spec_l1In_ok (S := TT) mk_int mk_int mk_int hy2) fun v2 w a hp2 hf => ?_)
   obtain ⟨hb2, hp2⟩ := hp2
   obtain rfl := VR_bool hp2
   have H := H.keep hb2
   refine pz 2 hf fun a hf => ?_
   refine iteB hGc (fun hc2 hGc => ?_) fun hc2 hGc => ?_
   ·have hf := hf.lit 20 rfl hc2
    refine pz 1 hf fun a hf => ?_
    refine wlg hf rfl rfl rfl (op_q hf (rq_loadB hf H TF.ls3 0 rfl rfl rfl) rfl (by decide) fun a hf => ?_)
    obtain ⟨y3, hy3, hGc⟩ := bs_ hGc
    refine wlg hf rfl rfl rfl (oC hf TF.cl68 (spec_l1In_ok (S := TT) mk_int mk_int mk_int hy3) fun v3 w a hp3 hf => ?_)
    obtain ⟨hb3, hp3⟩ := hp3
    obtain rfl := VR_bool hp3
    have H := H.keep hb3
    refine pz 2 hf fun a hf => ?_
    refine iteB hGc (fun hc3 hGc => ?_) fun hc3 hGc => ?_
    ·have hf := hf.lit 25 rfl hc3
     refine pz 1 hf fun a hf => ?_
     refine wlg hf rfl rfl rfl (op_q hf (rq_loadB hf H TF.ls3 0 rfl rfl rfl) rfl (by decide) fun a hf => ?_)
     obtain ⟨y4, hy4, hGc⟩ := bs_ hGc
     refine wlg hf rfl rfl rfl (oC hf TF.cl68 (spec_l1In_ok (S := TT) mk_int mk_int mk_int hy4) fun v4 w a hp4 hf => ?_)
     obtain ⟨hb4, hp4⟩ := hp4
     obtain rfl := VR_bool hp4
     have H := H.keep hb4
     refine pz 2 hf fun a hf => ?_
     obtain rfl := oi hGc
     have hf := hf.pn [4]
     have H := H.lt_ [false] [] [] []
     exact wl_end ⟨hf, H⟩
    ·have hf := hf.lit 25 rfl hc3
     refine pz 5 hf fun a hf => ?_
     obtain rfl := oi hGc
     have hf := hf.pn [4]
     have H := H.lt_ [false] [] [] []
     exact wl_end ⟨hf, H⟩
   ·have hf := hf.lit 20 rfl hc2
    refine pz 10 hf fun a hf => ?_
    obtain rfl := oi hGc
    have hf := hf.pn [4]
    have H := H.lt_ [false] [] [] []
    exact wl_end ⟨hf, H⟩
  ·have hf := hf.lit 10 rfl hc
   refine pz 20 hf fun a hf => ?_
   obtain rfl := oi hGc
   have hf := hf.pn [4]
   have H := H.lt_ [false] [] [] []
   exact wl_end ⟨hf, H⟩
 refine then_n (wp_ret (?_))
 obtain rfl := oi hF
 refine rT hf ?_
 exact ⟨_, rfl, H.bel, mk_bool⟩
theorem spec_l2Good_ok {S : Nat → Prop} {v0_ : Value} {n' : Network} {r : Bool} (h0 : VR w0 S v0_ n') (hF : spec_l2Good fu n' = some r) :
    Calls Tryz.prog 143 [v0_].toArray w0 fun e w' => ∃ v, e = .returned v ∧ (Below w0.heap.size w0 w' ∧ VR w' (St ⟨w0, []⟩ S [] [] [] true) v r) := by
 obtain ⟨A, c, A2, c2, rfl, hl, hl2⟩ := Network_open h0
 have H := Mem.start ⟨w0, []⟩ S
 have H := H.pA hl
 have H := H.pA hl2
 refine en Tryz.func143 fun a hf => ?_
 rw [spec_l2Good] at hF
 refine bx hf H fun b' a w hf H => ?_
 refine pz 1 hf fun a hf => ?_
 refine wl_end (then_n (sq (sq ?_)))
 obtain ⟨c3, hGc3, hF⟩ := bs_ hF
 have fh := hf.prune [1] rfl
 have Hm := H.lt_ [true] [] [] [0, 1]
 refine midF 15 (.bool c3) fh Hm ?_ fun a w hf H => ?_
 ·refine reg (pz 1 hf fun a hf => ?_)
  refine lB 0 hf H TF.ls32 fun a hf => ?_
  refine pz 1 hf fun a hf => ?_
  obtain ⟨y, hy, hGc3⟩ := bs_ hGc3
  refine oc hf TF.cl68 (spec_l1In_ok (S := TT) mk_int mk_int mk_int hy) fun v w a hp hf => ?_
  obtain ⟨hb, hp⟩ := hp
  obtain rfl := VR_bool hp
  have H := H.keep hb
  refine pz 2 hf fun a hf => ?_
  refine iteB hGc3 (fun hc hGc3 => ?_) fun hc hGc3 => ?_
  ·have hf := hf.lit 10 rfl hc
   refine pz 5 hf fun a hf => ?_
   obtain rfl := oi hGc3
   have hf := hf.pn [15, 1]
   have H := H.lt_ [true] [] [] [0, 1]
   exact wl_end ⟨hf, H⟩
  ·have hf := hf.lit 10 rfl hc
   refine pz 1 hf fun a hf => ?_
   refine wlg hf rfl rfl rfl (op_q hf (rq_loadB hf H TF.ls33 0 rfl rfl rfl) rfl (by decide) fun a hf => ?_)
   refine pz 3 hf fun a hf => ?_
   obtain rfl := oi hGc3
   have hf := hf.pn [15, 1]
   have H := H.lt_ [true] [] [] [0, 1]
   exact wl_end ⟨hf, H⟩
 refine then_n (ib hF hf (fun hc2 hF => ?_) fun hc2 hF => ?_)
 ·refine sqz (pz 1 hf fun a hf => ?_)
  refine wl_end (then_n (wp_ret (then_r (?_))))
  obtain rfl := oi hF
  refine rT hf ?_
  exact ⟨_, rfl, H.bel, mk_bool⟩
 ·refine wp_skip (then_n (sq (sqz (pz 1 hf fun a hf => ?_))))
  refine wl_end (then_n ?_)
  obtain ⟨out', hB1, hF⟩ := bs_ hF
  have hf := hf.pn [1, 3]
  have H := H.lt_ [true] [] [] [0, 1]
  refine loopC (fun (s : Int) (a : Act) (w : World) => match s with | i => Fr a 78 [(1, (.pointer (some ⟨b', 0, none⟩))), (3, (.int .i64 i))] ∧ Mem ⟨w0, []⟩ S [⟨b', 35, [(.slice A n'.Nodes.length c), (.slice A2 n'.Fibers.length c2)]⟩] [] [] [(false, MP.val [(.slice A2 n'.Fibers.length c2)] (n'.Fibers : List Fiber)), (false, MP.val [(.slice A n'.Nodes.length c)] (n'.Nodes : List ByteArray))] w) (fun k (s : Int) => spec_l2Good_L1 fu n' k s = some out') (fun s => out' = Out.next s) 0 fu hB1 ⟨hf, H⟩ (fun s h => by cases h) ?_ ?_
  ·rintro fk i a w hR1 hI
   replace hR1 : spec_l2Good_L1 fu n' (fk + 1) i = some out' := hR1
   rw [spec_l2Good_L1] at hR1
   obtain ⟨hf, H⟩ := hI
   refine sq (sqz (pz 2 hf fun a hf => ?_))
   refine lB 0 hf H TF.ls32 fun a hf => ?_
   refine pz 2 hf fun a hf => ?_
   refine wl_end (then_n (ib hR1 hf (fun hc3 hR1 => ?_) fun hc3 hR1 => ?_))
   ·refine wp_skip (then_n (sq (wp_block (sq ?_))))
    obtain ⟨c4, hGc4, hR1⟩ := bs_ hR1
    have fh2 := hf.prune [1, 3] rfl
    have Hm2 := H.lt_ [true] [] [] [0, 1]
    refine midF 41 (.bool c4) fh2 Hm2 ?_ fun a w hf H => ?_
    ·refine dw [] 19 fun w hb => ?_
     have H := H.keep hb
     refine zp 0 hf trivial fun a hf => ?_
     refine strT (H.lt_ [true] [] [] []) (fun w H => trivial) fun hS => ?_
     refine zS 1 [] rfl rfl rfl rfl hf hS (fun w H => rq_loadB hf H TF.ls32 0 rfl rfl rfl) fun a hf => ?_
     refine zp 2 hf hS fun a hf => ?_
     obtain ⟨e, he, hGc4⟩ := bs_ hGc4
     obtain ⟨p, o, cs, hx, hr, H⟩ := pre_iaddr H Tryz.underlying32 TF.sz9 1 rfl he
     refine zP 3 rfl rfl rfl rfl hf hS (fun w => rq_iaddrE hf rfl rfl rfl hx w) fun a hf => ?_
     obtain rfl := hr
     refine strT (H.lt_ [true] [] [] [0]) (fun w H => H.lt_ [true] [] [] []) fun hS => ?_
     refine zS 4 [] rfl rfl rfl rfl hf hS (fun w H => rq_loadI hf H TF.ls9 0 0 rfl rfl rfl) fun a hf => ?_
     obtain ⟨y2, hy2, hGc4⟩ := bs_ hGc4
     refine nn 5 rfl (oC hf TF.cl210 (spec_l2Name_ok (S := TT) mk_str hy2) fun v2 w a hp2 hf => ?_)
     obtain ⟨hb2, hp2⟩ := hp2
     obtain rfl := VR_bool hp2
     have H := H.keep hb2
     have hS := H.lt_ [true] [] [] [0]
     refine ⟨fun _ => hS, ?_⟩
     refine zp 6 hf hS fun a hf => ?_
     refine zp 7 hf hS fun a hf => ?_
     refine iteB hGc4 (fun hc4 hGc4 => ?_) fun hc4 hGc4 => ?_
     ·have hf := hf.lit 30 rfl hc4
      refine zU 8 hf hS fun a hf => ?_
      refine zU 9 hf hS fun a hf => ?_
      refine zU 10 hf hS fun a hf => ?_
      refine zU 11 hf hS fun a hf => ?_
      refine zU 12 hf hS fun a hf => ?_
      refine zU 13 hf hS fun a hf => ?_
      refine zU 14 hf hS fun a hf => ?_
      refine zU 15 hf hS fun a hf => ?_
      refine zU 16 hf hS fun a hf => ?_
      refine zU 17 hf hS fun a hf => ?_
      refine zp 18 hf hS fun a hf => ?_
      refine dn (by kernel_rfl) ?_
      obtain rfl := oi hGc4
      have hf := hf.pn [41, 1, 3]
      have H := H.lt_ [true] [] [] [1, 2]
      exact ⟨hf, H⟩
     ·have hf := hf.lit 30 rfl hc4
      refine zg 8 hf hS fun a hf => ?_
      refine tSg 9 [] rfl rfl rfl rfl rfl rfl hf (by kernel_rfl) (by kernel_rfl) hS (fun w H => rq_loadB hf H TF.ls32 0 rfl rfl rfl) fun a hf => ?_
      refine zg 10 hf hS fun a hf => ?_
      refine tSg 11 [] rfl rfl rfl rfl rfl rfl hf (by kernel_rfl) (by kernel_rfl) hS (fun w H => rq_loadB hf H TF.ls32 0 rfl rfl rfl) fun a hf => ?_
      refine zg 12 hf hS fun a hf => ?_
      obtain ⟨e2, he2, hGc4⟩ := bs_ hGc4
      obtain ⟨p2, o2, cs2, hx2, hr2, H⟩ := pre_iaddr H Tryz.underlying32 TF.sz9 2 rfl he2
      refine tPg 13 rfl rfl rfl rfl rfl rfl hf (by kernel_rfl) (fun _ => hS) (fun w => rq_iaddrE hf rfl rfl rfl hx2 w) fun a hf => ?_
      obtain rfl := hr2
      refine strT (H.lt_ [true] [] [] [0, 1]) (fun w H => H.lt_ [true] [] [] [1]) fun hS => ?_
      refine tSg 14 [] rfl rfl rfl rfl rfl rfl hf (by kernel_rfl) (by kernel_rfl) hS (fun w H => rq_loadI hf H TF.ls9 0 0 rfl rfl rfl) fun a hf => ?_
      refine zg 16 hf hS fun a hf => ?_
      obtain ⟨y3, hy3, hGc4⟩ := bs_ hGc4
      refine n1g 15 (by kernel_rfl) rfl rfl rfl rfl hf (oC hf TF.cl211 (spec_l2Find_ok (S := TT) (mk_list (H.rt 3 rfl)) mk_str hy3) fun v3 w a hp3 hf => ?_)
      obtain ⟨hb3, hp3⟩ := hp3
      obtain rfl := VR_int hp3
      have H := H.keep hb3
      have hS := H.lt_ [true] [] [] [0, 1]
      refine ⟨fun _ => hS, ?_⟩
      refine zg 17 hf hS fun a hf => ?_
      refine zp 18 hf hS fun a hf => ?_
      refine dn (by kernel_rfl) ?_
      obtain rfl := oi hGc4
      have hf := hf.pn [41, 1, 3]
      have H := H.lt_ [true] [] [] [2, 3]
      exact ⟨hf, H⟩
    refine then_n (ib hR1 hf (fun hc5 hR1 => ?_) fun hc5 hR1 => ?_)
    ·refine sqz (pz 1 hf fun a hf => ?_)
     refine wl_end (then_n (wp_ret (blk_r (then_r (then_r (blk_r (then_r (then_r (?_)))))))))
     obtain rfl := oi hR1
     replace hF := on_ret hF
     obtain rfl := oi hF
     refine rT hf ?_
     exact ⟨_, rfl, H.bel, mk_bool⟩
    ·refine wp_skip (blk_n (then_n (reg (pz 3 hf fun a hf => ?_))))
     refine wl_end ?_
     have hf := hf.pn [1, 3]
     have H := H.lt_ [true] [] [] [0, 1]
     exact then_n ⟨w64 (i + 1), hR1, hf, H⟩
   ·refine wp_exit (then_x (then_x (blk_e (?_))))
    have hf := hf.pn [1, 3]
    have H := H.lt_ [true] [] [] [0, 1]
    exact ⟨i, (Option.some.inj hR1).symm, hf, H⟩
  rintro a w ⟨i2, rfl, hf, H⟩
  replace hF := on_next hF
  refine then_n (sq (sqz (pz 1 hf fun a hf => ?_)))
  refine wl_end (then_n ?_)
  obtain ⟨out2, hB1, hF⟩ := bs_ hF
  have hf := hf.pn [1, 4]
  have H := H.lt_ [true] [] [] [0, 1]
  refine loopC (fun (s : Int) (a : Act) (w : World) => match s with | i3 => Fr a 78 [(1, (.pointer (some ⟨b', 0, none⟩))), (4, (.int .i64 i3))] ∧ Mem ⟨w0, []⟩ S [⟨b', 35, [(.slice A n'.Nodes.length c), (.slice A2 n'.Fibers.length c2)]⟩] [] [] [(false, MP.val [(.slice A2 n'.Fibers.length c2)] (n'.Fibers : List Fiber)), (false, MP.val [(.slice A n'.Nodes.length c)] (n'.Nodes : List ByteArray))] w) (fun k (s : Int) => spec_l2Good_L2 fu n' k s = some out2) (fun s => out2 = Out.next s) 0 fu hB1 ⟨hf, H⟩ (fun s h => by cases h) ?_ ?_
  ·rintro fk i3 a w hR1 hI
   replace hR1 : spec_l2Good_L2 fu n' (fk + 1) i3 = some out2 := hR1
   rw [spec_l2Good_L2] at hR1
   obtain ⟨hf, H⟩ := hI
   refine sq (sqz (pz 2 hf fun a hf => ?_))
   refine lB 0 hf H TF.ls33 fun a hf => ?_
   refine pz 2 hf fun a hf => ?_
   refine wl_end (then_n (ib hR1 hf (fun hc6 hR1 => ?_) fun hc6 hR1 => ?_))
   ·refine wp_skip (then_n (sq (wp_block (sq ?_))))
    obtain ⟨c5, hGc5, hR1⟩ := bs_ hR1
    have fh3 := hf.prune [1, 4] rfl
    have Hm3 := H.lt_ [true] [] [] [0, 1]
    refine midF 77 (.bool c5) fh3 Hm3 ?_ fun a w hf H => ?_
    ·refine dw [] 29 fun w hb => ?_
     have H := H.keep hb
     refine zp 0 hf trivial fun a hf => ?_
     refine strT (H.lt_ [true] [] [] []) (fun w H => trivial) fun hS => ?_
     refine zS 1 [] rfl rfl rfl rfl hf hS (fun w H => rq_loadB hf H TF.ls33 0 rfl rfl rfl) fun a hf => ?_
     refine zp 2 hf hS fun a hf => ?_
     obtain ⟨e3, he3, hGc5⟩ := bs_ hGc5
     obtain ⟨p3, o3, cs3, hx3, hr3, H⟩ := pre_iaddr H Tryz.underlying33 TF.sz120 0 rfl he3
     refine zP 3 rfl rfl rfl rfl hf hS (fun w => rq_iaddrE hf rfl rfl rfl hx3 w) fun a hf => ?_
     obtain rfl := Fiber_cells hr3
     refine strT (H.lt_ [true] [] [] [0]) (fun w H => H.lt_ [true] [] [] []) fun hS => ?_
     refine zS 4 [] rfl rfl rfl rfl hf hS (fun w H => rq_loadIN hf H TF.la120 0 0 rfl rfl rfl rfl) fun a hf => ?_
     refine zp 5 hf hS fun a hf => ?_
     refine zS 6 [] rfl rfl rfl rfl hf hS (fun w H => rq_loadB hf H TF.ls32 0 rfl rfl rfl) fun a hf => ?_
     refine zp 7 hf hS fun a hf => ?_
     obtain ⟨y4, hy4, hGc5⟩ := bs_ hGc5
     refine nn 8 rfl (oC hf TF.cl212 (spec_l2Fiber_ok (S := TT) Fiber_mkv mk_int hy4) fun v4 w a hp4 hf => ?_)
     obtain ⟨hb4, hp4⟩ := hp4
     obtain rfl := VR_bool hp4
     have H := H.keep hb4
     have hS := H.lt_ [true] [] [] [0]
     refine ⟨fun _ => hS, ?_⟩
     refine zp 9 hf hS fun a hf => ?_
     refine zp 10 hf hS fun a hf => ?_
     refine iteB hGc5 (fun hc7 hGc5 => ?_) fun hc7 hGc5 => ?_
     ·have hf := hf.lit 59 rfl hc7
      refine zU 11 hf hS fun a hf => ?_
      refine zU 12 hf hS fun a hf => ?_
      refine zU 13 hf hS fun a hf => ?_
      refine zV 14 hf hS fun a hf => ?_
      refine zV 15 hf hS fun a hf => ?_
      refine zV 16 hf hS fun a hf => ?_
      refine zV 17 hf hS fun a hf => ?_
      refine zV 18 hf hS fun a hf => ?_
      refine zV 19 hf hS fun a hf => ?_
      refine zV 20 hf hS fun a hf => ?_
      refine zV 21 hf hS fun a hf => ?_
      refine zV 22 hf hS fun a hf => ?_
      refine zV 23 hf hS fun a hf => ?_
      refine zV 24 hf hS fun a hf => ?_
      refine zV 25 hf hS fun a hf => ?_
      refine zV 26 hf hS fun a hf => ?_
      refine zU 27 hf hS fun a hf => ?_
      refine zp 28 hf hS fun a hf => ?_
      refine dn (by kernel_rfl) ?_
      obtain rfl := oi hGc5
      have hf := hf.pn [77, 1, 4]
      have H := H.lt_ [true] [] [] [1, 2]
      exact ⟨hf, H⟩
     ·have hf := hf.lit 59 rfl hc7
      refine zg 11 hf hS fun a hf => ?_
      refine zg 12 hf hS fun a hf => ?_
      refine zg 13 hf hS fun a hf => ?_
      refine iteB hGc5 (fun hc8 hGc5 => ?_) fun hc8 hGc5 => ?_
      ·have hf := hf.lit 62 rfl hc8
       refine zg 14 hf hS fun a hf => ?_
       refine tSg 15 [] rfl rfl rfl rfl rfl rfl hf (by kernel_rfl) (by kernel_rfl) hS (fun w H => rq_loadB hf H TF.ls33 0 rfl rfl rfl) fun a hf => ?_
       refine zg 16 hf hS fun a hf => ?_
       refine zg 17 hf hS fun a hf => ?_
       obtain ⟨e4, he4, hGc5⟩ := bs_ hGc5
       obtain ⟨p4, o4, cs4, hx4, hr4, H⟩ := pre_iaddr H Tryz.underlying33 TF.sz120 1 rfl he4
       refine tPg 18 rfl rfl rfl rfl rfl rfl hf (by kernel_rfl) (fun _ => hS) (fun w => rq_iaddrE hf rfl rfl rfl hx4 w) fun a hf => ?_
       obtain rfl := Fiber_cells hr4
       refine strT (H.lt_ [true] [] [] [0, 1]) (fun w H => H.lt_ [true] [] [] [1]) fun hS => ?_
       refine tSg 19 [] rfl rfl rfl rfl rfl rfl hf (by kernel_rfl) (by kernel_rfl) hS (fun w H => rq_loadIN hf H TF.la120 0 0 rfl rfl rfl rfl) fun a hf => ?_
       refine zg 20 hf hS fun a hf => ?_
       refine tSg 21 [] rfl rfl rfl rfl rfl rfl hf (by kernel_rfl) (by kernel_rfl) hS (fun w H => rq_loadB hf H TF.ls33 0 rfl rfl rfl) fun a hf => ?_
       refine zg 22 hf hS fun a hf => ?_
       obtain ⟨e5, he5, hGc5⟩ := bs_ hGc5
       obtain ⟨p5, o5, cs5, hx5, hr5, H⟩ := pre_iaddr H Tryz.underlying33 TF.sz120 2 rfl he5
       refine tPg 23 rfl rfl rfl rfl rfl rfl hf (by kernel_rfl) (fun _ => hS) (fun w => rq_iaddrE hf rfl rfl rfl hx5 w) fun a hf => ?_
       obtain rfl := Fiber_cells hr5
       refine strT (H.lt_ [true] [] [] [0, 1, 2]) (fun w H => H.lt_ [true] [] [] [1, 2]) fun hS => ?_
       refine tSg 24 [] rfl rfl rfl rfl rfl rfl hf (by kernel_rfl) (by kernel_rfl) hS (fun w H => rq_loadIN hf H TF.la120 0 0 rfl rfl rfl rfl) fun a hf => ?_
       obtain ⟨y5, hy5, hGc5⟩ := bs_ hGc5
       refine n1g 25 (by kernel_rfl) rfl rfl rfl rfl hf (oC hf TF.cl213 (spec_l2Before_ok (S := TT) Fiber_mkv Fiber_mkv hy5) fun v5 w a hp5 hf => ?_)
       obtain ⟨hb5, hp5⟩ := hp5
       obtain rfl := VR_int hp5
       have H := H.keep hb5
       have hS := H.lt_ [true] [] [] [0, 1, 2]
       refine ⟨fun _ => hS, ?_⟩
       refine zg 26 hf hS fun a hf => ?_
       refine zg 27 hf hS fun a hf => ?_
       refine zp 28 hf hS fun a hf => ?_
       refine dn (by kernel_rfl) ?_
       obtain rfl := oi hGc5
       have hf := hf.pn [77, 1, 4]
       have H := H.lt_ [true] [] [] [3, 4]
       exact ⟨hf, H⟩
      ·have hf := hf.lit 62 rfl hc8
       refine zU 14 hf hS fun a hf => ?_
       refine zU 15 hf hS fun a hf => ?_
       refine zU 16 hf hS fun a hf => ?_
       refine zU 17 hf hS fun a hf => ?_
       refine zU 18 hf hS fun a hf => ?_
       refine zU 19 hf hS fun a hf => ?_
       refine zU 20 hf hS fun a hf => ?_
       refine zU 21 hf hS fun a hf => ?_
       refine zU 22 hf hS fun a hf => ?_
       refine zU 23 hf hS fun a hf => ?_
       refine zU 24 hf hS fun a hf => ?_
       refine zU 25 hf hS fun a hf => ?_
       refine zU 26 hf hS fun a hf => ?_
       refine zg 27 hf hS fun a hf => ?_
       refine zp 28 hf hS fun a hf => ?_
       refine dn (by kernel_rfl) ?_
       obtain rfl := oi hGc5
       have hf := hf.pn [77, 1, 4]
       have H := H.lt_ [true] [] [] [1, 2]
       exact ⟨hf, H⟩
    refine then_n (ib hR1 hf (fun hc9 hR1 => ?_) fun hc9 hR1 => ?_)
    ·refine sqz (pz 1 hf fun a hf => ?_)
     refine wl_end (then_n (wp_ret (blk_r (then_r (then_r (blk_r (then_r (then_r (?_)))))))))
     obtain rfl := oi hR1
     replace hF := on_ret hF
     obtain rfl := oi hF
     refine rT hf ?_
     exact ⟨_, rfl, H.bel, mk_bool⟩
    ·refine wp_skip (blk_n (then_n (reg (pz 3 hf fun a hf => ?_))))
     refine wl_end ?_
     have hf := hf.pn [1, 4]
     have H := H.lt_ [true] [] [] [0, 1]
     exact then_n ⟨w64 (i3 + 1), hR1, hf, H⟩
   ·refine wp_exit (then_x (then_x (blk_e (?_))))
    have hf := hf.pn [1, 4]
    have H := H.lt_ [true] [] [] [0, 1]
    exact ⟨i3, (Option.some.inj hR1).symm, hf, H⟩
  rintro a w ⟨i4, rfl, hf, H⟩
  replace hF := on_next hF
  refine then_n (sqz (pz 1 hf fun a hf => ?_))
  refine wer ?_
  obtain rfl := oi hF
  refine rT hf ?_
  exact ⟨_, rfl, H.bel, mk_bool⟩
theorem spec_l4Walk_ok {S : Nat → Prop} {v0_ : Value} {v1_ : Value} {n' : Network} {r' : Route} {r : List Int × Bool} (h0 : VR w0 S v0_ n') (h1 : VR w0 S v1_ r') (hF : spec_l4Walk fu n' r' = some r) :
    Calls Tryz.prog 215 [v0_, v1_].toArray w0 fun e w' => ∃ v, e = .returned v ∧ (Below w0.heap.size w0 w' ∧ ∃ F0, ∃ u0 u1, v = .tuple #[u0, u1] ∧ VO w' F0 u0 r.1 ∧ VR w' (St ⟨w0, []⟩ S [] [] [] true) u1 r.2 ∧ New w0 w' F0) := by
 obtain ⟨A, c, A2, c2, rfl, hl, hl2⟩ := Network_open h0
 obtain ⟨A3, c3, rfl, hl3⟩ := Route_open h1
 have H := Mem.start ⟨w0, []⟩ S
 have H := H.pA hl
 have H := H.pA hl2
 have H := H.pA hl3
 refine en Tryz.func215 fun a hf => ?_
 rw [spec_l4Walk] at hF
 refine bx hf H fun b' a w hf H => ?_
 refine wl0 rfl (op_box hf H rfl rfl (by decide) fun b2 a w hf H => ?_)
 refine pz 2 hf fun a hf => ?_
 refine wr (pz 1 hf fun a hf => ?_)
 refine lB 0 hf H TF.ls3 fun a hf => ?_
 refine wl0 rfl (bl hf H 3 ([r'.Start] : List Int) [(.int .i64 r'.Start)] (el1 (y := r'.Start) (rfl)) fun A4 a w hf H => ?_)
 refine pz 1 hf fun a hf => ?_
 refine wl_end (then_n (sq (sq ?_)))
 obtain ⟨c4, hGc4, hF⟩ := bs_ hF
 have fh := hf.prune [2, 3, 6] rfl
 have Hm := H.lt_ [true, true] [true] [] [0, 1, 2]
 refine midF 25 (.bool c4) fh Hm ?_ fun a w hf H => ?_
 ·refine reg (pz 1 hf fun a hf => ?_)
  refine lB 0 hf H TF.ls3 fun a hf => ?_
  refine pz 1 hf fun a hf => ?_
  refine lB 1 hf H TF.ls32 fun a hf => ?_
  refine pz 2 hf fun a hf => ?_
  obtain ⟨y, hy, hGc4⟩ := bs_ hGc4
  refine oc hf TF.cl68 (spec_l1In_ok (S := TT) mk_int mk_int mk_int hy) fun v w a hp hf => ?_
  obtain ⟨hb, hp⟩ := hp
  obtain rfl := VR_bool hp
  have H := H.keep hb
  refine pz 2 hf fun a hf => ?_
  refine iteB hGc4 (fun hc hGc4 => ?_) fun hc hGc4 => ?_
  ·have hf := hf.lit 20 rfl hc
   refine pz 5 hf fun a hf => ?_
   obtain rfl := oi hGc4
   have hf := hf.pn [25, 2, 3, 6]
   have H := H.lt_ [true, true] [true] [] [0, 1, 2]
   exact wl_end ⟨hf, H⟩
  ·have hf := hf.lit 20 rfl hc
   refine pz 1 hf fun a hf => ?_
   refine wlg hf rfl rfl rfl (op_q hf (rq_loadB hf H TF.ls29 0 rfl rfl rfl) rfl (by decide) fun a hf => ?_)
   refine pz 3 hf fun a hf => ?_
   obtain rfl := oi hGc4
   have hf := hf.pn [25, 2, 3, 6]
   have H := H.lt_ [true, true] [true] [] [0, 1, 2]
   exact wl_end ⟨hf, H⟩
 refine then_n (ib hF hf (fun hc2 hF => ?_) fun hc2 hF => ?_)
 ·refine sqz (pz 3 hf fun a hf => ?_)
  refine wl_end (then_n (wp_ret (then_r (?_))))
  have H := H.rowOwn 0 rfl rfl
  obtain ⟨F, H⟩ := H.freezeOwn 0 rfl
  have H := H.lend 0 rfl
  obtain rfl := oi hF
  refine ret_2 hf rfl (rv_tmp hf rfl) (rv_tmp hf rfl) ?_
  have hN := H.ends1
  exact ⟨_, rfl, H.bel, F, _, _, rfl, (mko_list (H.ownAt 0 rfl)), mk_bool, hN⟩
 ·refine wp_skip (then_n (sq (sqz (pz 1 hf fun a hf => ?_))))
  refine wl_end (then_n ?_)
  obtain ⟨out2, hB1, hF⟩ := bs_ hF
  have hf := hf.pn [2, 3, 6, 7]
  have H := H.lt_ [true, true] [true] [] [0, 1, 2]
  refine loopC (fun (s : List Int × Int) (a : Act) (w : World) => match s with | (out', i) => ∃ (A5 : Option Addr) (c5 : Nat) (E : Go.TypeId), Fr a 72 [(2, (.pointer (some ⟨b', 0, none⟩))), (3, (.pointer (some ⟨b2, 0, none⟩))), (6, (.slice A5 out'.length c5)), (7, (.int .i64 i))] ∧ Mem ⟨w0, []⟩ S [⟨b2, 52, [(.int .i64 r'.Start), (.slice A3 r'.Fibers.length c3)]⟩, ⟨b', 35, [(.slice A n'.Nodes.length c), (.slice A2 n'.Fibers.length c2)]⟩] [⟨.sh true, E, A5, c5, (out' : List Int)⟩] [] [(false, MP.val [(.slice A3 r'.Fibers.length c3)] (r'.Fibers : List Int)), (false, MP.val [(.slice A2 n'.Fibers.length c2)] (n'.Fibers : List Fiber)), (false, MP.val [(.slice A n'.Nodes.length c)] (n'.Nodes : List ByteArray))] w) (fun k (s : List Int × Int) => spec_l4Walk_L1 fu n' r' k s.1 s.2 = some out2) (fun s => out2 = Out.next s) ([r'.Start], 0) fu hB1 ⟨A4, 1, 3, hf, H⟩ (fun s h => by cases h) ?_ ?_
  ·rintro fk ⟨out', i⟩ a w hR1 hI
   replace hR1 : spec_l4Walk_L1 fu n' r' (fk + 1) out' i = some out2 := hR1
   rw [spec_l4Walk_L1] at hR1
   obtain ⟨A5, c5, E, hf, H⟩ := hI
   refine sq (sqz (pz 2 hf fun a hf => ?_))
   refine lB 0 hf H TF.ls29 fun a hf => ?_
   refine pz 2 hf fun a hf => ?_
   refine wl_end (then_n (ib hR1 hf (fun hc3 hR1 => ?_) fun hc3 hR1 => ?_))
   ·refine wp_skip (then_n (sq (wp_block (sq (sq (dw [] 11 fun w hb => ?_))))))
    have H := H.keep hb
    refine zp 0 hf trivial fun a hf => ?_
    refine strT (H.lt_ [true, false] [false] [] []) (fun w H => trivial) fun hS => ?_
    refine zS 1 [] rfl rfl rfl rfl hf hS (fun w H => rq_loadB hf H TF.ls29 0 rfl rfl rfl) fun a hf => ?_
    refine zp 2 hf hS fun a hf => ?_
    obtain ⟨e, he, hR1⟩ := bs_ hR1
    obtain ⟨p, o, cs, hx, hr, H⟩ := pre_iaddr H Tryz.underlying29 TF.sz3 0 rfl he
    refine zP 3 rfl rfl rfl rfl hf hS (fun w => rq_iaddrE hf rfl rfl rfl hx w) fun a hf => ?_
    obtain rfl := hr
    refine strT (H.lt_ [true, false] [false] [] [0]) (fun w H => H.lt_ [true] [] [] []) fun hS => ?_
    refine zS 4 [] rfl rfl rfl rfl hf hS (fun w H => rq_loadI hf H TF.ls3 0 0 rfl rfl rfl) fun a hf => ?_
    refine zp 5 hf hS fun a hf => ?_
    refine strT (H.lt_ [true, true] [false] [] [0]) (fun w H => H.lt_ [true, false] [] [] [0]) fun hS => ?_
    refine zS 6 [] rfl rfl rfl rfl hf hS (fun w H => rq_loadB hf H TF.ls33 1 rfl rfl rfl) fun a hf => ?_
    refine zp 7 hf hS fun a hf => ?_
    refine zp 8 hf hS fun a hf => ?_
    obtain ⟨y2, hy2, hR1⟩ := bs_ hR1
    refine nn 9 rfl (oC hf TF.cl68 (spec_l1In_ok (S := TT) mk_int mk_int mk_int hy2) fun v2 w a hp2 hf => ?_)
    obtain ⟨hb2, hp2⟩ := hp2
    obtain rfl := VR_bool hp2
    have H := H.keep hb2
    have hS := H.lt_ [true, true] [false] [] [0]
    refine ⟨fun _ => hS, ?_⟩
    refine zp 10 hf hS fun a hf => ?_
    refine dn (by kernel_rfl) ?_
    have hf := hf.pn [2, 3, 6, 7, 44]
    refine then_n (ib hR1 hf (fun hc4 hR1 => ?_) fun hc4 hR1 => ?_)
    ·refine sqz (pz 3 hf fun a hf => ?_)
     refine wl_end (then_n (wp_ret (then_r (blk_r (then_r (then_r (blk_r (then_r (then_r (?_))))))))))
     have H := H.rowOwn 0 rfl rfl
     obtain ⟨F2, H⟩ := H.freezeOwn 0 rfl
     have H := H.lend 0 rfl
     obtain rfl := oi hR1
     replace hF := on_ret hF
     obtain rfl := oi hF
     refine ret_2 hf rfl (rv_tmp hf rfl) (rv_tmp hf rfl) ?_
     have hN := H.ends1
     exact ⟨_, rfl, H.bel, F2, _, _, rfl, (mko_list (H.ownAt 0 rfl)), mk_bool, hN⟩
    ·refine wp_skip (then_n (sq (dw [] 14 fun w hb => ?_)))
     have H := H.keep hb
     refine strT (H.lt_ [false, true] [false] [] []) (fun w H => trivial) fun hS => ?_
     refine zS 0 [] rfl rfl rfl rfl hf hS (fun w H => rq_loadBN hf H TF.la35 0 rfl rfl rfl rfl) fun a hf => ?_
     refine zp 1 hf hS fun a hf => ?_
     refine strT (H.lt_ [true, true] [false] [] []) (fun w H => H.lt_ [false, true] [] [] []) fun hS => ?_
     refine zS 2 [] rfl rfl rfl rfl hf hS (fun w H => rq_loadB hf H TF.ls29 0 rfl rfl rfl) fun a hf => ?_
     refine zp 3 hf hS fun a hf => ?_
     obtain ⟨e2, he2, hR1⟩ := bs_ hR1
     obtain ⟨p2, o2, cs2, hx2, hr2, H⟩ := pre_iaddr H Tryz.underlying29 TF.sz3 1 rfl he2
     refine zP 4 rfl rfl rfl rfl hf hS (fun w => rq_iaddrE hf rfl rfl rfl hx2 w) fun a hf => ?_
     obtain rfl := hr2
     refine strT (H.lt_ [true, true] [false] [] [0]) (fun w H => H.lt_ [true, true] [] [] []) fun hS => ?_
     refine zS 5 [] rfl rfl rfl rfl hf hS (fun w H => rq_loadI hf H TF.ls3 0 0 rfl rfl rfl) fun a hf => ?_
     refine zp 6 hf hS fun a hf => ?_
     refine zp 7 hf hS fun a hf => ?_
     refine zp 8 hf hS fun a hf => ?_
     refine zp 9 hf hS fun a hf => ?_
     obtain ⟨e3, he3, hR1⟩ := bs_ hR1
     obtain ⟨p3, o3, hA, hx3⟩ := pre_iaddrR H Tryz.underlying29 TF.sz3 0 rfl he3
     refine zP 10 rfl rfl rfl rfl hf hS (fun w => rq_iaddrE hf rfl rfl rfl hx3 w) fun a hf => ?_
     refine strT (H.lt_ [true, true] [true] [] [0]) (fun w H => H.lt_ [true, true] [false] [] [0]) fun hS => ?_
     refine zS 11 [] rfl rfl rfl rfl hf hS (fun w H => rq_loadRow (off := 0) hf H TF.ls3 0 rfl rfl hA he3 (fun w T cs h => by obtain rfl := h; rfl)) fun a hf => ?_
     obtain ⟨y3, hy3, hR1⟩ := bs_ hR1
     refine nn 12 rfl (oC hf TF.cl251 (spec_l2Other_ok (S := TT) (Network_mkv (x := n') (H.rt 4 rfl) (H.rt 3 rfl)) mk_int mk_int hy3) fun v3 w a hp3 hf => ?_)
     obtain ⟨hb3, hp3⟩ := hp3
     obtain rfl := VR_int hp3
     have H := H.keep hb3
     have hS := H.lt_ [true, true] [true] [] [0]
     refine ⟨fun _ => hS, ?_⟩
     refine zp 13 hf hS fun a hf => ?_
     refine dn (by kernel_rfl) ?_
     have hf := hf.pn [2, 3, 6, 7, 8]
     refine then_n (sq (sq ?_))
     obtain ⟨c6, hGc6, hR1⟩ := bs_ hR1
     have fh2 := hf.prune [2, 3, 6, 7, 8] rfl
     have Hm2 := H.lt_ [true, true] [true] [] [2, 3, 4]
     refine midF 65 (.bool c6) fh2 Hm2 ?_ fun a w hf H => ?_
     ·refine reg (pz 3 hf fun a hf => ?_)
      refine iteB hGc6 (fun hc5 hGc6 => ?_) fun hc5 hGc6 => ?_
      ·have hf := hf.lit 61 rfl hc5
       refine pz 4 hf fun a hf => ?_
       obtain rfl := oi hGc6
       have hf := hf.pn [65, 2, 3, 6, 7, 8]
       have H := H.lt_ [true, true] [true] [] [2, 3, 4]
       exact wl_end ⟨hf, H⟩
      ·have hf := hf.lit 61 rfl hc5
       refine pz 2 hf fun a hf => ?_
       obtain ⟨y4, hy4, hGc6⟩ := bs_ hGc6
       refine wlg hf rfl rfl rfl (oC hf TF.cl148 (spec_l1Has_ok (S := TT) (mk_list (H.rowTrue 0 rfl)) mk_int hy4) fun v4 w a hp4 hf => ?_)
       obtain ⟨hb4, hp4⟩ := hp4
       obtain rfl := VR_bool hp4
       have H := H.keep hb4
       refine pz 1 hf fun a hf => ?_
       obtain rfl := oi hGc6
       have hf := hf.pn [65, 2, 3, 6, 7, 8]
       have H := H.lt_ [true, true] [true] [] [2, 3, 4]
       exact wl_end ⟨hf, H⟩
     refine then_n (ib hR1 hf (fun hc6 hR1 => ?_) fun hc6 hR1 => ?_)
     ·refine sqz (pz 3 hf fun a hf => ?_)
      refine wl_end (then_n (wp_ret (then_r (blk_r (then_r (then_r (blk_r (then_r (then_r (?_))))))))))
      have H := H.rowOwn 0 rfl rfl
      obtain ⟨F3, H⟩ := H.freezeOwn 0 rfl
      have H := H.lend 0 rfl
      obtain rfl := oi hR1
      replace hF := on_ret hF
      obtain rfl := oi hF
      refine ret_2 hf rfl (rv_tmp hf rfl) (rv_tmp hf rfl) ?_
      have hN := H.ends1
      exact ⟨_, rfl, H.bel, F3, _, _, rfl, (mko_list (H.ownAt 0 rfl)), mk_bool, hN⟩
     ·refine wp_skip (then_n (reg (pz 2 hf fun a hf => ?_)))
      refine wl0 rfl (bl hf H 3 ([y3] : List Int) [(.int .i64 y3)] (el1 (y := y3) (rfl)) fun A6 a w hf H => ?_)
      obtain ⟨l, hl, hR1⟩ := bs_ hR1
      refine wl0 rfl (op_appR hf H Tryz.underlying29 TF.ai3 rfl (by decide) 1 0 rfl rfl rfl rfl (.inr rfl) hl (by decide) fun E2 A7 c7 a w hf H => ?_)
      refine pz 1 hf fun a hf => ?_
      refine wl_end (blk_n (then_n (reg (pz 3 hf fun a hf => ?_))))
      refine wl_end ?_
      have hf := hf.pn [2, 3, 6, 7]
      have H := H.lt_ [true, true] [false, true] [] [0, 1, 2]
      exact then_n ⟨(l, w64 (i + 1)), hR1, A7, c7, E2, hf, H⟩
   ·refine wp_exit (then_x (then_x (blk_e (?_))))
    have hf := hf.pn [2, 3, 6, 7]
    have H := H.lt_ [true, true] [true] [] [0, 1, 2]
    exact ⟨(out', i), (Option.some.inj hR1).symm, A5, c5, E, hf, H⟩
  rintro a w ⟨⟨out3, i2⟩, rfl, A8, c8, E3, hf, H⟩
  replace hF := on_next hF
  try dsimp only at hF
  refine then_n (sqz (pz 3 hf fun a hf => ?_))
  refine wer ?_
  have H := H.rowOwn 0 rfl rfl
  obtain ⟨F4, H⟩ := H.freezeOwn 0 rfl
  have H := H.lend 0 rfl
  obtain rfl := oi hF
  refine ret_2 hf rfl (rv_tmp hf rfl) (rv_tmp hf rfl) ?_
  have hN := H.ends1
  exact ⟨_, rfl, H.bel, F4, _, _, rfl, (mko_list (H.ownAt 0 rfl)), mk_bool, hN⟩
theorem spec_l4Good_ok {S : Nat → Prop} {v0_ : Value} {v1_ : Value} {n' : Network} {r' : Route} {r : Bool} (h0 : VR w0 S v0_ n') (h1 : VR w0 S v1_ r') (hF : spec_l4Good fu n' r' = some r) :
    Calls Tryz.prog 146 [v0_, v1_].toArray w0 fun e w' => ∃ v, e = .returned v ∧ (Below w0.heap.size w0 w' ∧ VR w' (St ⟨w0, []⟩ S [] [] [] true) v r) := by
 obtain ⟨A, c, A2, c2, rfl, hl, hl2⟩ := Network_open h0
 obtain ⟨A3, c3, rfl, hl3⟩ := Route_open h1
 have H := Mem.start ⟨w0, []⟩ S
 have H := H.pA hl
 have H := H.pA hl2
 have H := H.pA hl3
 refine en Tryz.func146 fun a hf => ?_
 rw [spec_l4Good] at hF
 refine bx hf H fun b' a w hf H => ?_
 refine wl0 rfl (op_box hf H rfl rfl (by decide) fun b2 a w hf H => ?_)
 refine pz 1 hf fun a hf => ?_
 refine wl_end (then_n (sq (sq (reg (lN 1 hf H TF.la35 fun a hf => ?_)))))
 obtain ⟨y, hy, hF⟩ := bs_ hF
 refine oc hf TF.cl143 (spec_l2Good_ok (S := TT) (Network_mkv (x := n') (H.rt 2 rfl) (H.rt 1 rfl)) hy) fun v w a hp hf => ?_
 obtain ⟨hb, hp⟩ := hp
 obtain rfl := VR_bool hp
 have H := H.keep hb
 refine pz 1 hf fun a hf => ?_
 refine wl_end (then_n (ib hF hf (fun hc hF => ?_) fun hc hF => ?_))
 ·refine sqz (pz 1 hf fun a hf => ?_)
  refine wl_end (then_n (wp_ret (then_r (?_))))
  obtain rfl := oi hF
  refine rT hf ?_
  exact ⟨_, rfl, H.bel, mk_bool⟩
 ·refine wp_skip (then_n (sq (reg (lN 1 hf H TF.la35 fun a hf => ?_))))
  refine lN 0 hf H TF.la52 fun a hf => ?_
  obtain ⟨y2, hy2, hF⟩ := bs_ hF
  refine oc hf TF.cl215 (spec_l4Walk_ok (S := TT) (Network_mkv (x := n') (H.rt 2 rfl) (H.rt 1 rfl)) (Route_mkv (x := r') (H.rt 0 rfl)) hy2) fun v2 w a hp2 hf => ?_
  obtain ⟨hb2, F, v3, v4, rfl, hp3, hp4, hN⟩ := hp2
  obtain ⟨A4, c4, rfl, hl4⟩ := VO_list hp3
  obtain rfl := VR_bool hp4
  have H := H.aO1 hb2 hN hl4
  have H := H.lend 0 rfl
  refine pz 5 hf fun a hf => ?_
  have hf := hf.pn [6]
  refine wr (pz 2 hf fun a hf => ?_)
  refine wer ?_
  obtain rfl := oi hF
  refine rT hf ?_
  exact ⟨_, rfl, H.bel, mk_bool⟩
theorem spec_l8Good_ok {S : Nat → Prop} {v0_ : Value} {b' : Block} {r : Bool} (h0 : VR w0 S v0_ b') (hF : spec_l8Good fu b' = some r) :
    Calls Tryz.prog 214 [v0_].toArray w0 fun e w' => ∃ v, e = .returned v ∧ (Below w0.heap.size w0 w' ∧ VR w' (St ⟨w0, []⟩ S [] [] [] true) v r) := by
 obtain rfl := Block_open h0
 have H := Mem.start ⟨w0, []⟩ S
 refine en Tryz.func214 fun a hf => ?_
 rw [spec_l8Good] at hF
 refine bx hf H fun b2 a w hf H => ?_
 refine pz 1 hf fun a hf => ?_
 refine wl_end (then_n (sq ?_))
 obtain ⟨c, hGc, hF⟩ := bs_ hF
 have fh := hf.prune [] rfl
 have Hm := H.lt_ [false] [] [] []
 refine midF 2 (.bool c) fh Hm ?_ fun a w hf H => ?_
 ·refine reg (pz 1 hf fun a hf => ?_)
  refine lB 0 hf H TF.ls3 fun a hf => ?_
  obtain ⟨y, hy, hGc⟩ := bs_ hGc
  refine oc hf TF.cl68 (spec_l1In_ok (S := TT) mk_int mk_int mk_int hy) fun v w a hp hf => ?_
  obtain ⟨hb, hp⟩ := hp
  obtain rfl := VR_bool hp
  have H := H.keep hb
  refine pz 1 hf fun a hf => ?_
  refine iteB hGc (fun hc hGc => ?_) fun hc hGc => ?_
  ·have hf := hf.lit 6 rfl hc
   refine pz 1 hf fun a hf => ?_
   refine wlg hf rfl rfl rfl (op_q hf (rq_loadB hf H TF.ls3 0 rfl rfl rfl) rfl (by decide) fun a hf => ?_)
   refine pz 1 hf fun a hf => ?_
   refine wlg hf rfl rfl rfl (op_q hf (rq_loadB hf H TF.ls3 0 rfl rfl rfl) rfl (by decide) fun a hf => ?_)
   refine pz 1 hf fun a hf => ?_
   obtain ⟨y2, hy2, hGc⟩ := bs_ hGc
   refine wlg hf rfl rfl rfl (oC hf TF.cl68 (spec_l1In_ok (S := TT) mk_int mk_int mk_int hy2) fun v2 w a hp2 hf => ?_)
   obtain ⟨hb2, hp2⟩ := hp2
   obtain rfl := VR_bool hp2
   have H := H.keep hb2
   refine pz 2 hf fun a hf => ?_
   obtain rfl := oi hGc
   have hf := hf.pn [2]
   have H := H.lt_ [false] [] [] []
   exact wl_end ⟨hf, H⟩
  ·have hf := hf.lit 6 rfl hc
   refine pz 8 hf fun a hf => ?_
   obtain rfl := oi hGc
   have hf := hf.pn [2]
   have H := H.lt_ [false] [] [] []
   exact wl_end ⟨hf, H⟩
 refine then_n (wp_ret (?_))
 obtain rfl := oi hF
 refine rT hf ?_
 exact ⟨_, rfl, H.bel, mk_bool⟩
theorem spec_l9Light_ok {S : Nat → Prop} {v0_ : Value} {v1_ : Value} {n' : Network} {x1 : Light} {r : Bool} (h0 : VR w0 S v0_ n') (h1 : VR w0 S v1_ x1) (hF : spec_l9Light fu n' x1 = some r) :
    Calls Tryz.prog 144 [v0_, v1_].toArray w0 fun e w' => ∃ v, e = .returned v ∧ (Below w0.heap.size w0 w' ∧ VR w' (St ⟨w0, []⟩ S [] [] [] true) v r) := by
 obtain ⟨A, c, A2, c2, rfl, hl, hl2⟩ := Network_open h0
 obtain ⟨A3, c3, rfl, hl3⟩ := Light_open h1
 have H := Mem.start ⟨w0, []⟩ S
 have H := H.pA hl
 have H := H.pA hl2
 have H := H.pA hl3
 refine en Tryz.func144 fun a hf => ?_
 rw [spec_l9Light] at hF
 refine bx hf H fun b' a w hf H => ?_
 refine wl0 rfl (op_box hf H rfl rfl (by decide) fun b2 a w hf H => ?_)
 refine pz 1 hf fun a hf => ?_
 refine wl_end (then_n (sq ?_))
 obtain ⟨c4, hGc4, hF⟩ := bs_ hF
 have fh := hf.prune [] rfl
 have Hm := H.lt_ [false, false] [] [] []
 refine midF 4 (.bool c4) fh Hm ?_ fun a w hf H => ?_
 ·refine reg (pz 1 hf fun a hf => ?_)
  refine lB 0 hf H TF.ls3 fun a hf => ?_
  obtain ⟨y, hy, hGc4⟩ := bs_ hGc4
  refine oc hf TF.cl68 (spec_l1In_ok (S := TT) mk_int mk_int mk_int hy) fun v w a hp hf => ?_
  obtain ⟨hb, hp⟩ := hp
  obtain rfl := VR_bool hp
  have H := H.keep hb
  refine pz 1 hf fun a hf => ?_
  refine iteB hGc4 (fun hc hGc4 => ?_) fun hc hGc4 => ?_
  ·have hf := hf.lit 8 rfl hc
   refine wlg hf rfl rfl rfl (op_q hf (rq_loadBN hf H TF.la35 1 rfl rfl rfl rfl) rfl (by decide) fun a hf => ?_)
   refine pz 1 hf fun a hf => ?_
   refine wlg hf rfl rfl rfl (op_q hf (rq_loadBN hf H TF.la52 0 rfl rfl rfl rfl) rfl (by decide) fun a hf => ?_)
   obtain ⟨y2, hy2, hGc4⟩ := bs_ hGc4
   refine wlg hf rfl rfl rfl (oC hf TF.cl146 (spec_l4Good_ok (S := TT) (Network_mkv (x := n') (H.rt 2 rfl) (H.rt 1 rfl)) (Route_mkv (x := x1.Route) (H.rt 0 rfl)) hy2) fun v2 w a hp2 hf => ?_)
   obtain ⟨hb2, hp2⟩ := hp2
   obtain rfl := VR_bool hp2
   have H := H.keep hb2
   refine pz 2 hf fun a hf => ?_
   refine iteB hGc4 (fun hc2 hGc4 => ?_) fun hc2 hGc4 => ?_
   ·have hf := hf.lit 14 rfl hc2
    refine pz 1 hf fun a hf => ?_
    refine wlg hf rfl rfl rfl (op_q hf (rq_loadBN hf H TF.la54 0 rfl rfl rfl rfl) rfl (by decide) fun a hf => ?_)
    obtain ⟨y3, hy3, hGc4⟩ := bs_ hGc4
    refine wlg hf rfl rfl rfl (oC hf TF.cl214 (spec_l8Good_ok (S := TT) Block_mkv hy3) fun v3 w a hp3 hf => ?_)
    obtain ⟨hb3, hp3⟩ := hp3
    obtain rfl := VR_bool hp3
    have H := H.keep hb3
    refine pz 2 hf fun a hf => ?_
    obtain rfl := oi hGc4
    have hf := hf.pn [4]
    have H := H.lt_ [false, false] [] [] []
    exact wl_end ⟨hf, H⟩
   ·have hf := hf.lit 14 rfl hc2
    refine pz 5 hf fun a hf => ?_
    obtain rfl := oi hGc4
    have hf := hf.pn [4]
    have H := H.lt_ [false, false] [] [] []
    exact wl_end ⟨hf, H⟩
  ·have hf := hf.lit 8 rfl hc
   refine pz 11 hf fun a hf => ?_
   obtain rfl := oi hGc4
   have hf := hf.pn [4]
   have H := H.lt_ [false, false] [] [] []
   exact wl_end ⟨hf, H⟩
 refine then_n (wp_ret (?_))
 obtain rfl := oi hF
 refine rT hf ?_
 exact ⟨_, rfl, H.bel, mk_bool⟩
theorem spec_l4Uses_ok {S : Nat → Prop} {v0_ : Value} {v1_ : Value} {r' : Route} {group : List Int} {r : Bool} (h0 : VR w0 S v0_ r') (h1 : VR w0 S v1_ group) (hF : spec_l4Uses fu r' group = some r) :
    Calls Tryz.prog 152 [v0_, v1_].toArray w0 fun e w' => ∃ v, e = .returned v ∧ (Below w0.heap.size w0 w' ∧ VR w' (St ⟨w0, []⟩ S [] [] [] true) v r) := by
 obtain ⟨A, c, rfl, hl⟩ := Route_open h0
 obtain ⟨A2, c2, rfl, hl2⟩ := VR_list h1
 have H := Mem.start ⟨w0, []⟩ S
 have H := H.pA hl
 have H := H.pA hl2
 refine en Tryz.func152 fun a hf => ?_
 rw [spec_l4Uses] at hF
 refine bx hf H fun b' a w hf H => ?_
 refine pz 1 hf fun a hf => ?_
 refine wl_end (then_n (sq (sqz (pz 1 hf fun a hf => ?_))))
 refine wl_end (then_n ?_)
 obtain ⟨out', hB1, hF⟩ := bs_ hF
 have hf := hf.pn [1, 2, 5]
 have H := H.lt_ [true] [] [] [0, 1]
 refine loopC (fun (s : Int) (a : Act) (w : World) => match s with | i => Fr a 20 [(1, (.slice A2 group.length c2)), (2, (.pointer (some ⟨b', 0, none⟩))), (5, (.int .i64 i))] ∧ Mem ⟨w0, []⟩ S [⟨b', 52, [(.int .i64 r'.Start), (.slice A r'.Fibers.length c)]⟩] [] [] [(false, MP.val [(.slice A2 group.length c2)] (group : List Int)), (false, MP.val [(.slice A r'.Fibers.length c)] (r'.Fibers : List Int))] w) (fun k (s : Int) => spec_l4Uses_L1 fu r' group k s = some out') (fun s => out' = Out.next s) 0 fu hB1 ⟨hf, H⟩ (fun s h => by cases h) ?_ ?_
 ·rintro fk i a w hR1 hI
  replace hR1 : spec_l4Uses_L1 fu r' group (fk + 1) i = some out' := hR1
  rw [spec_l4Uses_L1] at hR1
  obtain ⟨hf, H⟩ := hI
  refine sq (sqz (pz 2 hf fun a hf => ?_))
  refine lB 0 hf H TF.ls29 fun a hf => ?_
  refine pz 2 hf fun a hf => ?_
  refine wl_end (then_n (ib hR1 hf (fun hc hR1 => ?_) fun hc hR1 => ?_))
  ·refine ws (pz 2 hf fun a hf => ?_)
   refine lB 0 hf H TF.ls29 fun a hf => ?_
   refine pz 1 hf fun a hf => ?_
   obtain ⟨e, he, hR1⟩ := bs_ hR1
   refine wl0 rfl (op_iaddr hf H Tryz.underlying29 TF.sz3 1 rfl rfl rfl he (by decide) fun p o cs a hf hr H => ?_)
   obtain rfl := hr
   refine oq hf (rq_loadI hf H TF.ls3 0 0 rfl rfl rfl) fun a hf => ?_
   obtain ⟨y, hy, hR1⟩ := bs_ hR1
   refine oc hf TF.cl148 (spec_l1Has_ok (S := TT) (mk_list (H.rt 1 rfl)) mk_int hy) fun v w a hp hf => ?_
   obtain ⟨hb, hp⟩ := hp
   obtain rfl := VR_bool hp
   have H := H.keep hb
   refine wl_end (then_n (ib hR1 hf (fun hc2 hR1 => ?_) fun hc2 hR1 => ?_))
   ·refine sqz (pz 1 hf fun a hf => ?_)
    have hf := hf.pn [4]
    refine wl_end (then_n (wp_ret (blk_r (then_r (then_r (blk_r (then_r (then_r (?_)))))))))
    obtain rfl := oi hR1
    replace hF := on_ret hF
    obtain rfl := oi hF
    refine rT hf ?_
    exact ⟨_, rfl, H.bel, mk_bool⟩
   ·refine wp_skip (blk_n (then_n (reg (pz 3 hf fun a hf => ?_))))
    have hf := hf.pn [1, 2, 5]
    refine wl_end ?_
    have hf := hf.pn [1, 2, 5]
    have H := H.lt_ [true] [] [] [1, 2]
    exact then_n ⟨w64 (i + 1), hR1, hf, H⟩
  ·refine wp_exit (then_x (then_x (blk_e (?_))))
   have hf := hf.pn [1, 2, 5]
   have H := H.lt_ [true] [] [] [0, 1]
   exact ⟨i, (Option.some.inj hR1).symm, hf, H⟩
 rintro a w ⟨i2, rfl, hf, H⟩
 replace hF := on_next hF
 refine then_n (sqz (pz 1 hf fun a hf => ?_))
 refine wer ?_
 obtain rfl := oi hF
 refine rT hf ?_
 exact ⟨_, rfl, H.bel, mk_bool⟩
theorem spec_l9Collide_ok {S : Nat → Prop} {v0_ : Value} {v1_ : Value} {x1 : Light} {y : Light} {r : Bool} (h0 : VR w0 S v0_ x1) (h1 : VR w0 S v1_ y) (hF : spec_l9Collide fu x1 y = some r) :
    Calls Tryz.prog 145 [v0_, v1_].toArray w0 fun e w' => ∃ v, e = .returned v ∧ (Below w0.heap.size w0 w' ∧ VR w' (St ⟨w0, []⟩ S [] [] [] true) v r) := by
 obtain ⟨A, c, rfl, hl⟩ := Light_open h0
 obtain ⟨A2, c2, rfl, hl2⟩ := Light_open h1
 have H := Mem.start ⟨w0, []⟩ S
 have H := H.pA hl
 have H := H.pA hl2
 refine en Tryz.func145 fun a hf => ?_
 rw [spec_l9Collide] at hF
 refine bx hf H fun b' a w hf H => ?_
 refine wl0 rfl (op_box hf H rfl rfl (by decide) fun b2 a w hf H => ?_)
 refine pz 1 hf fun a hf => ?_
 refine wl_end (then_n (sq ?_))
 obtain ⟨c3, hGc3, hF⟩ := bs_ hF
 have fh := hf.prune [] rfl
 have Hm := H.lt_ [false, false] [] [] []
 refine midF 4 (.bool c3) fh Hm ?_ fun a w hf H => ?_
 ·refine dw [] 17 fun w hb => ?_
  have H := H.keep hb
  refine zp 0 hf trivial fun a hf => ?_
  refine strT (H.lt_ [false, true] [] [] []) (fun w H => trivial) fun hS => ?_
  refine zS 1 [] rfl rfl rfl rfl hf hS (fun w H => rq_loadBN hf H TF.la52 0 rfl rfl rfl rfl) fun a hf => ?_
  refine zp 2 hf hS fun a hf => ?_
  refine zp 3 hf hS fun a hf => ?_
  refine strT (H.lt_ [true, true] [] [] []) (fun w H => H.lt_ [false, true] [] [] []) fun hS => ?_
  refine zS 4 [] rfl rfl rfl rfl hf hS (fun w H => rq_loadB hf H TF.ls29 0 rfl rfl rfl) fun a hf => ?_
  obtain ⟨y2, hy2, hGc3⟩ := bs_ hGc3
  refine nn 5 rfl (oC hf TF.cl152 (spec_l4Uses_ok (S := TT) (Route_mkv (x := x1.Route) (H.rt 1 rfl)) (mk_list (H.rt 0 rfl)) hy2) fun v w a hp hf => ?_)
  obtain ⟨hb, hp⟩ := hp
  obtain rfl := VR_bool hp
  have H := H.keep hb
  have hS := H.lt_ [true, true] [] [] []
  refine ⟨fun _ => hS, ?_⟩
  refine zp 6 hf hS fun a hf => ?_
  refine iteB hGc3 (fun hc hGc3 => ?_) fun hc hGc3 => ?_
  ·have hf := hf.lit 11 rfl hc
   refine zg 7 hf hS fun a hf => ?_
   refine tSg 8 [] rfl rfl rfl rfl rfl rfl hf (by kernel_rfl) (by kernel_rfl) hS (fun w H => rq_loadBN hf H TF.la54 1 rfl rfl rfl rfl) fun a hf => ?_
   refine zg 10 hf hS fun a hf => ?_
   refine tSg 11 [] rfl rfl rfl rfl rfl rfl hf (by kernel_rfl) (by kernel_rfl) hS (fun w H => rq_loadBN hf H TF.la54 0 rfl rfl rfl rfl) fun a hf => ?_
   obtain ⟨y3, hy3, hGc3⟩ := bs_ hGc3
   refine n1g 9 (by kernel_rfl) rfl rfl rfl rfl hf (oC hf TF.cl149 (spec_l8Bits_ok (S := TT) Block_mkv hy3) fun v2 w a hp2 hf => ?_)
   obtain ⟨hb2, hp2⟩ := hp2
   obtain rfl := VR_int hp2
   have H := H.keep hb2
   have hS := H.lt_ [true, true] [] [] []
   refine ⟨fun _ => hS, ?_⟩
   obtain ⟨y4, hy4, hGc3⟩ := bs_ hGc3
   refine n1g 12 (by kernel_rfl) rfl rfl rfl rfl hf (oC hf TF.cl149 (spec_l8Bits_ok (S := TT) Block_mkv hy4) fun v3 w a hp3 hf => ?_)
   obtain ⟨hb3, hp3⟩ := hp3
   obtain rfl := VR_int hp3
   have H := H.keep hb3
   have hS := H.lt_ [true, true] [] [] []
   refine ⟨fun _ => hS, ?_⟩
   refine zg 13 hf hS fun a hf => ?_
   refine zg 14 hf hS fun a hf => ?_
   refine zp 15 hf hS fun a hf => ?_
   refine zp 16 hf hS fun a hf => ?_
   refine dn (by kernel_rfl) ?_
   obtain rfl := oi hGc3
   have hf := hf.pn [4]
   have H := H.lt_ [false, false] [] [] []
   exact ⟨hf, H⟩
  ·have hf := hf.lit 11 rfl hc
   refine zU 7 hf hS fun a hf => ?_
   refine zU 8 hf hS fun a hf => ?_
   refine zU 9 hf hS fun a hf => ?_
   refine zU 10 hf hS fun a hf => ?_
   refine zU 11 hf hS fun a hf => ?_
   refine zU 12 hf hS fun a hf => ?_
   refine zU 13 hf hS fun a hf => ?_
   refine zU 14 hf hS fun a hf => ?_
   refine zp 15 hf hS fun a hf => ?_
   refine zp 16 hf hS fun a hf => ?_
   refine dn (by kernel_rfl) ?_
   obtain rfl := oi hGc3
   have hf := hf.pn [4]
   have H := H.lt_ [false, false] [] [] []
   exact ⟨hf, H⟩
 refine then_n (wp_ret (?_))
 obtain rfl := oi hF
 refine rT hf ?_
 exact ⟨_, rfl, H.bel, mk_bool⟩
theorem spec_l9Good_ok {S : Nat → Prop} {v0_ : Value} {p : Plan} {r : Bool} (h0 : VR w0 S v0_ p) (hF : spec_l9Good fu p = some r) :
    Calls Tryz.prog 67 [v0_].toArray w0 fun e w' => ∃ v, e = .returned v ∧ (Below w0.heap.size w0 w' ∧ VR w' (St ⟨w0, []⟩ S [] [] [] true) v r) := by
 obtain ⟨A, c, A2, c2, A3, c3, rfl, hl, hl2, hl3⟩ := Plan_open h0
 have H := Mem.start ⟨w0, []⟩ S
 have H := H.pA hl
 have H := H.pA hl2
 have H := H.pA hl3
 refine en Tryz.func67 fun a hf => ?_
 rw [spec_l9Good] at hF
 refine bx hf H fun b' a w hf H => ?_
 refine pz 1 hf fun a hf => ?_
 refine wl_end (then_n (sq (sq ?_)))
 obtain ⟨c4, hGc4, hF⟩ := bs_ hF
 have fh := hf.prune [1] rfl
 have Hm := H.lt_ [true] [] [] [0, 1, 2]
 refine midF 14 (.bool c4) fh Hm ?_ fun a w hf H => ?_
 ·refine reg (pz 1 hf fun a hf => ?_)
  refine lN 0 hf H TF.la35 fun a hf => ?_
  obtain ⟨y, hy, hGc4⟩ := bs_ hGc4
  refine oc hf TF.cl143 (spec_l2Good_ok (S := TT) (Network_mkv (x := p.Network) (H.rt 2 rfl) (H.rt 1 rfl)) hy) fun v w a hp hf => ?_
  obtain ⟨hb, hp⟩ := hp
  obtain rfl := VR_bool hp
  have H := H.keep hb
  refine pz 2 hf fun a hf => ?_
  refine iteB hGc4 (fun hc hGc4 => ?_) fun hc hGc4 => ?_
  ·have hf := hf.lit 9 rfl hc
   refine pz 5 hf fun a hf => ?_
   obtain rfl := oi hGc4
   have hf := hf.pn [14, 1]
   have H := H.lt_ [true] [] [] [0, 1, 2]
   exact wl_end ⟨hf, H⟩
  ·have hf := hf.lit 9 rfl hc
   refine pz 1 hf fun a hf => ?_
   refine wlg hf rfl rfl rfl (op_q hf (rq_loadB hf H TF.ls36 0 rfl rfl rfl) rfl (by decide) fun a hf => ?_)
   refine pz 3 hf fun a hf => ?_
   obtain rfl := oi hGc4
   have hf := hf.pn [14, 1]
   have H := H.lt_ [true] [] [] [0, 1, 2]
   exact wl_end ⟨hf, H⟩
 refine then_n (ib hF hf (fun hc2 hF => ?_) fun hc2 hF => ?_)
 ·refine sqz (pz 1 hf fun a hf => ?_)
  refine wl_end (then_n (wp_ret (then_r (?_))))
  obtain rfl := oi hF
  refine rT hf ?_
  exact ⟨_, rfl, H.bel, mk_bool⟩
 ·refine wp_skip (then_n (sq (sqz (pz 1 hf fun a hf => ?_))))
  refine wl_end (then_n ?_)
  obtain ⟨out', hB1, hF⟩ := bs_ hF
  have hf := hf.pn [1, 3]
  have H := H.lt_ [true] [] [] [0, 1, 2]
  refine loopC (fun (s : Int) (a : Act) (w : World) => match s with | i => Fr a 67 [(1, (.pointer (some ⟨b', 0, none⟩))), (3, (.int .i64 i))] ∧ Mem ⟨w0, []⟩ S [⟨b', 38, [(.slice A p.Network.Nodes.length c), (.slice A2 p.Network.Fibers.length c2), (.slice A3 p.Lights.length c3)]⟩] [] [] [(false, MP.val [(.slice A3 p.Lights.length c3)] (p.Lights : List Light)), (false, MP.val [(.slice A2 p.Network.Fibers.length c2)] (p.Network.Fibers : List Fiber)), (false, MP.val [(.slice A p.Network.Nodes.length c)] (p.Network.Nodes : List ByteArray))] w) (fun k (s : Int) => spec_l9Good_L1 fu p k s = some out') (fun s => out' = Out.next s) 0 fu hB1 ⟨hf, H⟩ (fun s h => by cases h) ?_ ?_
  ·rintro fk i a w hR1 hI
   replace hR1 : spec_l9Good_L1 fu p (fk + 1) i = some out' := hR1
   rw [spec_l9Good_L1] at hR1
   obtain ⟨hf, H⟩ := hI
   refine sq (sqz (pz 2 hf fun a hf => ?_))
   refine lB 0 hf H TF.ls36 fun a hf => ?_
   refine pz 2 hf fun a hf => ?_
   refine wl_end (then_n (ib hR1 hf (fun hc3 hR1 => ?_) fun hc3 hR1 => ?_))
   ·refine wp_skip (then_n (sq (wp_block (sq (sq ?_)))))
    obtain ⟨c5, hGc5, hR1⟩ := bs_ hR1
    have fh2 := hf.prune [1, 3] rfl
    have Hm2 := H.lt_ [true] [] [] [0, 1, 2]
    refine midF 50 (.bool c5) fh2 Hm2 ?_ fun a w hf H => ?_
    ·refine dw [] 29 fun w hb => ?_
     have H := H.keep hb
     refine zp 0 hf trivial fun a hf => ?_
     refine strT (H.lt_ [true] [] [] []) (fun w H => trivial) fun hS => ?_
     refine zS 1 [] rfl rfl rfl rfl hf hS (fun w H => rq_loadBN hf H TF.la35 0 rfl rfl rfl rfl) fun a hf => ?_
     refine zp 2 hf hS fun a hf => ?_
     refine zS 3 [] rfl rfl rfl rfl hf hS (fun w H => rq_loadB hf H TF.ls36 0 rfl rfl rfl) fun a hf => ?_
     refine zp 4 hf hS fun a hf => ?_
     obtain ⟨e, he, hGc5⟩ := bs_ hGc5
     obtain ⟨p2, o, cs, hx, hr, H⟩ := pre_iaddr H Tryz.underlying36 TF.sz56 0 rfl he
     refine zP 5 rfl rfl rfl rfl hf hS (fun w => rq_iaddrE hf rfl rfl rfl hx w) fun a hf => ?_
     obtain ⟨A4, c6, rfl, hl4⟩ := Light_cells hr
     have H := H.pF hl4
     refine strT (H.lt_ [true] [] [] [1]) (fun w H => H.lt_ [true] [] [] []) fun hS => ?_
     refine zS 6 [] rfl rfl rfl rfl hf hS (fun w H => rq_loadIN hf H TF.la56 0 0 rfl rfl rfl rfl) fun a hf => ?_
     obtain ⟨y2, hy2, hGc5⟩ := bs_ hGc5
     refine nn 7 rfl (oC hf TF.cl144 (spec_l9Light_ok (S := TT) (Network_mkv (x := p.Network) (H.rt 4 rfl) (H.rt 3 rfl)) (Light_mkv (x := e) (H.rt 0 rfl)) hy2) fun v2 w a hp2 hf => ?_)
     obtain ⟨hb2, hp2⟩ := hp2
     obtain rfl := VR_bool hp2
     have H := H.keep hb2
     have hS := H.lt_ [true] [] [] [1]
     refine ⟨fun _ => hS, ?_⟩
     refine zp 8 hf hS fun a hf => ?_
     refine zp 9 hf hS fun a hf => ?_
     refine iteB hGc5 (fun hc4 hGc5 => ?_) fun hc4 hGc5 => ?_
     ·have hf := hf.lit 31 rfl hc4
      refine zU 10 hf hS fun a hf => ?_
      refine zU 11 hf hS fun a hf => ?_
      refine zU 12 hf hS fun a hf => ?_
      refine zV 13 hf hS fun a hf => ?_
      refine zV 14 hf hS fun a hf => ?_
      refine zV 15 hf hS fun a hf => ?_
      refine zV 16 hf hS fun a hf => ?_
      refine zV 17 hf hS fun a hf => ?_
      refine zV 18 hf hS fun a hf => ?_
      refine zV 19 hf hS fun a hf => ?_
      refine zV 20 hf hS fun a hf => ?_
      refine zV 21 hf hS fun a hf => ?_
      refine zV 22 hf hS fun a hf => ?_
      refine zV 23 hf hS fun a hf => ?_
      refine zV 24 hf hS fun a hf => ?_
      refine zV 25 hf hS fun a hf => ?_
      refine zV 26 hf hS fun a hf => ?_
      refine zU 27 hf hS fun a hf => ?_
      refine zp 28 hf hS fun a hf => ?_
      refine dn (by kernel_rfl) ?_
      obtain rfl := oi hGc5
      have hf := hf.pn [50, 1, 3]
      have H := H.lt_ [true] [] [] [2, 3, 4]
      exact ⟨hf, H⟩
     ·have hf := hf.lit 31 rfl hc4
      refine zg 10 hf hS fun a hf => ?_
      refine zg 11 hf hS fun a hf => ?_
      refine zg 12 hf hS fun a hf => ?_
      refine iteB hGc5 (fun hc5 hGc5 => ?_) fun hc5 hGc5 => ?_
      ·have hf := hf.lit 34 rfl hc5
       refine zg 13 hf hS fun a hf => ?_
       refine tSg 14 [] rfl rfl rfl rfl rfl rfl hf (by kernel_rfl) (by kernel_rfl) hS (fun w H => rq_loadB hf H TF.ls36 0 rfl rfl rfl) fun a hf => ?_
       refine zg 15 hf hS fun a hf => ?_
       refine zg 16 hf hS fun a hf => ?_
       obtain ⟨e2, he2, hGc5⟩ := bs_ hGc5
       obtain ⟨p3, o2, cs2, hx2, hr2, H⟩ := pre_iaddr H Tryz.underlying36 TF.sz56 2 rfl he2
       refine tPg 17 rfl rfl rfl rfl rfl rfl hf (by kernel_rfl) (fun _ => hS) (fun w => rq_iaddrE hf rfl rfl rfl hx2 w) fun a hf => ?_
       obtain ⟨A5, c7, rfl, hl5⟩ := Light_cells hr2
       have H := H.pF hl5
       refine zg 18 hf hS fun a hf => ?_
       refine strT (H.lt_ [true] [] [] [1, 3]) (fun w H => H.lt_ [true] [] [] [1]) fun hS => ?_
       refine tSg 19 [] rfl rfl rfl rfl rfl rfl hf (by kernel_rfl) (by kernel_rfl) hS (fun w H => rq_loadI hf H TF.ls3 0 0 rfl rfl rfl) fun a hf => ?_
       refine zg 20 hf hS fun a hf => ?_
       refine tSg 21 [] rfl rfl rfl rfl rfl rfl hf (by kernel_rfl) (by kernel_rfl) hS (fun w H => rq_loadB hf H TF.ls36 0 rfl rfl rfl) fun a hf => ?_
       refine zg 22 hf hS fun a hf => ?_
       obtain ⟨e3, he3, hGc5⟩ := bs_ hGc5
       obtain ⟨p4, o3, cs3, hx3, hr3, H⟩ := pre_iaddr H Tryz.underlying36 TF.sz56 4 rfl he3
       refine tPg 23 rfl rfl rfl rfl rfl rfl hf (by kernel_rfl) (fun _ => hS) (fun w => rq_iaddrE hf rfl rfl rfl hx3 w) fun a hf => ?_
       obtain ⟨A6, c8, rfl, hl6⟩ := Light_cells hr3
       have H := H.pF hl6
       refine zg 24 hf hS fun a hf => ?_
       refine strT (H.lt_ [true] [] [] [1, 3, 5]) (fun w H => H.lt_ [true] [] [] [1, 2]) fun hS => ?_
       refine tSg 25 [] rfl rfl rfl rfl rfl rfl hf (by kernel_rfl) (by kernel_rfl) hS (fun w H => rq_loadI hf H TF.ls3 0 0 rfl rfl rfl) fun a hf => ?_
       refine zg 26 hf hS fun a hf => ?_
       refine zg 27 hf hS fun a hf => ?_
       refine zp 28 hf hS fun a hf => ?_
       refine dn (by kernel_rfl) ?_
       obtain rfl := oi hGc5
       have hf := hf.pn [50, 1, 3]
       have H := H.lt_ [true] [] [] [6, 7, 8]
       exact ⟨hf, H⟩
      ·have hf := hf.lit 34 rfl hc5
       refine zU 13 hf hS fun a hf => ?_
       refine zU 14 hf hS fun a hf => ?_
       refine zU 15 hf hS fun a hf => ?_
       refine zU 16 hf hS fun a hf => ?_
       refine zU 17 hf hS fun a hf => ?_
       refine zU 18 hf hS fun a hf => ?_
       refine zU 19 hf hS fun a hf => ?_
       refine zU 20 hf hS fun a hf => ?_
       refine zU 21 hf hS fun a hf => ?_
       refine zU 22 hf hS fun a hf => ?_
       refine zU 23 hf hS fun a hf => ?_
       refine zU 24 hf hS fun a hf => ?_
       refine zU 25 hf hS fun a hf => ?_
       refine zU 26 hf hS fun a hf => ?_
       refine zg 27 hf hS fun a hf => ?_
       refine zp 28 hf hS fun a hf => ?_
       refine dn (by kernel_rfl) ?_
       obtain rfl := oi hGc5
       have hf := hf.pn [50, 1, 3]
       have H := H.lt_ [true] [] [] [2, 3, 4]
       exact ⟨hf, H⟩
    refine then_n (ib hR1 hf (fun hc6 hR1 => ?_) fun hc6 hR1 => ?_)
    ·refine sqz (pz 1 hf fun a hf => ?_)
     refine wl_end (then_n (wp_ret (then_r (blk_r (then_r (then_r (blk_r (then_r (then_r (?_))))))))))
     obtain rfl := oi hR1
     replace hF := on_ret hF
     obtain rfl := oi hF
     refine rT hf ?_
     exact ⟨_, rfl, H.bel, mk_bool⟩
    ·refine wp_skip (then_n (sqz (pz 1 hf fun a hf => ?_)))
     refine wl_end (then_n ?_)
     obtain ⟨out2, hB2, hR1⟩ := bs_ hR1
     have hf := hf.pn [1, 3, 4]
     have H := H.lt_ [true] [] [] [0, 1, 2]
     refine loopC (fun (s : Int) (a : Act) (w : World) => match s with | k' => Fr a 67 [(1, (.pointer (some ⟨b', 0, none⟩))), (3, (.int .i64 i)), (4, (.int .i64 k'))] ∧ Mem ⟨w0, []⟩ S [⟨b', 38, [(.slice A p.Network.Nodes.length c), (.slice A2 p.Network.Fibers.length c2), (.slice A3 p.Lights.length c3)]⟩] [] [] [(false, MP.val [(.slice A3 p.Lights.length c3)] (p.Lights : List Light)), (false, MP.val [(.slice A2 p.Network.Fibers.length c2)] (p.Network.Fibers : List Fiber)), (false, MP.val [(.slice A p.Network.Nodes.length c)] (p.Network.Nodes : List ByteArray))] w) (fun k (s : Int) => spec_l9Good_L2 fu p i k s = some out2) (fun s => out2 = Out.next s) 0 fu hB2 ⟨hf, H⟩ (fun s h => by cases h) ?_ ?_
     ·rintro fk k' a w hR2 hI
      replace hR2 : spec_l9Good_L2 fu p i (fk + 1) k' = some out2 := hR2
      rw [spec_l9Good_L2] at hR2
      obtain ⟨hf, H⟩ := hI
      refine sq (sqz (pz 3 hf fun a hf => ?_))
      refine wl_end (then_n (ib hR2 hf (fun hc7 hR2 => ?_) fun hc7 hR2 => ?_))
      ·refine wp_skip (then_n (sq (wp_block (sq (dw [] 11 fun w hb => ?_)))))
       have H := H.keep hb
       refine zp 0 hf trivial fun a hf => ?_
       refine strT (H.lt_ [true] [] [] []) (fun w H => trivial) fun hS => ?_
       refine zS 1 [] rfl rfl rfl rfl hf hS (fun w H => rq_loadB hf H TF.ls36 0 rfl rfl rfl) fun a hf => ?_
       refine zp 2 hf hS fun a hf => ?_
       obtain ⟨e4, he4, hR2⟩ := bs_ hR2
       obtain ⟨p5, o4, cs4, hx4, hr4, H⟩ := pre_iaddr H Tryz.underlying36 TF.sz56 0 rfl he4
       refine zP 3 rfl rfl rfl rfl hf hS (fun w => rq_iaddrE hf rfl rfl rfl hx4 w) fun a hf => ?_
       obtain ⟨A7, c9, rfl, hl7⟩ := Light_cells hr4
       have H := H.pF hl7
       refine strT (H.lt_ [true] [] [] [1]) (fun w H => H.lt_ [true] [] [] []) fun hS => ?_
       refine zS 4 [] rfl rfl rfl rfl hf hS (fun w H => rq_loadIN hf H TF.la56 0 0 rfl rfl rfl rfl) fun a hf => ?_
       refine zp 5 hf hS fun a hf => ?_
       refine zS 6 [] rfl rfl rfl rfl hf hS (fun w H => rq_loadB hf H TF.ls36 0 rfl rfl rfl) fun a hf => ?_
       refine zp 7 hf hS fun a hf => ?_
       obtain ⟨e5, he5, hR2⟩ := bs_ hR2
       obtain ⟨p6, o5, cs5, hx5, hr5, H⟩ := pre_iaddr H Tryz.underlying36 TF.sz56 2 rfl he5
       refine zP 8 rfl rfl rfl rfl hf hS (fun w => rq_iaddrE hf rfl rfl rfl hx5 w) fun a hf => ?_
       obtain ⟨A8, c10, rfl, hl8⟩ := Light_cells hr5
       have H := H.pF hl8
       refine strT (H.lt_ [true] [] [] [1, 3]) (fun w H => H.lt_ [true] [] [] [1]) fun hS => ?_
       refine zS 9 [] rfl rfl rfl rfl hf hS (fun w H => rq_loadIN hf H TF.la56 0 0 rfl rfl rfl rfl) fun a hf => ?_
       obtain ⟨y3, hy3, hR2⟩ := bs_ hR2
       refine nn 10 rfl (oC hf TF.cl145 (spec_l9Collide_ok (S := TT) (Light_mkv (x := e4) (H.rt 2 rfl)) (Light_mkv (x := e5) (H.rt 0 rfl)) hy3) fun v3 w a hp3 hf => ?_)
       obtain ⟨hb3, hp3⟩ := hp3
       obtain rfl := VR_bool hp3
       have H := H.keep hb3
       have hS := H.lt_ [true] [] [] [1, 3]
       refine ⟨fun _ => hS, ?_⟩
       refine dn (by kernel_rfl) ?_
       have hf := hf.pn [1, 3, 4, 66]
       refine then_n (ib hR2 hf (fun hc8 hR2 => ?_) fun hc8 hR2 => ?_)
       ·refine sqz (pz 1 hf fun a hf => ?_)
        refine wl_end (then_n (wp_ret (blk_r (then_r (then_r (blk_r (then_r (blk_r (then_r (then_r (blk_r (then_r (then_r (?_))))))))))))))
        obtain rfl := oi hR2
        replace hR1 := on_ret hR1
        obtain rfl := oi hR1
        replace hF := on_ret hF
        obtain rfl := oi hF
        refine rT hf ?_
        exact ⟨_, rfl, H.bel, mk_bool⟩
       ·refine wp_skip (blk_n (then_n (reg (pz 3 hf fun a hf => ?_))))
        refine wl_end ?_
        have hf := hf.pn [1, 3, 4]
        have H := H.lt_ [true] [] [] [4, 5, 6]
        exact then_n ⟨w64 (k' + 1), hR2, hf, H⟩
      ·refine wp_exit (then_x (then_x (blk_e (?_))))
       have hf := hf.pn [1, 3, 4]
       have H := H.lt_ [true] [] [] [0, 1, 2]
       exact ⟨k', (Option.some.inj hR2).symm, hf, H⟩
     rintro a w ⟨k2, rfl, hf, H⟩
     replace hR1 := on_next hR1
     refine blk_n (then_n (reg (pz 3 hf fun a hf => ?_)))
     refine wl_end ?_
     have hf := hf.pn [1, 3]
     have H := H.lt_ [true] [] [] [0, 1, 2]
     exact then_n ⟨w64 (i + 1), hR1, hf, H⟩
   ·refine wp_exit (then_x (then_x (blk_e (?_))))
    have hf := hf.pn [1, 3]
    have H := H.lt_ [true] [] [] [0, 1, 2]
    exact ⟨i, (Option.some.inj hR1).symm, hf, H⟩
  rintro a w ⟨i2, rfl, hf, H⟩
  replace hF := on_next hF
  refine then_n (sqz (pz 1 hf fun a hf => ?_))
  refine wer ?_
  obtain rfl := oi hF
  refine rT hf ?_
  exact ⟨_, rfl, H.bel, mk_bool⟩
theorem spec_l4Nodes_ok {S : Nat → Prop} {v0_ : Value} {v1_ : Value} {n' : Network} {r' : Route} {r : List Int} (h0 : VR w0 S v0_ n') (h1 : VR w0 S v1_ r') (hF : spec_l4Nodes fu n' r' = some r) :
    Calls Tryz.prog 147 [v0_, v1_].toArray w0 fun e w' => ∃ v, e = .returned v ∧ (Below w0.heap.size w0 w' ∧ ∃ F0, VO w' F0 v r ∧ New w0 w' F0) := by
 obtain ⟨A, c, A2, c2, rfl, hl, hl2⟩ := Network_open h0
 obtain ⟨A3, c3, rfl, hl3⟩ := Route_open h1
 have H := Mem.start ⟨w0, []⟩ S
 have H := H.pA hl
 have H := H.pA hl2
 have H := H.pA hl3
 refine en Tryz.func147 fun a hf => ?_
 rw [spec_l4Nodes] at hF
 refine bx hf H fun b' a w hf H => ?_
 refine wl0 rfl (op_box hf H rfl rfl (by decide) fun b2 a w hf H => ?_)
 refine pz 1 hf fun a hf => ?_
 refine wr (lN 1 hf H TF.la35 fun a hf => ?_)
 refine lN 0 hf H TF.la52 fun a hf => ?_
 obtain ⟨y, hy, hF⟩ := bs_ hF
 refine oc hf TF.cl215 (spec_l4Walk_ok (S := TT) (Network_mkv (x := n') (H.rt 2 rfl) (H.rt 1 rfl)) (Route_mkv (x := r') (H.rt 0 rfl)) hy) fun v w a hp hf => ?_
 obtain ⟨hb, F, v2, v3, rfl, hp2, hp3, hN⟩ := hp
 obtain ⟨A4, c4, rfl, hl4⟩ := VO_list hp2
 obtain rfl := VR_bool hp3
 have H := H.aO1 hb hN hl4
 have H := H.lend 0 rfl
 refine pz 5 hf fun a hf => ?_
 refine wr (pz 2 hf fun a hf => ?_)
 have hf := hf.pn [4]
 refine wer ?_
 obtain rfl := oi hF
 refine rT hf ?_
 have hN := H.ends1
 exact ⟨_, rfl, H.bel, F, (mko_list (H.ownAt 0 rfl)), hN⟩
theorem spec_RegeneratorsFor_ok {S : Nat → Prop} {v0_ : Value} {v1_ : Value} {v2_ : Value} {n' : Network} {r' : Route} {reach : Int} {r : List Int × Bool} (h0 : VR w0 S v0_ n') (h1 : VR w0 S v1_ r') (h2 : VR w0 S v2_ reach) (hF : spec_RegeneratorsFor fu n' r' reach = some r) :
    Calls Tryz.prog 69 [v0_, v1_, v2_].toArray w0 fun e w' => ∃ v, e = .returned v ∧ (Below w0.heap.size w0 w' ∧ ∃ F0, ∃ u0 u1, v = .tuple #[u0, u1] ∧ VO w' F0 u0 r.1 ∧ VR w' (St ⟨w0, []⟩ S [] [] [] true) u1 r.2 ∧ New w0 w' F0) := by
 obtain ⟨A, c, A2, c2, rfl, hl, hl2⟩ := Network_open h0
 obtain ⟨A3, c3, rfl, hl3⟩ := Route_open h1
 obtain rfl := VR_int h2
 have H := Mem.start ⟨w0, []⟩ S
 have H := H.pA hl
 have H := H.pA hl2
 have H := H.pA hl3
 refine en Tryz.func69 fun a hf => ?_
 rw [spec_RegeneratorsFor] at hF
 refine bx hf H fun b' a w hf H => ?_
 refine wl0 rfl (op_box hf H rfl rfl (by decide) fun b2 a w hf H => ?_)
 refine pz 2 hf fun a hf => ?_
 refine wr (wl0 rfl (bl hf H 3 ([] : List Int) [] el0 fun A4 a w hf H => ?_))
 refine pz 1 hf fun a hf => ?_
 refine wl_end (then_n (sq (sq ?_)))
 obtain ⟨c4, hGc4, hF⟩ := bs_ hF
 have fh := hf.prune [2, 3, 4, 8] rfl
 have Hm := H.lt_ [true, true] [true] [] [0, 1, 2]
 refine midF 22 (.bool c4) fh Hm ?_ fun a w hf H => ?_
 ·refine reg (lN 1 hf H TF.la35 fun a hf => ?_)
  refine lN 0 hf H TF.la52 fun a hf => ?_
  obtain ⟨y, hy, hGc4⟩ := bs_ hGc4
  refine oc hf TF.cl146 (spec_l4Good_ok (S := TT) (Network_mkv (x := n') (H.rt 2 rfl) (H.rt 1 rfl)) (Route_mkv (x := r') (H.rt 0 rfl)) hy) fun v w a hp hf => ?_
  obtain ⟨hb, hp⟩ := hp
  obtain rfl := VR_bool hp
  have H := H.keep hb
  refine pz 2 hf fun a hf => ?_
  refine iteB hGc4 (fun hc hGc4 => ?_) fun hc hGc4 => ?_
  ·have hf := hf.lit 18 rfl hc
   refine pz 4 hf fun a hf => ?_
   obtain rfl := oi hGc4
   have hf := hf.pn [22, 2, 3, 4, 8]
   have H := H.lt_ [true, true] [true] [] [0, 1, 2]
   exact wl_end ⟨hf, H⟩
  ·have hf := hf.lit 18 rfl hc
   refine pz 1 hf fun a hf => ?_
   obtain ⟨y2, hy2, hGc4⟩ := bs_ hGc4
   refine wlg hf rfl rfl rfl (oC hf TF.cl68 (spec_l1In_ok (S := TT) mk_int mk_int mk_int hy2) fun v2 w a hp2 hf => ?_)
   obtain ⟨hb2, hp2⟩ := hp2
   obtain rfl := VR_bool hp2
   have H := H.keep hb2
   refine pz 2 hf fun a hf => ?_
   obtain rfl := oi hGc4
   have hf := hf.pn [22, 2, 3, 4, 8]
   have H := H.lt_ [true, true] [true] [] [0, 1, 2]
   exact wl_end ⟨hf, H⟩
 refine then_n (ib hF hf (fun hc2 hF => ?_) fun hc2 hF => ?_)
 ·refine sqz (pz 3 hf fun a hf => ?_)
  refine wl_end (then_n (wp_ret (then_r (?_))))
  have H := H.rowOwn 0 rfl rfl
  obtain ⟨F, H⟩ := H.freezeOwn 0 rfl
  have H := H.lend 0 rfl
  obtain rfl := oi hF
  refine ret_2 hf rfl (rv_tmp hf rfl) (rv_tmp hf rfl) ?_
  have hN := H.ends1
  exact ⟨_, rfl, H.bel, F, _, _, rfl, (mko_list (H.ownAt 0 rfl)), mk_bool, hN⟩
 ·refine wp_skip (then_n (sq (reg (lN 1 hf H TF.la35 fun a hf => ?_))))
  refine lN 0 hf H TF.la52 fun a hf => ?_
  obtain ⟨y3, hy3, hF⟩ := bs_ hF
  refine oc hf TF.cl147 (spec_l4Nodes_ok (S := TT) (Network_mkv (x := n') (H.rt 2 rfl) (H.rt 1 rfl)) (Route_mkv (x := r') (H.rt 0 rfl)) hy3) fun v3 w a hp3 hf => ?_
  obtain ⟨hb3, F2, hp4, hN⟩ := hp3
  obtain ⟨A5, c5, rfl, hl4⟩ := VO_list hp4
  have H := H.aO1 hb3 hN hl4
  have H := H.lend 0 rfl
  refine pz 1 hf fun a hf => ?_
  refine wr (pz 1 hf fun a hf => ?_)
  refine wl_end (then_n (sq (sqz (pz 1 hf fun a hf => ?_))))
  refine wl_end (then_n ?_)
  obtain ⟨out2, hB1, hF⟩ := bs_ hF
  have hf := hf.pn [2, 3, 4, 8, 9, 10, 11]
  have H := H.lt_ [true, true] [true] [true] [0, 1, 2, 3]
  refine loopC (fun (s : List Int × Int × Int) (a : Act) (w : World) => match s with | (out', sum, i) => ∃ (A6 : Option Addr) (c6 : Nat) (E : Go.TypeId), Fr a 64 [(2, (.int .i64 reach)), (3, (.pointer (some ⟨b', 0, none⟩))), (4, (.pointer (some ⟨b2, 0, none⟩))), (8, (.slice A6 out'.length c6)), (9, (.slice A5 y3.length c5)), (10, (.int .i64 sum)), (11, (.int .i64 i))] ∧ Mem ⟨w0, []⟩ S [⟨b2, 52, [(.int .i64 r'.Start), (.slice A3 r'.Fibers.length c3)]⟩, ⟨b', 35, [(.slice A n'.Nodes.length c), (.slice A2 n'.Fibers.length c2)]⟩] [⟨.sh true, E, A6, c6, (out' : List Int)⟩] [⟨F2, MP.own F2 [(.slice A5 y3.length c5)] (y3 : List Int)⟩] [(true, MP.val [(.slice A5 y3.length c5)] (y3 : List Int)), (false, MP.val [(.slice A3 r'.Fibers.length c3)] (r'.Fibers : List Int)), (false, MP.val [(.slice A2 n'.Fibers.length c2)] (n'.Fibers : List Fiber)), (false, MP.val [(.slice A n'.Nodes.length c)] (n'.Nodes : List ByteArray))] w) (fun k (s : List Int × Int × Int) => spec_RegeneratorsFor_L1 fu n' r' reach y3 k s.1 s.2.1 s.2.2 = some out2) (fun s => out2 = Out.next s) (([] : List Int), 0, 0) fu hB1 ⟨A4, 0, 3, hf, H⟩ (fun s h => by cases h) ?_ ?_
  ·rintro fk ⟨out', sum, i⟩ a w hR1 hI
   replace hR1 : spec_RegeneratorsFor_L1 fu n' r' reach y3 (fk + 1) out' sum i = some out2 := hR1
   rw [spec_RegeneratorsFor_L1] at hR1
   obtain ⟨A6, c6, E, hf, H⟩ := hI
   refine sq (sqz (pz 2 hf fun a hf => ?_))
   refine lB 0 hf H TF.ls29 fun a hf => ?_
   refine pz 2 hf fun a hf => ?_
   refine wl_end (then_n (ib hR1 hf (fun hc3 hR1 => ?_) fun hc3 hR1 => ?_))
   ·refine wp_skip (then_n (sq (wp_block (sq (dw [] 11 fun w hb => ?_)))))
    have H := H.keep hb
    refine zp 0 hf trivial fun a hf => ?_
    refine strT (H.lt_ [false, true] [false] [false] []) (fun w H => trivial) fun hS => ?_
    refine zS 1 [] rfl rfl rfl rfl hf hS (fun w H => rq_loadB hf H TF.ls33 0 rfl rfl rfl) fun a hf => ?_
    refine zp 2 hf hS fun a hf => ?_
    refine strT (H.lt_ [true, true] [false] [false] []) (fun w H => H.lt_ [false, true] [] [] []) fun hS => ?_
    refine zS 3 [] rfl rfl rfl rfl hf hS (fun w H => rq_loadB hf H TF.ls29 0 rfl rfl rfl) fun a hf => ?_
    refine zp 4 hf hS fun a hf => ?_
    obtain ⟨e, he, hR1⟩ := bs_ hR1
    obtain ⟨p, o, cs, hx, hr, H⟩ := pre_iaddr H Tryz.underlying29 TF.sz3 1 rfl he
    refine zP 5 rfl rfl rfl rfl hf hS (fun w => rq_iaddrE hf rfl rfl rfl hx w) fun a hf => ?_
    obtain rfl := hr
    refine strT (H.lt_ [true, true] [false] [false] [0]) (fun w H => H.lt_ [true, true] [] [] []) fun hS => ?_
    refine zS 6 [] rfl rfl rfl rfl hf hS (fun w H => rq_loadI hf H TF.ls3 0 0 rfl rfl rfl) fun a hf => ?_
    obtain ⟨e2, he2, hR1⟩ := bs_ hR1
    obtain ⟨p2, o2, cs2, hx2, hr2, H⟩ := pre_iaddr H Tryz.underlying33 TF.sz120 3 rfl he2
    refine zP 7 rfl rfl rfl rfl hf hS (fun w => rq_iaddrE hf rfl rfl rfl hx2 w) fun a hf => ?_
    obtain rfl := Fiber_cells hr2
    refine zp 8 hf hS fun a hf => ?_
    refine strT (H.lt_ [true, true] [false] [false] [0, 1]) (fun w H => H.lt_ [true, true] [] [] [1]) fun hS => ?_
    refine zS 9 [] rfl rfl rfl rfl hf hS (fun w H => rq_loadI hf H TF.ls3 0 2 rfl rfl rfl) fun a hf => ?_
    refine zp 10 hf hS fun a hf => ?_
    refine dn (by kernel_rfl) ?_
    have hf := hf.pn [2, 3, 4, 8, 9, 10, 11, 12]
    refine then_n (sq (sqz (pz 3 hf fun a hf => ?_)))
    refine wl_end (then_n (ib hR1 hf (fun hc4 hR1 => ?_) fun hc4 hR1 => ?_))
    ·refine sq (reg (wl0 rfl (bl hf H 3 ([] : List Int) [] el0 fun A7 a w hf H => ?_)))
     refine pz 2 hf fun a hf => ?_
     refine wl_end (then_n (wp_ret (then_r (blk_r (then_r (then_r (blk_r (then_r (then_r (?_))))))))))
     have H := H.rowOwn 0 rfl rfl
     obtain ⟨F4, H⟩ := H.freezeOwn 0 rfl
     have H := H.lend 0 rfl
     obtain rfl := oi hR1
     replace hF := on_ret hF
     obtain rfl := oi hF
     refine ret_2 hf rfl (rv_tmp hf rfl) (rv_tmp hf rfl) ?_
     have hN := H.ends1
     exact ⟨_, rfl, H.bel, F4, _, _, rfl, (mko_list (H.ownAt 0 rfl)), mk_bool, hN⟩
    ·refine wp_skip (then_n (sq (sqz (pz 5 hf fun a hf => ?_))))
     refine wl_end (then_n (ib hR1 hf (fun hc5 hR1 => ?_) fun hc5 hR1 => ?_))
     ·refine sqz (pz 3 hf fun a hf => ?_)
      obtain ⟨e3, he3, hR1⟩ := bs_ hR1
      refine wl0 rfl (op_iaddr hf H Tryz.underlying29 TF.sz3 2 rfl rfl rfl he3 (by decide) fun p3 o3 cs3 a hf hr3 H => ?_)
      obtain rfl := hr3
      refine oq hf (rq_loadI hf H TF.ls3 0 0 rfl rfl rfl) fun a hf => ?_
      refine wl0 rfl (bl hf H 3 ([e3] : List Int) [(.int .i64 e3)] (el1 (y := e3) (rfl)) fun A8 a w hf H => ?_)
      obtain ⟨l, hl, hR1⟩ := bs_ hR1
      refine wl0 rfl (op_appR hf H Tryz.underlying29 TF.ai3 rfl (by decide) 1 0 rfl rfl rfl rfl (.inr rfl) hl (by decide) fun E2 A9 c7 a w hf H => ?_)
      refine pz 1 hf fun a hf => ?_
      have hf := hf.pn [2, 3, 4, 8, 9, 11, 12]
      refine wl_end (then_n (reg (pz 1 hf fun a hf => ?_)))
      refine wl_end (then_n (reg (pz 4 hf fun a hf => ?_)))
      refine wl_end (blk_n (then_n (reg (pz 3 hf fun a hf => ?_))))
      refine wl_end ?_
      have hf := hf.pn [2, 3, 4, 8, 9, 10, 11]
      have H := H.lt_ [true, true] [false, true] [true] [3, 4, 5, 6]
      exact then_n ⟨(l, w64 (0 + e2.Length), w64 (i + 1)), hR1, A9, c7, E2, hf, H⟩
     ·refine wp_skip (then_n (reg (pz 4 hf fun a hf => ?_)))
      refine wl_end (blk_n (then_n (reg (pz 3 hf fun a hf => ?_))))
      have hf := hf.pn [2, 3, 4, 8, 9, 10, 11]
      refine wl_end ?_
      have hf := hf.pn [2, 3, 4, 8, 9, 10, 11]
      have H := H.lt_ [true, true] [true] [true] [2, 3, 4, 5]
      exact then_n ⟨(out', w64 (sum + e2.Length), w64 (i + 1)), hR1, A6, c6, E, hf, H⟩
   ·refine wp_exit (then_x (then_x (blk_e (?_))))
    have hf := hf.pn [2, 3, 4, 8, 9, 10, 11]
    have H := H.lt_ [true, true] [true] [true] [0, 1, 2, 3]
    exact ⟨(out', sum, i), (Option.some.inj hR1).symm, A6, c6, E, hf, H⟩
  rintro a w ⟨⟨out3, sum2, i2⟩, rfl, A10, c8, E3, hf, H⟩
  replace hF := on_next hF
  try dsimp only at hF
  refine then_n (sqz (pz 3 hf fun a hf => ?_))
  refine wer ?_
  have H := H.rowOwn 0 rfl rfl
  obtain ⟨F5, H⟩ := H.freezeOwn 0 rfl
  have H := H.lend 0 rfl
  obtain rfl := oi hF
  refine ret_2 hf rfl (rv_tmp hf rfl) (rv_tmp hf rfl) ?_
  have hN := H.ends1
  exact ⟨_, rfl, H.bel, F5, _, _, rfl, (mko_list (H.ownAt 0 rfl)), mk_bool, hN⟩
theorem spec_l4End_ok {S : Nat → Prop} {v0_ : Value} {v1_ : Value} {n' : Network} {r' : Route} {r : Int} (h0 : VR w0 S v0_ n') (h1 : VR w0 S v1_ r') (hF : spec_l4End fu n' r' = some r) :
    Calls Tryz.prog 70 [v0_, v1_].toArray w0 fun e w' => ∃ v, e = .returned v ∧ (Below w0.heap.size w0 w' ∧ VR w' (St ⟨w0, []⟩ S [] [] [] true) v r) := by
 obtain ⟨A, c, A2, c2, rfl, hl, hl2⟩ := Network_open h0
 obtain ⟨A3, c3, rfl, hl3⟩ := Route_open h1
 have H := Mem.start ⟨w0, []⟩ S
 have H := H.pA hl
 have H := H.pA hl2
 have H := H.pA hl3
 refine en Tryz.func70 fun a hf => ?_
 rw [spec_l4End] at hF
 refine bx hf H fun b' a w hf H => ?_
 refine wl0 rfl (op_box hf H rfl rfl (by decide) fun b2 a w hf H => ?_)
 refine pz 1 hf fun a hf => ?_
 refine wr (lN 1 hf H TF.la35 fun a hf => ?_)
 refine lN 0 hf H TF.la52 fun a hf => ?_
 obtain ⟨y, hy, hF⟩ := bs_ hF
 refine oc hf TF.cl147 (spec_l4Nodes_ok (S := TT) (Network_mkv (x := n') (H.rt 2 rfl) (H.rt 1 rfl)) (Route_mkv (x := r') (H.rt 0 rfl)) hy) fun v w a hp hf => ?_
 obtain ⟨hb, F, hp2, hN⟩ := hp
 obtain ⟨A4, c4, rfl, hl4⟩ := VO_list hp2
 have H := H.aO1 hb hN hl4
 have H := H.lend 0 rfl
 refine pz 1 hf fun a hf => ?_
 refine wr (pz 4 hf fun a hf => ?_)
 obtain ⟨e, he, hF⟩ := bs_ hF
 refine wl0 rfl (op_iaddr hf H Tryz.underlying29 TF.sz3 0 rfl rfl rfl he (by decide) fun p o cs a hf hr H => ?_)
 obtain rfl := hr
 refine oq hf (rq_loadI hf H TF.ls3 0 0 rfl rfl rfl) fun a hf => ?_
 refine pz 1 hf fun a hf => ?_
 have hf := hf.pn [4]
 refine wer ?_
 obtain rfl := oi hF
 refine rT hf ?_
 exact ⟨_, rfl, H.bel, mk_int⟩
theorem spec_BillOf_ok {S : Nat → Prop} {v0_ : Value} {v1_ : Value} {v2_ : Value} {p : Plan} {reach : Int} {spacing : Int} {r : List Item × Bool} (h0 : VR w0 S v0_ p) (h1 : VR w0 S v1_ reach) (h2 : VR w0 S v2_ spacing) (hF : spec_BillOf fu p reach spacing = some r) :
    Calls Tryz.prog 18 [v0_, v1_, v2_].toArray w0 fun e w' => ∃ v, e = .returned v ∧ (Below w0.heap.size w0 w' ∧ ∃ u0 u1, v = .tuple #[u0, u1] ∧ VR w' (St ⟨w0, []⟩ S [] [] [] true) u0 r.1 ∧ VR w' (St ⟨w0, []⟩ S [] [] [] true) u1 r.2) := by
 obtain ⟨A, c, A2, c2, A3, c3, rfl, hl, hl2, hl3⟩ := Plan_open h0
 obtain rfl := VR_int h1
 obtain rfl := VR_int h2
 have H := Mem.start ⟨w0, []⟩ S
 have H := H.pA hl
 have H := H.pA hl2
 have H := H.pA hl3
 refine en Tryz.func18 fun a hf => ?_
 rw [spec_BillOf] at hF
 refine bx hf H fun b' a w hf H => ?_
 refine pz 2 hf fun a hf => ?_
 refine wr (wl0 rfl (bl hf H 43 ([] : List Item) [] el0 fun A4 a w hf H => ?_))
 refine pz 1 hf fun a hf => ?_
 refine wl_end (then_n (sq (sq ?_)))
 obtain ⟨c4, hGc4, hF⟩ := bs_ hF
 have fh := hf.prune [1, 2, 3, 8] rfl
 have Hm := H.lt_ [true] [true] [] [0, 1, 2]
 refine midF 30 (.bool c4) fh Hm ?_ fun a w hf H => ?_
 ·refine reg (lN 0 hf H TF.la38 fun a hf => ?_)
  obtain ⟨y, hy, hGc4⟩ := bs_ hGc4
  refine oc hf TF.cl67 (spec_l9Good_ok (S := TT) (Plan_mkv (x := p) (H.rt 2 rfl) (H.rt 1 rfl) (H.rt 0 rfl)) hy) fun v w a hp hf => ?_
  obtain ⟨hb, hp⟩ := hp
  obtain rfl := VR_bool hp
  have H := H.keep hb
  refine pz 2 hf fun a hf => ?_
  refine iteB hGc4 (fun hc hGc4 => ?_) fun hc hGc4 => ?_
  ·have hf := hf.lit 21 rfl hc
   refine pz 9 hf fun a hf => ?_
   obtain rfl := oi hGc4
   have hf := hf.pn [30, 1, 2, 3, 8]
   have H := H.lt_ [true] [true] [] [0, 1, 2]
   exact wl_end ⟨hf, H⟩
  ·have hf := hf.lit 21 rfl hc
   refine pz 1 hf fun a hf => ?_
   obtain ⟨y2, hy2, hGc4⟩ := bs_ hGc4
   refine wlg hf rfl rfl rfl (oC hf TF.cl68 (spec_l1In_ok (S := TT) mk_int mk_int mk_int hy2) fun v2 w a hp2 hf => ?_)
   obtain ⟨hb2, hp2⟩ := hp2
   obtain rfl := VR_bool hp2
   have H := H.keep hb2
   refine pz 3 hf fun a hf => ?_
   refine iteB hGc4 (fun hc2 hGc4 => ?_) fun hc2 hGc4 => ?_
   ·have hf := hf.lit 26 rfl hc2
    refine pz 4 hf fun a hf => ?_
    obtain rfl := oi hGc4
    have hf := hf.pn [30, 1, 2, 3, 8]
    have H := H.lt_ [true] [true] [] [0, 1, 2]
    exact wl_end ⟨hf, H⟩
   ·have hf := hf.lit 26 rfl hc2
    refine pz 1 hf fun a hf => ?_
    obtain ⟨y3, hy3, hGc4⟩ := bs_ hGc4
    refine wlg hf rfl rfl rfl (oC hf TF.cl68 (spec_l1In_ok (S := TT) mk_int mk_int mk_int hy3) fun v3 w a hp3 hf => ?_)
    obtain ⟨hb3, hp3⟩ := hp3
    obtain rfl := VR_bool hp3
    have H := H.keep hb3
    refine pz 2 hf fun a hf => ?_
    obtain rfl := oi hGc4
    have hf := hf.pn [30, 1, 2, 3, 8]
    have H := H.lt_ [true] [true] [] [0, 1, 2]
    exact wl_end ⟨hf, H⟩
 refine then_n (ib hF hf (fun hc3 hF => ?_) fun hc3 hF => ?_)
 ·refine sqz (pz 3 hf fun a hf => ?_)
  refine wl_end (then_n (wp_ret (then_r (?_))))
  have H := H.freeze 0 rfl
  obtain rfl := oi hF
  refine ret_2 hf rfl (rv_tmp hf rfl) (rv_tmp hf rfl) ?_
  exact ⟨_, rfl, H.bel, _, _, rfl, (mk_list (rep_end (α := List Item) (H.get 0 rfl))), mk_bool⟩
 ·refine wp_skip (then_n (sqz (pz 1 hf fun a hf => ?_)))
  refine lN 0 hf H TF.la35 fun a hf => ?_
  refine aL hf H TF.zv35 fun b2 a w hf H => ?_
  refine sB 0 hf H TF.sz35 fun w H => ?_
  refine wl_end (then_n (sq (sqz (pz 1 hf fun a hf => ?_))))
  refine wl_end (then_n ?_)
  have H := H.freeze 0 rfl
  obtain ⟨out2, hB1, hF⟩ := bs_ hF
  have hf := hf.pn [1, 2, 3, 8, 9, 10]
  have H := H.lt_ [true, true] [] [] [0, 1, 2, 3]
  refine loopC (fun (s : List Item × Int) (a : Act) (w : World) => match s with | (out', i) => ∃ (A5 : Option Addr) (c5 : Nat), Fr a 125 [(1, (.int .i64 reach)), (2, (.int .i64 spacing)), (3, (.pointer (some ⟨b', 0, none⟩))), (8, (.slice A5 out'.length c5)), (9, (.pointer (some ⟨b2, 0, none⟩))), (10, (.int .i64 i))] ∧ Mem ⟨w0, []⟩ S [⟨b2, 35, [(.slice A p.Network.Nodes.length c), (.slice A2 p.Network.Fibers.length c2)]⟩, ⟨b', 38, [(.slice A p.Network.Nodes.length c), (.slice A2 p.Network.Fibers.length c2), (.slice A3 p.Lights.length c3)]⟩] [] [] [(true, MP.val [(.slice A5 out'.length c5)] (out' : List Item)), (false, MP.val [(.slice A3 p.Lights.length c3)] (p.Lights : List Light)), (false, MP.val [(.slice A2 p.Network.Fibers.length c2)] (p.Network.Fibers : List Fiber)), (false, MP.val [(.slice A p.Network.Nodes.length c)] (p.Network.Nodes : List ByteArray))] w) (fun k (s : List Item × Int) => spec_BillOf_L1 fu p reach k s.1 s.2 = some out2) (fun s => out2 = Out.next s) (([] : List Item), 0) fu hB1 ⟨A4, 0, hf, H⟩ (fun s h => by cases h) ?_ ?_
  ·rintro fk ⟨out', i⟩ a w hR1 hI
   replace hR1 : spec_BillOf_L1 fu p reach (fk + 1) out' i = some out2 := hR1
   rw [spec_BillOf_L1] at hR1
   obtain ⟨A5, c5, hf, H⟩ := hI
   refine sq (sqz (pz 2 hf fun a hf => ?_))
   refine lB 1 hf H TF.ls36 fun a hf => ?_
   refine pz 2 hf fun a hf => ?_
   refine wl_end (then_n (ib hR1 hf (fun hc4 hR1 => ?_) fun hc4 hR1 => ?_))
   ·refine ws (pz 1 hf fun a hf => ?_)
    refine lB 1 hf H TF.ls36 fun a hf => ?_
    refine pz 1 hf fun a hf => ?_
    obtain ⟨e, he, hR1⟩ := bs_ hR1
    refine wl0 rfl (op_iaddr hf H Tryz.underlying36 TF.sz56 1 rfl rfl rfl he (by decide) fun p2 o cs a hf hr H => ?_)
    obtain ⟨A6, c6, rfl, hl4⟩ := Light_cells hr
    have H := H.pF hl4
    refine pz 1 hf fun a hf => ?_
    refine oq hf (rq_loadIN hf H TF.la52 1 1 rfl rfl rfl rfl) fun a hf => ?_
    refine aL hf H TF.zv52 fun b3 a w hf H => ?_
    refine sB 0 hf H TF.sz52 fun w H => ?_
    refine wr (lN 1 hf H TF.la35 fun a hf => ?_)
    refine lN 0 hf H TF.la52 fun a hf => ?_
    refine pz 1 hf fun a hf => ?_
    obtain ⟨y4, hy4, hR1⟩ := bs_ hR1
    refine oc hf TF.cl69 (spec_RegeneratorsFor_ok (S := TT) (Network_mkv (x := p.Network) (H.rt 5 rfl) (H.rt 4 rfl)) (Route_mkv (x := e.Route) (H.rt 0 rfl)) mk_int hy4) fun v4 w a hp4 hf => ?_
    obtain ⟨hb4, F, v5, v6, rfl, hp5, hp6, hN⟩ := hp4
    obtain ⟨A7, c7, rfl, hl5⟩ := VO_list hp5
    obtain rfl := VR_bool hp6
    have H := H.aO1 hb4 hN hl5
    have H := H.lend 0 rfl
    refine pz 5 hf fun a hf => ?_
    have hf := hf.pn [1, 2, 3, 8, 9, 10, 11, 12, 13]
    refine wl_end (then_n (sq (sqz (pz 2 hf fun a hf => ?_))))
    refine wl_end (then_n (ib hR1 hf (fun hc5 hR1 => ?_) fun hc5 hR1 => ?_))
    ·refine sq (reg (wl0 rfl (bl hf H 43 ([] : List Item) [] el0 fun A8 a w hf H => ?_)))
     refine pz 2 hf fun a hf => ?_
     refine wl_end (then_n (wp_ret (then_r (blk_r (then_r (then_r (blk_r (then_r (then_r (?_))))))))))
     have H := H.freeze 0 rfl
     obtain rfl := oi hR1
     replace hF := on_ret hF
     obtain rfl := oi hF
     refine ret_2 hf rfl (rv_tmp hf rfl) (rv_tmp hf rfl) ?_
     exact ⟨_, rfl, H.bel, _, _, rfl, (mk_list (rep_end (α := List Item) (H.get 0 rfl))), mk_bool⟩
    ·refine wp_skip (then_n (sqz (pz 2 hf fun a hf => ?_)))
     refine lB 0 hf H TF.ls3 fun a hf => ?_
     refine oq hf (rq_build hf (cs := [(.int .i64 1), (.int .i64 e.Route.Start), (.int .i64 1)]) rfl (fun w => by kernel_rfl)) fun a hf => ?_
     obtain ⟨y5, hy5, hR1⟩ := bs_ hR1
     refine oc hf TF.cl55 (spec_l19Add_ok (mk_list (H.get 3 rfl)) Item_mkv hy5) fun v7 w a hp7 hf => ?_
     obtain ⟨hb5, hp7⟩ := hp7
     obtain ⟨A9, c8, rfl, hl6⟩ := VR_list hp7
     replace hl6 := H.res (f := MP.val [(.slice A9 y5.length c8)] y5) hl6
     have H := H.keep hb5
     have H := H.pT hl6
     refine pz 1 hf fun a hf => ?_
     refine wr (pz 1 hf fun a hf => ?_)
     refine lN 1 hf H TF.la35 fun a hf => ?_
     refine lN 0 hf H TF.la52 fun a hf => ?_
     obtain ⟨y6, hy6, hR1⟩ := bs_ hR1
     refine oc hf TF.cl70 (spec_l4End_ok (S := TT) (Network_mkv (x := p.Network) (H.rt 7 rfl) (H.rt 6 rfl)) (Route_mkv (x := e.Route) (H.rt 2 rfl)) hy6) fun v8 w a hp8 hf => ?_
     obtain ⟨hb6, hp8⟩ := hp8
     obtain rfl := VR_int hp8
     have H := H.keep hb6
     refine oq hf (rq_build hf (cs := [(.int .i64 1), (.int .i64 y6), (.int .i64 1)]) rfl (fun w => by kernel_rfl)) fun a hf => ?_
     obtain ⟨y7, hy7, hR1⟩ := bs_ hR1
     refine oc hf TF.cl55 (spec_l19Add_ok (mk_list (H.get 0 rfl)) Item_mkv hy7) fun v9 w a hp9 hf => ?_
     obtain ⟨hb7, hp9⟩ := hp9
     obtain ⟨A10, c9, rfl, hl7⟩ := VR_list hp9
     replace hl7 := H.res (f := MP.val [(.slice A10 y7.length c9)] y7) hl7
     have H := H.keep hb7
     have H := H.pT hl7
     refine pz 1 hf fun a hf => ?_
     have hf := hf.pn [1, 2, 3, 8, 9, 10, 12]
     refine wr (pz 1 hf fun a hf => ?_)
     refine wl_end (then_n ?_)
     obtain ⟨out4, hB2, hR1⟩ := bs_ hR1
     have hf := hf.pn [1, 2, 3, 8, 9, 10, 12, 14]
     have H := H.lt_ [false, true, true] [] [true] [0, 2, 6, 7, 8]
     refine loopC (fun (s : List Item × Int) (a : Act) (w : World) => match s with | (out3, k') => ∃ (A11 : Option Addr) (c10 : Nat), Fr a 125 [(1, (.int .i64 reach)), (2, (.int .i64 spacing)), (3, (.pointer (some ⟨b', 0, none⟩))), (8, (.slice A11 out3.length c10)), (9, (.pointer (some ⟨b2, 0, none⟩))), (10, (.int .i64 i)), (12, (.slice A7 y4.1.length c7)), (14, (.int .i64 k'))] ∧ Mem ⟨w0, []⟩ S [⟨b2, 35, [(.slice A p.Network.Nodes.length c), (.slice A2 p.Network.Fibers.length c2)]⟩, ⟨b', 38, [(.slice A p.Network.Nodes.length c), (.slice A2 p.Network.Fibers.length c2), (.slice A3 p.Lights.length c3)]⟩] [] [⟨F, MP.own F [(.slice A7 y4.1.length c7)] (y4.1 : List Int)⟩] [(true, MP.val [(.slice A11 out3.length c10)] (out3 : List Item)), (true, MP.val [(.slice A7 y4.1.length c7)] (y4.1 : List Int)), (false, MP.val [(.slice A3 p.Lights.length c3)] (p.Lights : List Light)), (false, MP.val [(.slice A2 p.Network.Fibers.length c2)] (p.Network.Fibers : List Fiber)), (false, MP.val [(.slice A p.Network.Nodes.length c)] (p.Network.Nodes : List ByteArray))] w) (fun k (s : List Item × Int) => spec_BillOf_L2 fu y4 k s.1 s.2 = some out4) (fun s => out4 = s) (y7, 0) fu hB2 ⟨A10, c9, hf, H⟩ (fun s h => by cases h) ?_ ?_
     ·rintro fk ⟨out3, k'⟩ a w hR2 hI
      replace hR2 : spec_BillOf_L2 fu y4 (fk + 1) out3 k' = some out4 := hR2
      rw [spec_BillOf_L2] at hR2
      obtain ⟨A11, c10, hf, H⟩ := hI
      refine sq (sqz (pz 4 hf fun a hf => ?_))
      refine wl_end (then_n (ib hR2 hf (fun hc6 hR2 => ?_) fun hc6 hR2 => ?_))
      ·refine wp_skip (then_n (sq (wp_block (reg (pz 3 hf fun a hf => ?_)))))
       obtain ⟨e2, he2, hR2⟩ := bs_ hR2
       refine wl0 rfl (op_iaddr hf H Tryz.underlying29 TF.sz3 1 rfl rfl rfl he2 (by decide) fun p3 o2 cs2 a hf hr2 H => ?_)
       obtain rfl := hr2
       refine oq hf (rq_loadI hf H TF.ls3 0 0 rfl rfl rfl) fun a hf => ?_
       refine oq hf (rq_build hf (cs := [(.int .i64 2), (.int .i64 e2), (.int .i64 1)]) rfl (fun w => by kernel_rfl)) fun a hf => ?_
       obtain ⟨y8, hy8, hR2⟩ := bs_ hR2
       refine oc hf TF.cl55 (spec_l19Add_ok (mk_list (H.get 1 rfl)) Item_mkv hy8) fun v10 w a hp10 hf => ?_
       obtain ⟨hb8, hp10⟩ := hp10
       obtain ⟨A12, c11, rfl, hl8⟩ := VR_list hp10
       replace hl8 := H.res (f := MP.val [(.slice A12 y8.length c11)] y8) hl8
       have H := H.keep hb8
       have H := H.pT hl8
       refine pz 1 hf fun a hf => ?_
       refine wl_end (blk_n (then_n (reg (pz 3 hf fun a hf => ?_))))
       have hf := hf.pn [1, 2, 3, 8, 9, 10, 12, 14]
       refine wl_end ?_
       have hf := hf.pn [1, 2, 3, 8, 9, 10, 12, 14]
       have H := H.lt_ [true, true] [] [true] [0, 3, 4, 5, 6]
       exact then_n ⟨(y8, w64 (k' + 1)), hR2, A12, c11, hf, H⟩
      ·refine wp_exit (then_x (then_x (blk_e (?_))))
       have hf := hf.pn [1, 2, 3, 8, 9, 10, 12, 14]
       have H := H.lt_ [true, true] [] [true] [0, 1, 2, 3, 4]
       exact ⟨(out3, k'), (Option.some.inj hR2).symm, A11, c10, hf, H⟩
     rintro a w ⟨⟨out5, k2⟩, rfl, A13, c12, hf, H⟩
     try dsimp only at hR1
     refine blk_n (then_n (reg (pz 3 hf fun a hf => ?_)))
     refine wl_end ?_
     have hf := hf.pn [1, 2, 3, 8, 9, 10]
     have H := H.lt_ [true, true] [] [false] [0, 2, 3, 4]
     exact then_n ⟨(out5, w64 (i + 1)), hR1, A13, c12, hf, H⟩
   ·refine wp_exit (then_x (then_x (blk_e (?_))))
    have hf := hf.pn [1, 2, 3, 8, 9, 10]
    have H := H.lt_ [true, true] [] [] [0, 1, 2, 3]
    exact ⟨(out', i), (Option.some.inj hR1).symm, A5, c5, hf, H⟩
  rintro a w ⟨⟨out6, i2⟩, rfl, A14, c13, hf, H⟩
  replace hF := on_next hF
  try dsimp only at hF
  refine then_n (sq (sqz (pz 1 hf fun a hf => ?_)))
  refine wl_end (then_n ?_)
  obtain ⟨out8, hB1, hF⟩ := bs_ hF
  have hf := hf.pn [2, 3, 8, 9, 15]
  have H := H.lt_ [true, true] [] [] [0, 1, 2, 3]
  refine loopC (fun (s : Int × List Item) (a : Act) (w : World) => match s with | (i3, out7) => ∃ (A15 : Option Addr) (c14 : Nat), Fr a 125 [(2, (.int .i64 spacing)), (3, (.pointer (some ⟨b', 0, none⟩))), (8, (.slice A15 out7.length c14)), (9, (.pointer (some ⟨b2, 0, none⟩))), (15, (.int .i64 i3))] ∧ Mem ⟨w0, []⟩ S [⟨b2, 35, [(.slice A p.Network.Nodes.length c), (.slice A2 p.Network.Fibers.length c2)]⟩, ⟨b', 38, [(.slice A p.Network.Nodes.length c), (.slice A2 p.Network.Fibers.length c2), (.slice A3 p.Lights.length c3)]⟩] [] [] [(true, MP.val [(.slice A15 out7.length c14)] (out7 : List Item)), (false, MP.val [(.slice A3 p.Lights.length c3)] (p.Lights : List Light)), (false, MP.val [(.slice A2 p.Network.Fibers.length c2)] (p.Network.Fibers : List Fiber)), (false, MP.val [(.slice A p.Network.Nodes.length c)] (p.Network.Nodes : List ByteArray))] w) (fun k (s : Int × List Item) => spec_BillOf_L3 fu p spacing k s.1 s.2 = some out8) (fun s => out8 = s) (0, out6) fu hB1 ⟨A14, c13, hf, H⟩ (fun s h => by cases h) ?_ ?_
  ·rintro fk ⟨i3, out7⟩ a w hR1 hI
   replace hR1 : spec_BillOf_L3 fu p spacing (fk + 1) i3 out7 = some out8 := hR1
   rw [spec_BillOf_L3] at hR1
   obtain ⟨A15, c14, hf, H⟩ := hI
   refine sq (sqz (pz 2 hf fun a hf => ?_))
   refine lB 0 hf H TF.ls33 fun a hf => ?_
   refine pz 2 hf fun a hf => ?_
   refine wl_end (then_n (ib hR1 hf (fun hc7 hR1 => ?_) fun hc7 hR1 => ?_))
   ·refine wp_skip (then_n (sq (wp_block (sq (sq (reg (lN 1 hf H TF.la38 fun a hf => ?_)))))))
    refine pz 1 hf fun a hf => ?_
    obtain ⟨y9, hy9, hR1⟩ := bs_ hR1
    refine oc hf TF.cl71 (spec_l9Used_ok (S := TT) (Plan_mkv (x := p) (H.rt 3 rfl) (H.rt 2 rfl) (H.rt 1 rfl)) mk_int hy9) fun v11 w a hp11 hf => ?_
    obtain ⟨hb9, hp11⟩ := hp11
    obtain rfl := VR_int hp11
    have H := H.keep hb9
    refine pz 1 hf fun a hf => ?_
    refine wl_end (then_n (ib hR1 hf (fun hc8 hR1 => ?_) fun hc8 hR1 => ?_))
    ·refine wp_exit (then_x (blk_e (?_)))
     refine then_n (reg (pz 3 hf fun a hf => ?_))
     refine wl_end ?_
     have hf := hf.pn [2, 3, 8, 9, 15]
     have H := H.lt_ [true, true] [] [] [0, 1, 2, 3]
     exact then_n ⟨(w64 (i3 + 1), out7), hR1, A15, c14, hf, H⟩
    ·refine wp_skip (then_n (sqz (pz 1 hf fun a hf => ?_)))
     refine lB 0 hf H TF.ls33 fun a hf => ?_
     refine pz 1 hf fun a hf => ?_
     obtain ⟨e3, he3, hR1⟩ := bs_ hR1
     refine wl0 rfl (op_iaddr hf H Tryz.underlying33 TF.sz120 2 rfl rfl rfl he3 (by decide) fun p4 o3 cs3 a hf hr3 H => ?_)
     obtain rfl := Fiber_cells hr3
     refine oq hf (rq_loadIN hf H TF.la120 0 0 rfl rfl rfl rfl) fun a hf => ?_
     refine aL hf H TF.zv120 fun b4 a w hf H => ?_
     refine sB 0 hf H TF.sz120 fun w H => ?_
     have hf := hf.pn [2, 3, 8, 9, 15, 16]
     refine wr (pz 2 hf fun a hf => ?_)
     refine lB 0 hf H TF.ls3 fun a hf => ?_
     refine oq hf (rq_build hf (cs := [(.int .i64 4), (.int .i64 e3.A), (.int .i64 1)]) rfl (fun w => by kernel_rfl)) fun a hf => ?_
     obtain ⟨y10, hy10, hR1⟩ := bs_ hR1
     refine oc hf TF.cl55 (spec_l19Add_ok (mk_list (H.get 1 rfl)) Item_mkv hy10) fun v12 w a hp12 hf => ?_
     obtain ⟨hb10, hp12⟩ := hp12
     obtain ⟨A16, c15, rfl, hl9⟩ := VR_list hp12
     replace hl9 := H.res (f := MP.val [(.slice A16 y10.length c15)] y10) hl9
     have H := H.keep hb10
     have H := H.pT hl9
     refine pz 1 hf fun a hf => ?_
     refine wr (pz 2 hf fun a hf => ?_)
     refine lB 0 hf H TF.ls3 fun a hf => ?_
     refine oq hf (rq_build hf (cs := [(.int .i64 4), (.int .i64 e3.B), (.int .i64 1)]) rfl (fun w => by kernel_rfl)) fun a hf => ?_
     obtain ⟨y11, hy11, hR1⟩ := bs_ hR1
     refine oc hf TF.cl55 (spec_l19Add_ok (mk_list (H.get 0 rfl)) Item_mkv hy11) fun v13 w a hp13 hf => ?_
     obtain ⟨hb11, hp13⟩ := hp13
     obtain ⟨A17, c16, rfl, hl10⟩ := VR_list hp13
     replace hl10 := H.res (f := MP.val [(.slice A17 y11.length c16)] y11) hl10
     have H := H.keep hb11
     have H := H.pT hl10
     refine pz 1 hf fun a hf => ?_
     refine wl_end (then_n (dw [] 14 fun w hb => ?_))
     have H := H.keep hb
     refine zp 0 hf trivial fun a hf => ?_
     refine zp 1 hf trivial fun a hf => ?_
     refine strT (H.lt_ [true, false, false] [] [] []) (fun w H => trivial) fun hS => ?_
     refine zS 2 [] rfl rfl rfl rfl hf hS (fun w H => rq_loadB hf H TF.ls3 0 rfl rfl rfl) fun a hf => ?_
     refine zp 3 hf hS fun a hf => ?_
     refine zS 4 [] rfl rfl rfl rfl hf hS (fun w H => rq_loadB hf H TF.ls3 0 rfl rfl rfl) fun a hf => ?_
     refine zp 5 hf hS fun a hf => ?_
     refine zp 6 hf hS fun a hf => ?_
     refine zp 7 hf hS fun a hf => ?_
     refine zp 8 hf hS fun a hf => ?_
     obtain ⟨q, hq, hR1⟩ := bs_ hR1
     refine zP 9 rfl rfl rfl rfl hf hS (fun w => rq_quo hf rfl rfl hq) fun a hf => ?_
     refine zp 10 hf hS fun a hf => ?_
     refine zP 11 rfl rfl rfl rfl hf hS (fun w => rq_build hf (cs := [(.int .i64 3), (.int .i64 e3.A), (.int .i64 (w64 (q - 1)))]) rfl (fun w => by kernel_rfl)) fun a hf => ?_
     obtain ⟨y12, hy12, hR1⟩ := bs_ hR1
     refine nn 12 rfl (oC hf TF.cl55 (spec_l19Add_ok (mk_list (H.get 0 rfl)) Item_mkv hy12) fun v14 w a hp14 hf => ?_)
     obtain ⟨hb12, hp14⟩ := hp14
     obtain ⟨A18, c17, rfl, hl11⟩ := VR_list hp14
     replace hl11 := H.res (f := MP.val [(.slice A18 y12.length c17)] y12) hl11
     have H := H.keep hb12
     have H := H.pT hl11
     have hS := H.lt_ [true, false, false] [] [] []
     refine ⟨fun _ => hS, ?_⟩
     refine zp 13 hf hS fun a hf => ?_
     refine dn (by kernel_rfl) ?_
     have hf := hf.pn [2, 3, 8, 9, 15]
     refine blk_n (then_n (reg (pz 3 hf fun a hf => ?_)))
     refine wl_end ?_
     have hf := hf.pn [2, 3, 8, 9, 15]
     have H := H.lt_ [false, true, true] [] [] [0, 5, 6, 7]
     exact then_n ⟨(w64 (i3 + 1), y12), hR1, A18, c17, hf, H⟩
   ·refine wp_exit (then_x (then_x (blk_e (?_))))
    have hf := hf.pn [2, 3, 8, 9, 15]
    have H := H.lt_ [true, true] [] [] [0, 1, 2, 3]
    exact ⟨(i3, out7), (Option.some.inj hR1).symm, A15, c14, hf, H⟩
  rintro a w ⟨⟨i4, out9⟩, rfl, A19, c18, hf, H⟩
  try dsimp only at hF
  refine then_n (sq (sqz (pz 1 hf fun a hf => ?_)))
  obtain ⟨y13, hy13, hF⟩ := bs_ hF
  refine oc hf TF.cl54 (spec_l19Bill_ok (S := TT) (mk_list (H.rt 0 rfl)) hy13) fun v15 w a hp15 hf => ?_
  obtain ⟨hb13, hp15⟩ := hp15
  obtain rfl := VR_bool hp15
  have H := H.keep hb13
  refine pz 1 hf fun a hf => ?_
  refine wl_end (then_n (ib hF hf (fun hc9 hF => ?_) fun hc9 hF => ?_))
  ·refine sq (reg (wl0 rfl (bl hf H 43 ([] : List Item) [] el0 fun A20 a w hf H => ?_)))
   refine pz 2 hf fun a hf => ?_
   refine wl_end (then_n (wp_ret (then_r (?_))))
   have H := H.freeze 0 rfl
   obtain rfl := oi hF
   refine ret_2 hf rfl (rv_tmp hf rfl) (rv_tmp hf rfl) ?_
   exact ⟨_, rfl, H.bel, _, _, rfl, (mk_list (rep_end (α := List Item) (H.get 0 rfl))), mk_bool⟩
  ·refine wp_skip (then_n (sqz (pz 3 hf fun a hf => ?_)))
   refine wer ?_
   obtain rfl := oi hF
   refine ret_2 hf rfl (rv_tmp hf rfl) (rv_tmp hf rfl) ?_
   exact ⟨_, rfl, H.bel, _, _, rfl, (mk_list (rep_end (α := List Item) (H.get 0 rfl))), mk_bool⟩
end AT
