/- The Go functions do what is told of them, by program (gen.py). -/
import Derived.Test.YtlemonjnolciiaaGreatDoorWFnTexts0
set_option linter.unusedVariables false
set_option linter.unusedSimpArgs false
set_option maxRecDepth 100000
set_option maxHeartbeats 1000000
namespace AT
open Go Go.RowKit Go.Proofs
variable {fu : Nat} {w0 : World}
theorem impl_isName_ok {S : Nat → Prop} {v0_ : Value} {s' : ByteArray} {r : Bool} (h0 : VR w0 S v0_ s') (hF : impl_isName fu s' = some r) :
    Calls Tryz.prog 55 [v0_].toArray w0 fun e w' => ∃ v, e = .returned v ∧ (Below w0.heap.size w0 w' ∧ VR w' (St ⟨w0, []⟩ S [] [] [] true) v r) := by
 obtain rfl := VR_str h0
 have H := Mem.start ⟨w0, []⟩ S
 refine en Tryz.func55 fun a hf => ?_
 rw [impl_isName] at hF
 refine sqz (pz 1 hf fun a hf => ?_)
 refine we (sqz (pz 3 hf fun a hf => ?_))
 refine wl_end (then_n ?_)
 obtain ⟨out', hB1, hF⟩ := bs_ hF
 have hf := hf.pn [0, 7, 8]
 have H := H.lk 0 0 0 []
 refine loopC (fun (s : Int) (a : Act) (w : World) => match s with | i => Fr a 45 [(0, (.string s')), (7, (.int .i64 (s'.size : Int))), (8, (.int .i64 i))] ∧ Mem ⟨w0, []⟩ S [] [] [] [] w) (fun k (s : Int) => impl_isName_L1 fu s' k s = some out') (fun s => out' = Out.next s) 0 fu hB1 ⟨hf, H⟩ (fun s h => by cases h) ?_ ?_
 ·rintro fk i a w hR1 hI
  replace hR1 : impl_isName_L1 fu s' (fk + 1) i = some out' := hR1
  rw [impl_isName_L1] at hR1
  obtain ⟨hf, H⟩ := hI
  refine sqz (pz 1 hf fun a hf => ?_)
  refine wl_end (then_n (sq (ib hR1 hf (fun hc hR1 => ?_) fun hc hR1 => ?_)))
  ·refine ws (pz 2 hf fun a hf => ?_)
   refine wl_end (then_n (sq (dw [] 22 fun w hb => ?_)))
   have H := H.keep hb
   refine zp 0 hf trivial fun a hf => ?_
   refine zp 1 hf trivial fun a hf => ?_
   obtain ⟨e, he, hR1⟩ := bs_ hR1
   refine tP 2 rfl rfl rfl rfl hf (by kernel_rfl) (fun _ => trivial) (fun w => rq_indexS hf Tryz.underlying9 rfl rfl he) fun a hf => ?_
   refine tP 3 rfl rfl rfl rfl hf (by kernel_rfl) (fun _ => trivial) (fun w => rq_geK hf rfl rfl) fun a hf => ?_
   refine zp 4 hf trivial fun a hf => ?_
   refine zp 10 hf trivial fun a hf => ?_
   refine zp 11 hf trivial fun a hf => ?_
   obtain ⟨e2, he2, hR1⟩ := bs_ hR1
   refine tP 12 rfl rfl rfl rfl hf (by kernel_rfl) (fun _ => trivial) (fun w => rq_indexS hf Tryz.underlying9 rfl rfl he2) fun a hf => ?_
   refine tP 13 rfl rfl rfl rfl hf (by kernel_rfl) (fun _ => trivial) (fun w => rq_geK hf rfl rfl) fun a hf => ?_
   refine zp 14 hf trivial fun a hf => ?_
   refine iteB hR1 (fun hc2 hR1 => ?_) fun hc2 hR1 => ?_
   ·have hf := hf.lit 15 rfl hc2
    refine zg 5 hf trivial fun a hf => ?_
    refine zg 6 hf trivial fun a hf => ?_
    obtain ⟨e3, he3, hR1⟩ := bs_ hR1
    refine tPg 7 rfl rfl rfl rfl rfl rfl hf (by kernel_rfl) (fun _ => trivial) (fun w => rq_indexS hf Tryz.underlying9 rfl rfl he3) fun a hf => ?_
    refine tPg 8 rfl rfl rfl rfl rfl rfl hf (by kernel_rfl) (fun _ => trivial) (fun w => rq_leK hf rfl rfl) fun a hf => ?_
    refine zp 9 hf trivial fun a hf => ?_
    refine zp 20 hf trivial fun a hf => ?_
    refine iteB hR1 (fun hc3 hR1 => ?_) fun hc3 hR1 => ?_
    ·have hf := hf.lit 25 rfl hc3
     refine zg 15 hf trivial fun a hf => ?_
     refine zg 16 hf trivial fun a hf => ?_
     obtain ⟨e4, he4, hR1⟩ := bs_ hR1
     refine tPg 17 rfl rfl rfl rfl rfl rfl hf (by kernel_rfl) (fun _ => trivial) (fun w => rq_indexS hf Tryz.underlying9 rfl rfl he4) fun a hf => ?_
     refine tPg 18 rfl rfl rfl rfl rfl rfl hf (by kernel_rfl) (fun _ => trivial) (fun w => rq_leK hf rfl rfl) fun a hf => ?_
     refine zp 19 hf trivial fun a hf => ?_
     refine zp 21 hf trivial fun a hf => ?_
     refine dk ?_
     have hf := hf.pn [0, 3, 4, 5, 7, 8, 16, 17, 18, 19, 26, 27, 28, 29]
     refine then_n (sq ?_)
     obtain ⟨c, hGc, hR1⟩ := bs_ hR1
     have fh := hf.prune [0, 7, 8, 16, 17, 18, 19, 26, 27, 28, 29] rfl
     have Hm := H.lk 0 0 0 []
     refine midF 40 (.bool c) fh Hm ?_ fun a w hf H => ?_
     ·refine reg (pz 3 hf fun a hf => ?_)
      refine iteB hGc (fun hc4 hGc => ?_) fun hc4 hGc => ?_
      ·have hf := hf.lit 33 rfl hc4
       refine pz 3 hf fun a hf => ?_
       refine iteB hGc (fun hc5 hGc => ?_) fun hc5 hGc => ?_
       ·have hf := hf.lit 36 rfl hc5
        refine pz 4 hf fun a hf => ?_
        obtain rfl := oi hGc
        have hf := hf.pn [40, 0, 7, 8, 16, 17, 18, 19, 26, 27, 28, 29]
        have H := H.lk 0 0 0 []
        exact wl_end ⟨hf, H⟩
       ·have hf := hf.lit 36 rfl hc5
        refine pz 4 hf fun a hf => ?_
        obtain rfl := oi hGc
        have hf := hf.pn [40, 0, 7, 8, 16, 17, 18, 19, 26, 27, 28, 29]
        have H := H.lk 0 0 0 []
        exact wl_end ⟨hf, H⟩
      ·have hf := hf.lit 33 rfl hc4
       refine pz 3 hf fun a hf => ?_
       refine wlsu hf rfl rfl rfl rfl (by decide) fun a hf => ?_
       refine wlsu hf rfl rfl rfl rfl (by decide) fun a hf => ?_
       refine pz 2 hf fun a hf => ?_
       obtain rfl := oi hGc
       have hf := hf.pn [40, 0, 7, 8, 16, 17, 18, 19, 26, 27, 28, 29]
       have H := H.lk 0 0 0 []
       exact wl_end ⟨hf, H⟩
     refine then_n (ib hR1 hf (fun hc6 hR1 => ?_) fun hc6 hR1 => ?_)
     ·refine sqz (pz 1 hf fun a hf => ?_)
      refine wl_end (then_n (wp_ret (blk_r (then_r (then_r (blk_r (then_r (then_r (?_)))))))))
      obtain rfl := oi hR1
      replace hF := on_ret hF
      obtain rfl := oi hF
      refine rT hf ?_
      exact ⟨_, rfl, H.bel, mk_bool⟩
     ·refine wp_skip (blk_n (then_n (reg (pz 2 hf fun a hf => ?_))))
      refine wl_end ?_
      have hf := hf.pn [0, 7, 8]
      have H := H.lk 0 0 0 []
      exact then_n ⟨w64 (i + 1), hR1, hf, H⟩
    ·have hf := hf.lit 25 rfl hc3
     refine zU 15 hf trivial fun a hf => ?_
     refine zU 16 hf trivial fun a hf => ?_
     refine zU 17 hf trivial fun a hf => ?_
     refine zU 18 hf trivial fun a hf => ?_
     refine zp 19 hf trivial fun a hf => ?_
     refine zp 21 hf trivial fun a hf => ?_
     refine dk ?_
     have hf := hf.pn [0, 3, 4, 5, 7, 8, 16, 17, 18, 19]
     refine then_n (sq ?_)
     obtain ⟨c2, hGc2, hR1⟩ := bs_ hR1
     have fh2 := hf.prune [0, 7, 8, 16, 17, 18, 19] rfl
     have Hm2 := H.lk 0 0 0 []
     refine midF 40 (.bool c2) fh2 Hm2 ?_ fun a w hf H => ?_
     ·refine reg (pz 3 hf fun a hf => ?_)
      refine iteB hGc2 (fun hc7 hGc2 => ?_) fun hc7 hGc2 => ?_
      ·have hf := hf.lit 33 rfl hc7
       refine pz 3 hf fun a hf => ?_
       refine iteB hGc2 (fun hc8 hGc2 => ?_) fun hc8 hGc2 => ?_
       ·have hf := hf.lit 36 rfl hc8
        refine pz 4 hf fun a hf => ?_
        obtain rfl := oi hGc2
        have hf := hf.pn [40, 0, 7, 8, 16, 17, 18, 19]
        have H := H.lk 0 0 0 []
        exact wl_end ⟨hf, H⟩
       ·have hf := hf.lit 36 rfl hc8
        refine pz 4 hf fun a hf => ?_
        obtain rfl := oi hGc2
        have hf := hf.pn [40, 0, 7, 8, 16, 17, 18, 19]
        have H := H.lk 0 0 0 []
        exact wl_end ⟨hf, H⟩
      ·have hf := hf.lit 33 rfl hc7
       refine pz 3 hf fun a hf => ?_
       refine wlsu hf rfl rfl rfl rfl (by decide) fun a hf => ?_
       refine wlsu hf rfl rfl rfl rfl (by decide) fun a hf => ?_
       refine pz 2 hf fun a hf => ?_
       obtain rfl := oi hGc2
       have hf := hf.pn [40, 0, 7, 8, 16, 17, 18, 19]
       have H := H.lk 0 0 0 []
       exact wl_end ⟨hf, H⟩
     refine then_n (ib hR1 hf (fun hc9 hR1 => ?_) fun hc9 hR1 => ?_)
     ·refine sqz (pz 1 hf fun a hf => ?_)
      refine wl_end (then_n (wp_ret (blk_r (then_r (then_r (blk_r (then_r (then_r (?_)))))))))
      obtain rfl := oi hR1
      replace hF := on_ret hF
      obtain rfl := oi hF
      refine rT hf ?_
      exact ⟨_, rfl, H.bel, mk_bool⟩
     ·refine wp_skip (blk_n (then_n (reg (pz 2 hf fun a hf => ?_))))
      refine wl_end ?_
      have hf := hf.pn [0, 7, 8]
      have H := H.lk 0 0 0 []
      exact then_n ⟨w64 (i + 1), hR1, hf, H⟩
   ·have hf := hf.lit 15 rfl hc2
    refine zU 5 hf trivial fun a hf => ?_
    refine zU 6 hf trivial fun a hf => ?_
    refine zU 7 hf trivial fun a hf => ?_
    refine zU 8 hf trivial fun a hf => ?_
    refine zp 9 hf trivial fun a hf => ?_
    refine zp 20 hf trivial fun a hf => ?_
    refine iteB hR1 (fun hc10 hR1 => ?_) fun hc10 hR1 => ?_
    ·have hf := hf.lit 25 rfl hc10
     refine zg 15 hf trivial fun a hf => ?_
     refine zg 16 hf trivial fun a hf => ?_
     obtain ⟨e5, he5, hR1⟩ := bs_ hR1
     refine tPg 17 rfl rfl rfl rfl rfl rfl hf (by kernel_rfl) (fun _ => trivial) (fun w => rq_indexS hf Tryz.underlying9 rfl rfl he5) fun a hf => ?_
     refine tPg 18 rfl rfl rfl rfl rfl rfl hf (by kernel_rfl) (fun _ => trivial) (fun w => rq_leK hf rfl rfl) fun a hf => ?_
     refine zp 19 hf trivial fun a hf => ?_
     refine zp 21 hf trivial fun a hf => ?_
     refine dk ?_
     have hf := hf.pn [0, 3, 4, 5, 7, 8, 26, 27, 28, 29]
     refine then_n (sq ?_)
     obtain ⟨c3, hGc3, hR1⟩ := bs_ hR1
     have fh3 := hf.prune [0, 7, 8, 26, 27, 28, 29] rfl
     have Hm3 := H.lk 0 0 0 []
     refine midF 40 (.bool c3) fh3 Hm3 ?_ fun a w hf H => ?_
     ·refine reg (pz 3 hf fun a hf => ?_)
      refine iteB hGc3 (fun hc11 hGc3 => ?_) fun hc11 hGc3 => ?_
      ·have hf := hf.lit 33 rfl hc11
       refine pz 3 hf fun a hf => ?_
       refine iteB hGc3 (fun hc12 hGc3 => ?_) fun hc12 hGc3 => ?_
       ·have hf := hf.lit 36 rfl hc12
        refine pz 4 hf fun a hf => ?_
        obtain rfl := oi hGc3
        have hf := hf.pn [40, 0, 7, 8, 26, 27, 28, 29]
        have H := H.lk 0 0 0 []
        exact wl_end ⟨hf, H⟩
       ·have hf := hf.lit 36 rfl hc12
        refine pz 4 hf fun a hf => ?_
        obtain rfl := oi hGc3
        have hf := hf.pn [40, 0, 7, 8, 26, 27, 28, 29]
        have H := H.lk 0 0 0 []
        exact wl_end ⟨hf, H⟩
      ·have hf := hf.lit 33 rfl hc11
       refine pz 3 hf fun a hf => ?_
       refine wlsu hf rfl rfl rfl rfl (by decide) fun a hf => ?_
       refine wlsu hf rfl rfl rfl rfl (by decide) fun a hf => ?_
       refine pz 2 hf fun a hf => ?_
       obtain rfl := oi hGc3
       have hf := hf.pn [40, 0, 7, 8, 26, 27, 28, 29]
       have H := H.lk 0 0 0 []
       exact wl_end ⟨hf, H⟩
     refine then_n (ib hR1 hf (fun hc13 hR1 => ?_) fun hc13 hR1 => ?_)
     ·refine sqz (pz 1 hf fun a hf => ?_)
      refine wl_end (then_n (wp_ret (blk_r (then_r (then_r (blk_r (then_r (then_r (?_)))))))))
      obtain rfl := oi hR1
      replace hF := on_ret hF
      obtain rfl := oi hF
      refine rT hf ?_
      exact ⟨_, rfl, H.bel, mk_bool⟩
     ·refine wp_skip (blk_n (then_n (reg (pz 2 hf fun a hf => ?_))))
      refine wl_end ?_
      have hf := hf.pn [0, 7, 8]
      have H := H.lk 0 0 0 []
      exact then_n ⟨w64 (i + 1), hR1, hf, H⟩
    ·have hf := hf.lit 25 rfl hc10
     refine zU 15 hf trivial fun a hf => ?_
     refine zU 16 hf trivial fun a hf => ?_
     refine zU 17 hf trivial fun a hf => ?_
     refine zU 18 hf trivial fun a hf => ?_
     refine zp 19 hf trivial fun a hf => ?_
     refine zp 21 hf trivial fun a hf => ?_
     refine dk ?_
     have hf := hf.pn [0, 3, 4, 5, 7, 8]
     refine then_n (sq ?_)
     obtain ⟨c4, hGc4, hR1⟩ := bs_ hR1
     have fh4 := hf.prune [0, 7, 8] rfl
     have Hm4 := H.lk 0 0 0 []
     refine midF 40 (.bool c4) fh4 Hm4 ?_ fun a w hf H => ?_
     ·refine reg (pz 3 hf fun a hf => ?_)
      refine iteB hGc4 (fun hc14 hGc4 => ?_) fun hc14 hGc4 => ?_
      ·have hf := hf.lit 33 rfl hc14
       refine pz 3 hf fun a hf => ?_
       refine iteB hGc4 (fun hc15 hGc4 => ?_) fun hc15 hGc4 => ?_
       ·have hf := hf.lit 36 rfl hc15
        refine pz 4 hf fun a hf => ?_
        obtain rfl := oi hGc4
        have hf := hf.pn [40, 0, 7, 8]
        have H := H.lk 0 0 0 []
        exact wl_end ⟨hf, H⟩
       ·have hf := hf.lit 36 rfl hc15
        refine pz 4 hf fun a hf => ?_
        obtain rfl := oi hGc4
        have hf := hf.pn [40, 0, 7, 8]
        have H := H.lk 0 0 0 []
        exact wl_end ⟨hf, H⟩
      ·have hf := hf.lit 33 rfl hc14
       refine pz 3 hf fun a hf => ?_
       refine wlsu hf rfl rfl rfl rfl (by decide) fun a hf => ?_
       refine wlsu hf rfl rfl rfl rfl (by decide) fun a hf => ?_
       refine pz 2 hf fun a hf => ?_
       obtain rfl := oi hGc4
       have hf := hf.pn [40, 0, 7, 8]
       have H := H.lk 0 0 0 []
       exact wl_end ⟨hf, H⟩
     refine then_n (ib hR1 hf (fun hc16 hR1 => ?_) fun hc16 hR1 => ?_)
     ·refine sqz (pz 1 hf fun a hf => ?_)
      refine wl_end (then_n (wp_ret (blk_r (then_r (then_r (blk_r (then_r (then_r (?_)))))))))
      obtain rfl := oi hR1
      replace hF := on_ret hF
      obtain rfl := oi hF
      refine rT hf ?_
      exact ⟨_, rfl, H.bel, mk_bool⟩
     ·refine wp_skip (blk_n (then_n (reg (pz 2 hf fun a hf => ?_))))
      refine wl_end ?_
      have hf := hf.pn [0, 7, 8]
      have H := H.lk 0 0 0 []
      exact then_n ⟨w64 (i + 1), hR1, hf, H⟩
  ·refine wp_exit (then_x (then_x (blk_e (?_))))
   have hf := hf.pn [0, 7, 8]
   have H := H.lk 0 0 0 []
   exact ⟨i, (Option.some.inj hR1).symm, hf, H⟩
 rintro a w ⟨i2, rfl, hf, H⟩
 replace hF := on_next hF
 refine then_n (sqz (pz 2 hf fun a hf => ?_))
 obtain ⟨y, hy, hF⟩ := bs_ hF
 refine oc hf TF.cl57 (impl_within_ok (S := TT) mk_int mk_int mk_int hy) fun v w a hp hf => ?_
 obtain ⟨hb, hp⟩ := hp
 obtain rfl := VR_bool hp
 have H := H.keep hb
 refine pz 1 hf fun a hf => ?_
 refine wer ?_
 obtain rfl := oi hF
 refine rT hf ?_
 exact ⟨_, rfl, H.bel, mk_bool⟩
theorem slices_Index_string_string_ok {S : Nat → Prop} {v0_ : Value} {v1_ : Value} {s' : List ByteArray} {v : ByteArray} {r : Int} (h0 : VR w0 S v0_ s') (h1 : VR w0 S v1_ v) (hF : slices_Index_string_string fu s' v = some r) :
    Calls Tryz.prog 96 [v0_, v1_].toArray w0 fun e w' => ∃ v, e = .returned v ∧ (Below w0.heap.size w0 w' ∧ VR w' (St ⟨w0, []⟩ S [] [] [] true) v r) := by
 obtain ⟨A, c, rfl, hl⟩ := VR_list h0
 obtain rfl := VR_str h1
 have H := Mem.start ⟨w0, []⟩ S
 have H := H.pA hl
 refine en Tryz.func96 fun a hf => ?_
 rw [slices_Index_string_string] at hF
 refine sqz (pz 1 hf fun a hf => ?_)
 refine we (sqz (pz 3 hf fun a hf => ?_))
 refine wl_end (then_n ?_)
 obtain ⟨out', hB1, hF⟩ := bs_ hF
 have hf := hf.pn [0, 1, 7, 8]
 have H := H.lk 0 0 0 [0]
 refine loopC (fun (s : Int) (a : Act) (w : World) => match s with | i => Fr a 19 [(0, (.slice A s'.length c)), (1, (.string v)), (7, (.int .i64 (s'.length : Int))), (8, (.int .i64 i))] ∧ Mem ⟨w0, []⟩ S [] [] [] [(false, MP.val [(.slice A s'.length c)] (s' : List ByteArray))] w) (fun k (s : Int) => slices_Index_string_string_L1 fu s' v k s = some out') (fun s => out' = Out.next s) 0 fu hB1 ⟨hf, H⟩ (fun s h => by cases h) ?_ ?_
 ·rintro fk i a w hR1 hI
  replace hR1 : slices_Index_string_string_L1 fu s' v (fk + 1) i = some out' := hR1
  rw [slices_Index_string_string_L1] at hR1
  obtain ⟨hf, H⟩ := hI
  refine sqz (pz 1 hf fun a hf => ?_)
  refine wl_end (then_n (sq (ib hR1 hf (fun hc hR1 => ?_) fun hc hR1 => ?_)))
  ·refine ws (pz 2 hf fun a hf => ?_)
   refine wr (pz 3 hf fun a hf => ?_)
   obtain ⟨e, he, hR1⟩ := bs_ hR1
   refine wl0 rfl (op_iaddr hf H Tryz.underlying24 TF.sz9 0 rfl rfl rfl he (by decide) fun p o cs a hf hr H => ?_)
   obtain rfl := hr
   refine oq hf (rq_loadI hf H TF.ls9 0 0 rfl rfl rfl) fun a hf => ?_
   refine pz 1 hf fun a hf => ?_
   refine wl_end (then_n (ib hR1 hf (fun hc2 hR1 => ?_) fun hc2 hR1 => ?_))
   ·refine sqz (pz 2 hf fun a hf => ?_)
    have hf := hf.pn [4]
    refine wl_end (then_n (wp_ret (blk_r (then_r (then_r (blk_r (then_r (then_r (?_)))))))))
    obtain rfl := oi hR1
    replace hF := on_ret hF
    obtain rfl := oi hF
    refine rT hf ?_
    exact ⟨_, rfl, H.bel, mk_int⟩
   ·refine wp_skip (blk_n (then_n (reg (pz 2 hf fun a hf => ?_))))
    refine wl_end ?_
    have hf := hf.pn [0, 1, 7, 8]
    have H := H.lk 0 0 0 [1]
    exact then_n ⟨w64 (i + 1), hR1, hf, H⟩
  ·refine wp_exit (then_x (then_x (blk_e (?_))))
   have hf := hf.pn [0, 1, 7, 8]
   have H := H.lk 0 0 0 [0]
   exact ⟨i, (Option.some.inj hR1).symm, hf, H⟩
 rintro a w ⟨i2, rfl, hf, H⟩
 replace hF := on_next hF
 refine then_n (sqz (pz 1 hf fun a hf => ?_))
 refine wer ?_
 obtain rfl := oi hF
 refine rT hf ?_
 exact ⟨_, rfl, H.bel, mk_int⟩
theorem slices_Contains_string_string_ok {S : Nat → Prop} {v0_ : Value} {v1_ : Value} {s' : List ByteArray} {v : ByteArray} {r : Bool} (h0 : VR w0 S v0_ s') (h1 : VR w0 S v1_ v) (hF : slices_Contains_string_string fu s' v = some r) :
    Calls Tryz.prog 56 [v0_, v1_].toArray w0 fun e w' => ∃ v, e = .returned v ∧ (Below w0.heap.size w0 w' ∧ VR w' (St ⟨w0, []⟩ S [] [] [] true) v r) := by
 obtain ⟨A, c, rfl, hl⟩ := VR_list h0
 obtain rfl := VR_str h1
 have H := Mem.start ⟨w0, []⟩ S
 have H := H.pA hl
 refine en Tryz.func56 fun a hf => ?_
 rw [slices_Contains_string_string] at hF
 refine sqz (pz 1 hf fun a hf => ?_)
 refine wr (pz 2 hf fun a hf => ?_)
 obtain ⟨y, hy, hF⟩ := bs_ hF
 refine oc hf TF.cl96 (slices_Index_string_string_ok (S := TT) (mk_list (H.rt 0 rfl)) mk_str hy) fun v2 w a hp hf => ?_
 obtain ⟨hb, hp⟩ := hp
 obtain rfl := VR_int hp
 have H := H.keep hb
 refine pz 2 hf fun a hf => ?_
 refine wer ?_
 obtain rfl := oi hF
 refine rT hf ?_
 exact ⟨_, rfl, H.bel, mk_bool⟩
theorem cmp_isNaN_int_ok {S : Nat → Prop} {v0_ : Value} {x1 : Int} {r : Bool} (h0 : VR w0 S v0_ x1) (hF : cmp_isNaN_int fu x1 = some r) :
    Calls Tryz.prog 129 [v0_].toArray w0 fun e w' => ∃ v, e = .returned v ∧ (Below w0.heap.size w0 w' ∧ VR w' (St ⟨w0, []⟩ S [] [] [] true) v r) := by
 obtain rfl := VR_int h0
 have H := Mem.start ⟨w0, []⟩ S
 refine en Tryz.func129 fun a hf => ?_
 rw [cmp_isNaN_int] at hF
 refine sqz (pz 1 hf fun a hf => ?_)
 refine wr (pz 4 hf fun a hf => ?_)
 refine wer ?_
 obtain rfl := oi hF
 refine rT hf ?_
 exact ⟨_, rfl, H.bel, mk_bool⟩
theorem cmp_Compare_int_ok {S : Nat → Prop} {v0_ : Value} {v1_ : Value} {x1 : Int} {y : Int} {r : Int} (h0 : VR w0 S v0_ x1) (h1 : VR w0 S v1_ y) (hF : cmp_Compare_int fu x1 y = some r) :
    Calls Tryz.prog 98 [v0_, v1_].toArray w0 fun e w' => ∃ v, e = .returned v ∧ (Below w0.heap.size w0 w' ∧ VR w' (St ⟨w0, []⟩ S [] [] [] true) v r) := by
 obtain rfl := VR_int h0
 obtain rfl := VR_int h1
 have H := Mem.start ⟨w0, []⟩ S
 refine en Tryz.func98 fun a hf => ?_
 rw [cmp_Compare_int] at hF
 refine sqz (pz 1 hf fun a hf => ?_)
 refine wr (pz 1 hf fun a hf => ?_)
 obtain ⟨y2, hy2, hF⟩ := bs_ hF
 refine oc hf TF.cl129 (cmp_isNaN_int_ok (S := TT) mk_int hy2) fun v w a hp hf => ?_
 obtain ⟨hb, hp⟩ := hp
 obtain rfl := VR_bool hp
 have H := H.keep hb
 refine pz 1 hf fun a hf => ?_
 refine wr (pz 1 hf fun a hf => ?_)
 obtain ⟨y3, hy3, hF⟩ := bs_ hF
 refine oc hf TF.cl129 (cmp_isNaN_int_ok (S := TT) mk_int hy3) fun v2 w a hp2 hf => ?_
 obtain ⟨hb2, hp2⟩ := hp2
 obtain rfl := VR_bool hp2
 have H := H.keep hb2
 refine pz 1 hf fun a hf => ?_
 refine we (sqz (pz 1 hf fun a hf => ?_))
 refine wl_end (then_n (ib hF hf (fun hc hF => ?_) fun hc hF => ?_))
 ·refine sq (sqz (pz 1 hf fun a hf => ?_))
  refine wl_end (then_n (ib hF hf (fun hc2 hF => ?_) fun hc2 hF => ?_))
  ·refine sqz (pz 1 hf fun a hf => ?_)
   refine wl_end (then_n (wp_ret (then_r (then_r (?_)))))
   obtain rfl := oi hF
   refine rT hf ?_
   exact ⟨_, rfl, H.bel, mk_int⟩
  ·refine wp_skip (then_n (sqz (pz 1 hf fun a hf => ?_)))
   refine wl_end (then_n (wp_ret (then_r (?_))))
   obtain rfl := oi hF
   refine rT hf ?_
   exact ⟨_, rfl, H.bel, mk_int⟩
 ·refine wp_skip (then_n (sq (sqz (pz 1 hf fun a hf => ?_))))
  refine wl_end (then_n (ib hF hf (fun hc3 hF => ?_) fun hc3 hF => ?_))
  ·refine sqz (pz 1 hf fun a hf => ?_)
   refine wl_end (then_n (wp_ret (then_r (?_))))
   obtain rfl := oi hF
   refine rT hf ?_
   exact ⟨_, rfl, H.bel, mk_int⟩
  ·refine wp_skip (then_n (sq (sqz (pz 3 hf fun a hf => ?_))))
   refine wl_end (then_n (ib hF hf (fun hc4 hF => ?_) fun hc4 hF => ?_))
   ·refine sqz (pz 1 hf fun a hf => ?_)
    have hf := hf.pn [4]
    refine wl_end (then_n (wp_ret (then_r (?_))))
    obtain rfl := oi hF
    refine rT hf ?_
    exact ⟨_, rfl, H.bel, mk_int⟩
   ·refine wp_skip (then_n (sq (sqz (pz 3 hf fun a hf => ?_))))
    have hf := hf.pn [19]
    refine wl_end (then_n (ib hF hf (fun hc5 hF => ?_) fun hc5 hF => ?_))
    ·refine sqz (pz 1 hf fun a hf => ?_)
     refine wl_end (then_n (wp_ret (then_r (?_))))
     obtain rfl := oi hF
     refine rT hf ?_
     exact ⟨_, rfl, H.bel, mk_int⟩
    ·refine wp_skip (then_n (sqz (pz 1 hf fun a hf => ?_)))
     refine wer ?_
     obtain rfl := oi hF
     refine rT hf ?_
     exact ⟨_, rfl, H.bel, mk_int⟩
theorem cmp_Or_int_ok {S : Nat → Prop} {v0_ : Value} {vals : List Int} {r : Int} (h0 : VR w0 S v0_ vals) (hF : cmp_Or_int fu vals = some r) :
    Calls Tryz.prog 97 [v0_].toArray w0 fun e w' => ∃ v, e = .returned v ∧ (Below w0.heap.size w0 w' ∧ VR w' (St ⟨w0, []⟩ S [] [] [] true) v r) := by
 obtain ⟨A, c, rfl, hl⟩ := VR_list h0
 have H := Mem.start ⟨w0, []⟩ S
 have H := H.pA hl
 refine en Tryz.func97 fun a hf => ?_
 rw [cmp_Or_int] at hF
 refine sqz (pz 1 hf fun a hf => ?_)
 refine wr (pz 1 hf fun a hf => ?_)
 refine we (sqz (pz 3 hf fun a hf => ?_))
 refine wl_end (then_n ?_)
 obtain ⟨out', hB1, hF⟩ := bs_ hF
 have hf := hf.pn [3, 6, 7, 8]
 have H := H.lk 0 0 0 [0]
 refine loopC (fun (s : Int) (a : Act) (w : World) => match s with | i => Fr a 18 [(3, (.int .i64 0)), (6, (.slice A vals.length c)), (7, (.int .i64 (vals.length : Int))), (8, (.int .i64 i))] ∧ Mem ⟨w0, []⟩ S [] [] [] [(false, MP.val [(.slice A vals.length c)] (vals : List Int))] w) (fun k (s : Int) => cmp_Or_int_L1 fu vals k s = some out') (fun s => out' = Out.next s) 0 fu hB1 ⟨hf, H⟩ (fun s h => by cases h) ?_ ?_
 ·rintro fk i a w hR1 hI
  replace hR1 : cmp_Or_int_L1 fu vals (fk + 1) i = some out' := hR1
  rw [cmp_Or_int_L1] at hR1
  obtain ⟨hf, H⟩ := hI
  refine sqz (pz 1 hf fun a hf => ?_)
  refine wl_end (then_n (sq (ib hR1 hf (fun hc hR1 => ?_) fun hc hR1 => ?_)))
  ·refine wp_skip (then_n (sq (wp_block (sq (reg ?_)))))
   obtain ⟨e, he, hR1⟩ := bs_ hR1
   refine wl0 rfl (op_iaddr hf H Tryz.underlying28 TF.sz3 0 rfl rfl rfl he (by decide) fun p o cs a hf hr H => ?_)
   obtain rfl := hr
   refine oq hf (rq_loadI hf H TF.ls3 0 0 rfl rfl rfl) fun a hf => ?_
   refine pz 1 hf fun a hf => ?_
   refine wr (pz 3 hf fun a hf => ?_)
   refine wl_end (then_n (ib hR1 hf (fun hc2 hR1 => ?_) fun hc2 hR1 => ?_))
   ·refine sqz (pz 2 hf fun a hf => ?_)
    refine wl_end (then_n (wp_ret (blk_r (then_r (then_r (blk_r (then_r (then_r (?_)))))))))
    obtain rfl := oi hR1
    replace hF := on_ret hF
    obtain rfl := oi hF
    refine rT hf ?_
    exact ⟨_, rfl, H.bel, mk_int⟩
   ·refine wp_skip (blk_n (then_n (reg (pz 2 hf fun a hf => ?_))))
    refine wl_end ?_
    have hf := hf.pn [3, 6, 7, 8]
    have H := H.lk 0 0 0 [1]
    exact then_n ⟨w64 (i + 1), hR1, hf, H⟩
  ·refine wp_exit (then_x (then_x (blk_e (?_))))
   have hf := hf.pn [3, 6, 7, 8]
   have H := H.lk 0 0 0 [0]
   exact ⟨i, (Option.some.inj hR1).symm, hf, H⟩
 rintro a w ⟨i2, rfl, hf, H⟩
 replace hF := on_next hF
 refine then_n (sqz (pz 2 hf fun a hf => ?_))
 refine wer ?_
 obtain rfl := oi hF
 refine rT hf ?_
 exact ⟨_, rfl, H.bel, mk_int⟩
theorem impl_compareFibers_ok {S : Nat → Prop} {v0_ : Value} {v1_ : Value} {a' : Fiber} {b' : Fiber} {r : Int} (h0 : VR w0 S v0_ a') (h1 : VR w0 S v1_ b') (hF : impl_compareFibers fu a' b' = some r) :
    Calls Tryz.prog 58 [v0_, v1_].toArray w0 fun e w' => ∃ v, e = .returned v ∧ (Below w0.heap.size w0 w' ∧ VR w' (St ⟨w0, []⟩ S [] [] [] true) v r) := by
 obtain rfl := Fiber_open h0
 obtain rfl := Fiber_open h1
 have H := Mem.start ⟨w0, []⟩ S
 refine en Tryz.func58 fun a hf => ?_
 rw [impl_compareFibers] at hF
 refine bx hf H fun b2 a w hf H => ?_
 refine wl0 rfl (op_box hf H rfl rfl (by decide) fun b3 a w hf H => ?_)
 refine pz 1 hf fun a hf => ?_
 refine wl_end (then_n (sq (dw [] 23 fun w hb => ?_)))
 have H := H.keep hb
 refine zp 0 hf trivial fun a hf => ?_
 refine strT (H.lk 2 0 0 []) (fun w H => trivial) fun hS => ?_
 refine zS 1 [] rfl rfl rfl rfl hf hS (fun w H => rq_loadB hf H TF.ls3 0 rfl rfl rfl) fun a hf => ?_
 refine zp 2 hf hS fun a hf => ?_
 refine strT H (fun w H => H.lk 2 0 0 []) fun hS => ?_
 refine zS 3 [] rfl rfl rfl rfl hf hS (fun w H => rq_loadB hf H TF.ls3 0 rfl rfl rfl) fun a hf => ?_
 refine zp 5 hf hS fun a hf => ?_
 refine zS 6 [] rfl rfl rfl rfl hf hS (fun w H => rq_loadB hf H TF.ls3 1 rfl rfl rfl) fun a hf => ?_
 refine zp 7 hf hS fun a hf => ?_
 refine zS 8 [] rfl rfl rfl rfl hf hS (fun w H => rq_loadB hf H TF.ls3 0 rfl rfl rfl) fun a hf => ?_
 refine zp 10 hf hS fun a hf => ?_
 refine zS 11 [] rfl rfl rfl rfl hf hS (fun w H => rq_loadB hf H TF.ls3 1 rfl rfl rfl) fun a hf => ?_
 refine zp 12 hf hS fun a hf => ?_
 refine zS 13 [] rfl rfl rfl rfl hf hS (fun w H => rq_loadB hf H TF.ls3 0 rfl rfl rfl) fun a hf => ?_
 refine zp 15 hf hS fun a hf => ?_
 refine zS 16 [] rfl rfl rfl rfl hf hS (fun w H => rq_loadB hf H TF.ls3 1 rfl rfl rfl) fun a hf => ?_
 refine zp 17 hf hS fun a hf => ?_
 refine zS 18 [] rfl rfl rfl rfl hf hS (fun w H => rq_loadB hf H TF.ls3 0 rfl rfl rfl) fun a hf => ?_
 obtain ⟨y, hy, hF⟩ := bs_ hF
 refine nn 4 rfl (oC hf TF.cl98 (cmp_Compare_int_ok (S := TT) mk_int mk_int hy) fun v w a hp hf => ?_)
 obtain ⟨hb, hp⟩ := hp
 obtain rfl := VR_int hp
 have H := H.keep hb
 have hS := H
 refine aS hS ?_
 obtain ⟨y2, hy2, hF⟩ := bs_ hF
 refine nn 9 rfl (oC hf TF.cl98 (cmp_Compare_int_ok (S := TT) mk_int mk_int hy2) fun v2 w a hp2 hf => ?_)
 obtain ⟨hb2, hp2⟩ := hp2
 obtain rfl := VR_int hp2
 have H := H.keep hb2
 have hS := H
 refine aS hS ?_
 obtain ⟨y3, hy3, hF⟩ := bs_ hF
 refine nn 14 rfl (oC hf TF.cl98 (cmp_Compare_int_ok (S := TT) mk_int mk_int hy3) fun v3 w a hp3 hf => ?_)
 obtain ⟨hb3, hp3⟩ := hp3
 obtain rfl := VR_int hp3
 have H := H.keep hb3
 have hS := H
 refine aS hS ?_
 obtain ⟨y4, hy4, hF⟩ := bs_ hF
 refine nn 19 rfl (oC hf TF.cl98 (cmp_Compare_int_ok (S := TT) mk_int mk_int hy4) fun v4 w a hp4 hf => ?_)
 obtain ⟨hb4, hp4⟩ := hp4
 obtain rfl := VR_int hp4
 have H := H.keep hb4
 have hS := H
 refine aS hS ?_
 refine nn 20 rfl (bl hf H 3 ([y, y2, y3, y4] : List Int) [(.int .i64 y), (.int .i64 y2), (.int .i64 y3), (.int .i64 y4)] (elI [y, y2, y3, y4]) fun A a w hf H => ?_)
 have hS := H.lk 3 0 0 []
 refine aS hS ?_
 obtain ⟨y5, hy5, hF⟩ := bs_ hF
 refine nn 21 rfl (oC hf TF.cl97 (cmp_Or_int_ok (S := TT) (mk_list (H.rowTrue 0 rfl)) hy5) fun v5 w a hp5 hf => ?_)
 obtain ⟨hb5, hp5⟩ := hp5
 obtain rfl := VR_int hp5
 have H := H.keep hb5
 have hS := H.lk 3 0 0 []
 refine aS hS ?_
 refine zp 22 hf hS fun a hf => ?_
 refine dk ?_
 have hf := hf.pn [4]
 refine then_n (wp_ret (?_))
 obtain rfl := oi hF
 refine rT hf ?_
 exact ⟨_, rfl, H.bel, mk_int⟩
theorem impl_IsValidNetwork_ok {S : Nat → Prop} {v0_ : Value} {n' : Network} {r : Bool} (h0 : VR w0 S v0_ n') (hF : impl_IsValidNetwork fu n' = some r) :
    Calls Tryz.prog 25 [v0_].toArray w0 fun e w' => ∃ v, e = .returned v ∧ (Below w0.heap.size w0 w' ∧ VR w' (St ⟨w0, []⟩ S [] [] [] true) v r) := by
 obtain ⟨A, c, A2, c2, rfl, hl, hl2⟩ := Network_open h0
 have H := Mem.start ⟨w0, []⟩ S
 have H := H.pA hl
 have H := H.pA hl2
 refine en Tryz.func25 fun a hf => ?_
 rw [impl_IsValidNetwork] at hF
 refine bx hf H fun b' a w hf H => ?_
 refine pz 1 hf fun a hf => ?_
 refine we (sqz (pz 1 hf fun a hf => ?_))
 refine lB 0 hf H TF.ls24 fun a hf => ?_
 refine pz 2 hf fun a hf => ?_
 refine wl_end (then_n ?_)
 obtain ⟨out', hB1, hF⟩ := bs_ hF
 have hf := hf.pn [1, 8, 9, 10]
 have H := H.lk 1 0 0 [0,1]
 refine loopC (fun (s : Int) (a : Act) (w : World) => match s with | i => Fr a 91 [(1, (.pointer (some ⟨b', 0, none⟩))), (8, (.slice A n'.Nodes.length c)), (9, (.int .i64 (n'.Nodes.length : Int))), (10, (.int .i64 i))] ∧ Mem ⟨w0, []⟩ S [⟨b', 27, [(.slice A n'.Nodes.length c), (.slice A2 n'.Fibers.length c2)]⟩] [] [] [(false, MP.val [(.slice A2 n'.Fibers.length c2)] (n'.Fibers : List Fiber)), (false, MP.val [(.slice A n'.Nodes.length c)] (n'.Nodes : List ByteArray))] w) (fun k (s : Int) => impl_IsValidNetwork_L1 fu n' k s = some out') (fun s => out' = Out.next s) 0 fu hB1 ⟨hf, H⟩ (fun s h => by cases h) ?_ ?_
 ·rintro fk i a w hR1 hI
  replace hR1 : impl_IsValidNetwork_L1 fu n' (fk + 1) i = some out' := hR1
  rw [impl_IsValidNetwork_L1] at hR1
  obtain ⟨hf, H⟩ := hI
  refine sqz (pz 1 hf fun a hf => ?_)
  refine wl_end (then_n (sq (ib hR1 hf (fun hc hR1 => ?_) fun hc hR1 => ?_)))
  ·refine ws (pz 1 hf fun a hf => ?_)
   obtain ⟨e, he, hR1⟩ := bs_ hR1
   refine wl0 rfl (op_iaddr hf H Tryz.underlying24 TF.sz9 1 rfl rfl rfl he (by decide) fun p o cs a hf hr H => ?_)
   obtain rfl := hr
   refine oq hf (rq_loadI hf H TF.ls9 0 0 rfl rfl rfl) fun a hf => ?_
   refine pz 2 hf fun a hf => ?_
   refine wl_end (then_n (sq ?_))
   obtain ⟨c3, hGc3, hR1⟩ := bs_ hR1
   have fh := hf.prune [1, 8, 9, 10] rfl
   have Hm := H.lk 1 0 0 [1,2]
   refine midF 25 (.bool c3) fh Hm ?_ fun a w hf H => ?_
   ·refine reg (pz 1 hf fun a hf => ?_)
    obtain ⟨y, hy, hGc3⟩ := bs_ hGc3
    refine oc hf TF.cl55 (impl_isName_ok (S := TT) mk_str hy) fun v w a hp hf => ?_
    obtain ⟨hb, hp⟩ := hp
    obtain rfl := VR_bool hp
    have H := H.keep hb
    refine pz 2 hf fun a hf => ?_
    refine iteB hGc3 (fun hc2 hGc3 => ?_) fun hc2 hGc3 => ?_
    ·have hf := hf.lit 18 rfl hc2
     refine pz 7 hf fun a hf => ?_
     obtain rfl := oi hGc3
     have hf := hf.pn [25, 1, 8, 9, 10]
     have H := H.lk 1 0 0 [1,2]
     exact wl_end ⟨hf, H⟩
    ·have hf := hf.lit 18 rfl hc2
     refine pz 1 hf fun a hf => ?_
     refine wlg hf rfl rfl rfl (op_q hf (rq_loadB hf H TF.ls24 0 rfl rfl rfl) rfl (by decide) fun a hf => ?_)
     refine pz 1 hf fun a hf => ?_
     obtain ⟨l, hl_, hGc3⟩ := bs_ hGc3
     refine wlg hf rfl rfl rfl (op_sliceI hf H Tryz.underlying24 TF.sz9 2 rfl rfl rfl rfl hl_ (by decide) fun A3 c4 a hf H => ?_)
     refine pz 1 hf fun a hf => ?_
     obtain ⟨y2, hy2, hGc3⟩ := bs_ hGc3
     refine wlg hf rfl rfl rfl (oC hf TF.cl56 (slices_Contains_string_string_ok (S := TT) (mk_list (H.rt 0 rfl)) mk_str hy2) fun v2 w a hp2 hf => ?_)
     obtain ⟨hb2, hp2⟩ := hp2
     obtain rfl := VR_bool hp2
     have H := H.keep hb2
     refine pz 1 hf fun a hf => ?_
     obtain rfl := oi hGc3
     have hf := hf.pn [25, 1, 8, 9, 10]
     have H := H.lk 1 0 0 [2,3]
     exact wl_end ⟨hf, H⟩
   refine then_n (ib hR1 hf (fun hc3 hR1 => ?_) fun hc3 hR1 => ?_)
   ·refine sqz (pz 1 hf fun a hf => ?_)
    refine wl_end (then_n (wp_ret (blk_r (then_r (then_r (blk_r (then_r (then_r (?_)))))))))
    obtain rfl := oi hR1
    replace hF := on_ret hF
    obtain rfl := oi hF
    refine rT hf ?_
    exact ⟨_, rfl, H.bel, mk_bool⟩
   ·refine wp_skip (blk_n (then_n (reg (pz 2 hf fun a hf => ?_))))
    refine wl_end ?_
    have hf := hf.pn [1, 8, 9, 10]
    have H := H.lk 1 0 0 [0,1]
    exact then_n ⟨w64 (i + 1), hR1, hf, H⟩
  ·refine wp_exit (then_x (then_x (blk_e (?_))))
   have hf := hf.pn [1, 8, 9, 10]
   have H := H.lk 1 0 0 [0,1]
   exact ⟨i, (Option.some.inj hR1).symm, hf, H⟩
 rintro a w ⟨i2, rfl, hf, H⟩
 replace hF := on_next hF
 refine then_n (sq (sqz (pz 1 hf fun a hf => ?_)))
 refine lB 0 hf H TF.ls25 fun a hf => ?_
 refine pz 2 hf fun a hf => ?_
 refine wl_end (then_n ?_)
 obtain ⟨out2, hB1, hF⟩ := bs_ hF
 have hf := hf.pn [1, 28, 29, 30]
 have H := H.lk 1 0 0 [0,1]
 refine loopC (fun (s : Int) (a : Act) (w : World) => match s with | i3 => Fr a 91 [(1, (.pointer (some ⟨b', 0, none⟩))), (28, (.slice A2 n'.Fibers.length c2)), (29, (.int .i64 (n'.Fibers.length : Int))), (30, (.int .i64 i3))] ∧ Mem ⟨w0, []⟩ S [⟨b', 27, [(.slice A n'.Nodes.length c), (.slice A2 n'.Fibers.length c2)]⟩] [] [] [(false, MP.val [(.slice A2 n'.Fibers.length c2)] (n'.Fibers : List Fiber)), (false, MP.val [(.slice A n'.Nodes.length c)] (n'.Nodes : List ByteArray))] w) (fun k (s : Int) => impl_IsValidNetwork_L2 fu n' k s = some out2) (fun s => out2 = Out.next s) 0 fu hB1 ⟨hf, H⟩ (fun s h => by cases h) ?_ ?_
 ·rintro fk i3 a w hR1 hI
  replace hR1 : impl_IsValidNetwork_L2 fu n' (fk + 1) i3 = some out2 := hR1
  rw [impl_IsValidNetwork_L2] at hR1
  obtain ⟨hf, H⟩ := hI
  refine sqz (pz 1 hf fun a hf => ?_)
  refine wl_end (then_n (sq (ib hR1 hf (fun hc4 hR1 => ?_) fun hc4 hR1 => ?_)))
  ·refine ws (pz 1 hf fun a hf => ?_)
   obtain ⟨e2, he2, hR1⟩ := bs_ hR1
   refine wl0 rfl (op_iaddr hf H Tryz.underlying25 TF.sz63 0 rfl rfl rfl he2 (by decide) fun p2 o2 cs2 a hf hr2 H => ?_)
   obtain rfl := Fiber_cells hr2
   refine oq hf (rq_loadIN hf H TF.la63 0 0 rfl rfl rfl rfl) fun a hf => ?_
   refine aL hf H TF.zv63 fun b2 a w hf H => ?_
   refine pz 1 hf fun a hf => ?_
   refine sB 0 hf H TF.sz63 fun w H => ?_
   refine wl_end (then_n (sq ?_))
   obtain ⟨c5, hGc5, hR1⟩ := bs_ hR1
   have fh2 := hf.prune [1, 28, 29, 30] rfl
   have Hm2 := H.lk 2 0 0 [1,2]
   refine midF 79 (.bool c5) fh2 Hm2 ?_ fun a w hf H => ?_
   ·refine dw [] 45 fun w hb => ?_
    have H := H.keep hb
    refine zp 0 hf trivial fun a hf => ?_
    refine strT (H.lk 1 0 0 []) (fun w H => trivial) fun hS => ?_
    refine zS 1 [] rfl rfl rfl rfl hf hS (fun w H => rq_loadB hf H TF.ls3 0 rfl rfl rfl) fun a hf => ?_
    refine zp 2 hf hS fun a hf => ?_
    refine zp 3 hf hS fun a hf => ?_
    refine iteB hGc5 (fun hc5 hGc5 => ?_) fun hc5 hGc5 => ?_
    ·have hf := hf.lit 38 rfl hc5
     refine zU 4 hf hS fun a hf => ?_
     refine zU 5 hf hS fun a hf => ?_
     refine zU 6 hf hS fun a hf => ?_
     refine zU 7 hf hS fun a hf => ?_
     refine zU 8 hf hS fun a hf => ?_
     refine zp 9 hf hS fun a hf => ?_
     refine zp 10 hf hS fun a hf => ?_
     refine zU 11 hf hS fun a hf => ?_
     refine zU 12 hf hS fun a hf => ?_
     refine zU 13 hf hS fun a hf => ?_
     refine zU 14 hf hS fun a hf => ?_
     refine zU 15 hf hS fun a hf => ?_
     refine zU 16 hf hS fun a hf => ?_
     refine zp 17 hf hS fun a hf => ?_
     refine zp 18 hf hS fun a hf => ?_
     refine zU 19 hf hS fun a hf => ?_
     refine zU 20 hf hS fun a hf => ?_
     refine zU 21 hf hS fun a hf => ?_
     refine zU 22 hf hS fun a hf => ?_
     refine zp 23 hf hS fun a hf => ?_
     refine zp 24 hf hS fun a hf => ?_
     refine zU 25 hf hS fun a hf => ?_
     refine zU 26 hf hS fun a hf => ?_
     refine zU 27 hf hS fun a hf => ?_
     refine zU 28 hf hS fun a hf => ?_
     refine zp 29 hf hS fun a hf => ?_
     refine zp 30 hf hS fun a hf => ?_
     refine zU 31 hf hS fun a hf => ?_
     refine zU 32 hf hS fun a hf => ?_
     refine zU 33 hf hS fun a hf => ?_
     refine zV 34 hf hS fun a hf => ?_
     refine zV 35 hf hS fun a hf => ?_
     refine zV 36 hf hS fun a hf => ?_
     refine zV 37 hf hS fun a hf => ?_
     refine zV 38 hf hS fun a hf => ?_
     refine zV 39 hf hS fun a hf => ?_
     refine zV 40 hf hS fun a hf => ?_
     refine zV 41 hf hS fun a hf => ?_
     refine zV 42 hf hS fun a hf => ?_
     refine zU 43 hf hS fun a hf => ?_
     refine zp 44 hf hS fun a hf => ?_
     refine dk ?_
     obtain rfl := oi hGc5
     have hf := hf.pn [79, 1, 28, 29, 30]
     have H := H.lk 2 0 0 [1,2]
     exact ⟨hf, H⟩
    ·have hf := hf.lit 38 rfl hc5
     refine zg 4 hf hS fun a hf => ?_
     refine tSg 5 [] rfl rfl rfl rfl rfl rfl hf (by kernel_rfl) (by kernel_rfl) hS (fun w H => rq_loadB hf H TF.ls3 0 rfl rfl rfl) fun a hf => ?_
     refine zg 6 hf hS fun a hf => ?_
     refine tSg 7 [] rfl rfl rfl rfl rfl rfl hf (by kernel_rfl) (by kernel_rfl) hS (fun w H => rq_loadB hf H TF.ls3 0 rfl rfl rfl) fun a hf => ?_
     refine zg 8 hf hS fun a hf => ?_
     refine zp 9 hf hS fun a hf => ?_
     refine zp 10 hf hS fun a hf => ?_
     refine iteB hGc5 (fun hc6 hGc5 => ?_) fun hc6 hGc5 => ?_
     ·have hf := hf.lit 45 rfl hc6
      refine zU 11 hf hS fun a hf => ?_
      refine zU 12 hf hS fun a hf => ?_
      refine zU 13 hf hS fun a hf => ?_
      refine zU 14 hf hS fun a hf => ?_
      refine zU 15 hf hS fun a hf => ?_
      refine zU 16 hf hS fun a hf => ?_
      refine zp 17 hf hS fun a hf => ?_
      refine zp 18 hf hS fun a hf => ?_
      refine zU 19 hf hS fun a hf => ?_
      refine zU 20 hf hS fun a hf => ?_
      refine zU 21 hf hS fun a hf => ?_
      refine zU 22 hf hS fun a hf => ?_
      refine zp 23 hf hS fun a hf => ?_
      refine zp 24 hf hS fun a hf => ?_
      refine zU 25 hf hS fun a hf => ?_
      refine zU 26 hf hS fun a hf => ?_
      refine zU 27 hf hS fun a hf => ?_
      refine zU 28 hf hS fun a hf => ?_
      refine zp 29 hf hS fun a hf => ?_
      refine zp 30 hf hS fun a hf => ?_
      refine zU 31 hf hS fun a hf => ?_
      refine zU 32 hf hS fun a hf => ?_
      refine zU 33 hf hS fun a hf => ?_
      refine zV 34 hf hS fun a hf => ?_
      refine zV 35 hf hS fun a hf => ?_
      refine zV 36 hf hS fun a hf => ?_
      refine zV 37 hf hS fun a hf => ?_
      refine zV 38 hf hS fun a hf => ?_
      refine zV 39 hf hS fun a hf => ?_
      refine zV 40 hf hS fun a hf => ?_
      refine zV 41 hf hS fun a hf => ?_
      refine zV 42 hf hS fun a hf => ?_
      refine zU 43 hf hS fun a hf => ?_
      refine zp 44 hf hS fun a hf => ?_
      refine dk ?_
      obtain rfl := oi hGc5
      have hf := hf.pn [79, 1, 28, 29, 30]
      have H := H.lk 2 0 0 [1,2]
      exact ⟨hf, H⟩
     ·have hf := hf.lit 45 rfl hc6
      refine zg 11 hf hS fun a hf => ?_
      refine tSg 12 [] rfl rfl rfl rfl rfl rfl hf (by kernel_rfl) (by kernel_rfl) hS (fun w H => rq_loadB hf H TF.ls3 0 rfl rfl rfl) fun a hf => ?_
      refine zg 13 hf hS fun a hf => ?_
      refine strT (H.lk 3 0 0 []) (fun w H => H.lk 1 0 0 []) fun hS => ?_
      refine tSg 14 [] rfl rfl rfl rfl rfl rfl hf (by kernel_rfl) (by kernel_rfl) hS (fun w H => rq_loadB hf H TF.ls24 1 rfl rfl rfl) fun a hf => ?_
      refine zg 15 hf hS fun a hf => ?_
      refine zg 16 hf hS fun a hf => ?_
      refine zp 17 hf hS fun a hf => ?_
      refine zp 18 hf hS fun a hf => ?_
      refine iteB hGc5 (fun hc7 hGc5 => ?_) fun hc7 hGc5 => ?_
      ·have hf := hf.lit 53 rfl hc7
       refine zU 19 hf hS fun a hf => ?_
       refine zU 20 hf hS fun a hf => ?_
       refine zU 21 hf hS fun a hf => ?_
       refine zU 22 hf hS fun a hf => ?_
       refine zp 23 hf hS fun a hf => ?_
       refine zp 24 hf hS fun a hf => ?_
       refine zU 25 hf hS fun a hf => ?_
       refine zU 26 hf hS fun a hf => ?_
       refine zU 27 hf hS fun a hf => ?_
       refine zU 28 hf hS fun a hf => ?_
       refine zp 29 hf hS fun a hf => ?_
       refine zp 30 hf hS fun a hf => ?_
       refine zU 31 hf hS fun a hf => ?_
       refine zU 32 hf hS fun a hf => ?_
       refine zU 33 hf hS fun a hf => ?_
       refine zV 34 hf hS fun a hf => ?_
       refine zV 35 hf hS fun a hf => ?_
       refine zV 36 hf hS fun a hf => ?_
       refine zV 37 hf hS fun a hf => ?_
       refine zV 38 hf hS fun a hf => ?_
       refine zV 39 hf hS fun a hf => ?_
       refine zV 40 hf hS fun a hf => ?_
       refine zV 41 hf hS fun a hf => ?_
       refine zV 42 hf hS fun a hf => ?_
       refine zU 43 hf hS fun a hf => ?_
       refine zp 44 hf hS fun a hf => ?_
       refine dk ?_
       obtain rfl := oi hGc5
       have hf := hf.pn [79, 1, 28, 29, 30]
       have H := H.lk 2 0 0 [1,2]
       exact ⟨hf, H⟩
      ·have hf := hf.lit 53 rfl hc7
       refine zg 19 hf hS fun a hf => ?_
       refine tSg 20 [] rfl rfl rfl rfl rfl rfl hf (by kernel_rfl) (by kernel_rfl) hS (fun w H => rq_loadB hf H TF.ls3 0 rfl rfl rfl) fun a hf => ?_
       obtain ⟨y3, hy3, hGc5⟩ := bs_ hGc5
       refine n1g 21 (by kernel_rfl) rfl rfl rfl rfl hf (oC hf TF.cl57 (impl_within_ok (S := TT) mk_int mk_int mk_int hy3) fun v3 w a hp3 hf => ?_)
       obtain ⟨hb3, hp3⟩ := hp3
       obtain rfl := VR_bool hp3
       have H := H.keep hb3
       have hS := H.lk 3 0 0 []
       refine aS hS ?_
       refine zg 22 hf hS fun a hf => ?_
       refine zp 23 hf hS fun a hf => ?_
       refine zp 24 hf hS fun a hf => ?_
       refine iteB hGc5 (fun hc8 hGc5 => ?_) fun hc8 hGc5 => ?_
       ·have hf := hf.lit 59 rfl hc8
        refine zU 25 hf hS fun a hf => ?_
        refine zU 26 hf hS fun a hf => ?_
        refine zU 27 hf hS fun a hf => ?_
        refine zU 28 hf hS fun a hf => ?_
        refine zp 29 hf hS fun a hf => ?_
        refine zp 30 hf hS fun a hf => ?_
        refine zU 31 hf hS fun a hf => ?_
        refine zU 32 hf hS fun a hf => ?_
        refine zU 33 hf hS fun a hf => ?_
        refine zV 34 hf hS fun a hf => ?_
        refine zV 35 hf hS fun a hf => ?_
        refine zV 36 hf hS fun a hf => ?_
        refine zV 37 hf hS fun a hf => ?_
        refine zV 38 hf hS fun a hf => ?_
        refine zV 39 hf hS fun a hf => ?_
        refine zV 40 hf hS fun a hf => ?_
        refine zV 41 hf hS fun a hf => ?_
        refine zV 42 hf hS fun a hf => ?_
        refine zU 43 hf hS fun a hf => ?_
        refine zp 44 hf hS fun a hf => ?_
        refine dk ?_
        obtain rfl := oi hGc5
        have hf := hf.pn [79, 1, 28, 29, 30]
        have H := H.lk 2 0 0 [1,2]
        exact ⟨hf, H⟩
       ·have hf := hf.lit 59 rfl hc8
        refine zg 25 hf hS fun a hf => ?_
        refine tSg 26 [] rfl rfl rfl rfl rfl rfl hf (by kernel_rfl) (by kernel_rfl) hS (fun w H => rq_loadB hf H TF.ls3 0 rfl rfl rfl) fun a hf => ?_
        obtain ⟨y4, hy4, hGc5⟩ := bs_ hGc5
        refine n1g 27 (by kernel_rfl) rfl rfl rfl rfl hf (oC hf TF.cl57 (impl_within_ok (S := TT) mk_int mk_int mk_int hy4) fun v4 w a hp4 hf => ?_)
        obtain ⟨hb4, hp4⟩ := hp4
        obtain rfl := VR_bool hp4
        have H := H.keep hb4
        have hS := H.lk 3 0 0 []
        refine aS hS ?_
        refine zg 28 hf hS fun a hf => ?_
        refine zp 29 hf hS fun a hf => ?_
        refine zp 30 hf hS fun a hf => ?_
        refine iteB hGc5 (fun hc9 hGc5 => ?_) fun hc9 hGc5 => ?_
        ·have hf := hf.lit 65 rfl hc9
         refine zU 31 hf hS fun a hf => ?_
         refine zU 32 hf hS fun a hf => ?_
         refine zU 33 hf hS fun a hf => ?_
         refine zV 34 hf hS fun a hf => ?_
         refine zV 35 hf hS fun a hf => ?_
         refine zV 36 hf hS fun a hf => ?_
         refine zV 37 hf hS fun a hf => ?_
         refine zV 38 hf hS fun a hf => ?_
         refine zV 39 hf hS fun a hf => ?_
         refine zV 40 hf hS fun a hf => ?_
         refine zV 41 hf hS fun a hf => ?_
         refine zV 42 hf hS fun a hf => ?_
         refine zU 43 hf hS fun a hf => ?_
         refine zp 44 hf hS fun a hf => ?_
         refine dk ?_
         obtain rfl := oi hGc5
         have hf := hf.pn [79, 1, 28, 29, 30]
         have H := H.lk 2 0 0 [1,2]
         exact ⟨hf, H⟩
        ·have hf := hf.lit 65 rfl hc9
         refine zg 31 hf hS fun a hf => ?_
         refine zg 32 hf hS fun a hf => ?_
         refine zg 33 hf hS fun a hf => ?_
         refine iteB hGc5 (fun hc10 hGc5 => ?_) fun hc10 hGc5 => ?_
         ·have hf := hf.lit 68 rfl hc10
          refine zg 34 hf hS fun a hf => ?_
          refine tSg 35 [] rfl rfl rfl rfl rfl rfl hf (by kernel_rfl) (by kernel_rfl) hS (fun w H => rq_loadB hf H TF.ls25 1 rfl rfl rfl) fun a hf => ?_
          refine zg 36 hf hS fun a hf => ?_
          refine zg 37 hf hS fun a hf => ?_
          obtain ⟨e3, he3, hGc5⟩ := bs_ hGc5
          obtain ⟨p3, o3, cs3, hx, hr3, H⟩ := pre_iaddr H Tryz.underlying25 TF.sz63 1 rfl he3
          refine tPg 38 rfl rfl rfl rfl rfl rfl hf (by kernel_rfl) (fun _ => hS) (fun w => rq_iaddrE hf rfl rfl rfl hx w) fun a hf => ?_
          obtain rfl := Fiber_cells hr3
          refine strT (H.lk 3 0 0 [0]) (fun w H => H.lk 3 0 0 []) fun hS => ?_
          refine tSg 39 [] rfl rfl rfl rfl rfl rfl hf (by kernel_rfl) (by kernel_rfl) hS (fun w H => rq_loadIN hf H TF.la63 0 0 rfl rfl rfl rfl) fun a hf => ?_
          refine tSg 40 [] rfl rfl rfl rfl rfl rfl hf (by kernel_rfl) (by kernel_rfl) hS (fun w H => rq_loadBN hf H TF.la63 0 rfl rfl rfl rfl) fun a hf => ?_
          obtain ⟨y5, hy5, hGc5⟩ := bs_ hGc5
          refine n1g 41 (by kernel_rfl) rfl rfl rfl rfl hf (oC hf TF.cl58 (impl_compareFibers_ok (S := TT) Fiber_mkv Fiber_mkv hy5) fun v5 w a hp5 hf => ?_)
          obtain ⟨hb5, hp5⟩ := hp5
          obtain rfl := VR_int hp5
          have H := H.keep hb5
          have hS := H.lk 3 0 0 [0]
          refine aS hS ?_
          refine zg 42 hf hS fun a hf => ?_
          refine zg 43 hf hS fun a hf => ?_
          refine zp 44 hf hS fun a hf => ?_
          refine dk ?_
          obtain rfl := oi hGc5
          have hf := hf.pn [79, 1, 28, 29, 30]
          have H := H.lk 2 0 0 [2,3]
          exact ⟨hf, H⟩
         ·have hf := hf.lit 68 rfl hc10
          refine zU 34 hf hS fun a hf => ?_
          refine zU 35 hf hS fun a hf => ?_
          refine zU 36 hf hS fun a hf => ?_
          refine zU 37 hf hS fun a hf => ?_
          refine zU 38 hf hS fun a hf => ?_
          refine zU 39 hf hS fun a hf => ?_
          refine zU 40 hf hS fun a hf => ?_
          refine zU 41 hf hS fun a hf => ?_
          refine zU 42 hf hS fun a hf => ?_
          refine zg 43 hf hS fun a hf => ?_
          refine zp 44 hf hS fun a hf => ?_
          refine dk ?_
          obtain rfl := oi hGc5
          have hf := hf.pn [79, 1, 28, 29, 30]
          have H := H.lk 2 0 0 [1,2]
          exact ⟨hf, H⟩
   refine then_n (ib hR1 hf (fun hc11 hR1 => ?_) fun hc11 hR1 => ?_)
   ·refine sqz (pz 1 hf fun a hf => ?_)
    refine wl_end (then_n (wp_ret (blk_r (then_r (then_r (blk_r (then_r (then_r (?_)))))))))
    obtain rfl := oi hR1
    replace hF := on_ret hF
    obtain rfl := oi hF
    refine rT hf ?_
    exact ⟨_, rfl, H.bel, mk_bool⟩
   ·refine wp_skip (blk_n (then_n (reg (pz 2 hf fun a hf => ?_))))
    refine wl_end ?_
    have hf := hf.pn [1, 28, 29, 30]
    have H := H.lk 1 0 0 [0,1]
    exact then_n ⟨w64 (i3 + 1), hR1, hf, H⟩
  ·refine wp_exit (then_x (then_x (blk_e (?_))))
   have hf := hf.pn [1, 28, 29, 30]
   have H := H.lk 1 0 0 [0,1]
   exact ⟨i3, (Option.some.inj hR1).symm, hf, H⟩
 rintro a w ⟨i4, rfl, hf, H⟩
 replace hF := on_next hF
 refine then_n (sq ?_)
 obtain ⟨c6, hGc6, hF⟩ := bs_ hF
 have fh3 := hf.prune [] rfl
 have Hm3 := H.lk 0 0 0 []
 refine midF 2 (.bool c6) fh3 Hm3 ?_ fun a w hf H => ?_
 ·refine reg (pz 1 hf fun a hf => ?_)
  refine lB 0 hf H TF.ls24 fun a hf => ?_
  refine pz 1 hf fun a hf => ?_
  obtain ⟨y6, hy6, hGc6⟩ := bs_ hGc6
  refine oc hf TF.cl57 (impl_within_ok (S := TT) mk_int mk_int mk_int hy6) fun v6 w a hp6 hf => ?_
  obtain ⟨hb6, hp6⟩ := hp6
  obtain rfl := VR_bool hp6
  have H := H.keep hb6
  refine pz 1 hf fun a hf => ?_
  refine iteB hGc6 (fun hc12 hGc6 => ?_) fun hc12 hGc6 => ?_
  ·have hf := hf.lit 85 rfl hc12
   refine pz 1 hf fun a hf => ?_
   refine wlg hf rfl rfl rfl (op_q hf (rq_loadB hf H TF.ls25 0 rfl rfl rfl) rfl (by decide) fun a hf => ?_)
   refine pz 4 hf fun a hf => ?_
   obtain rfl := oi hGc6
   have hf := hf.pn [2]
   have H := H.lk 0 0 0 []
   exact wl_end ⟨hf, H⟩
  ·have hf := hf.lit 85 rfl hc12
   refine pz 6 hf fun a hf => ?_
   obtain rfl := oi hGc6
   have hf := hf.pn [2]
   have H := H.lk 0 0 0 []
   exact wl_end ⟨hf, H⟩
 refine then_n (wp_ret (?_))
 obtain rfl := oi hF
 refine rT hf ?_
 exact ⟨_, rfl, H.bel, mk_bool⟩
theorem strings_Join_ok {S : Nat → Prop} {v0_ : Value} {elems : List ByteArray} {v1_ : Value} {sep : ByteArray} {r : ByteArray} (h0 : VR w0 S v0_ elems) (h1 : VR w0 S v1_ sep) (hG : (GLm 0 1 2).pred w0 S) (hF : strings_Join fu elems sep = some r) :
    Calls Tryz.prog 26 [v0_, v1_].toArray w0 fun e w' => ∃ v, e = .returned v ∧ (Below w0.heap.size w0 w' ∧ VR w' (St ⟨w0, []⟩ S [] [] [] true) v r) := tx_join Tryz.lay156 Tryz.layX rfl h0 h1 hG hF
theorem strconv_Itoa_ok {S : Nat → Prop} {v0_ : Value} {i : Int} {r : ByteArray} (h0 : VR w0 S v0_ i) (hG : (GLm 0 1 2).pred w0 S) (hF : strconv_Itoa fu i = some r) :
    Calls Tryz.prog 27 [v0_].toArray w0 fun e w' => ∃ v, e = .returned v ∧ (Below w0.heap.size w0 w' ∧ VR w' (St ⟨w0, []⟩ S [] [] [] true) v r) := tx_itoa Tryz.lay171 (by kernel_rfl) rfl h0 hG hF
theorem impl_FormatNetwork_ok {S : Nat → Prop} {v0_ : Value} {n' : Network} {r : ByteArray × Bool} (h0 : VR w0 S v0_ n') (hG : (GLm 0 1 2).pred w0 S) (hF : impl_FormatNetwork fu n' = some r) :
    Calls Tryz.prog 6 [v0_].toArray w0 fun e w' => ∃ v, e = .returned v ∧ (Below w0.heap.size w0 w' ∧ ∃ u0 u1, v = .tuple #[u0, u1] ∧ VR w' (St ⟨w0, []⟩ S [] [] [] true) u0 r.1 ∧ VR w' (St ⟨w0, []⟩ S [] [] [] true) u1 r.2) := by
 obtain ⟨A, c, A2, c2, rfl, hl, hl2⟩ := Network_open h0
 have H := Mem.start ⟨w0, []⟩ S
 have H := H.pA hl
 have H := H.pA hl2
 have H := H.pushArg (GLm 0 1 2) hG
 refine en Tryz.func6 fun a hf => ?_
 rw [impl_FormatNetwork] at hF
 refine bx hf H fun b' a w hf H => ?_
 refine pz 2 hf fun a hf => ?_
 refine wl_end (then_n (sq (sq (reg (lN 0 hf H TF.la27 fun a hf => ?_)))))
 obtain ⟨y, hy, hF⟩ := bs_ hF
 refine oc hf TF.cl25 (impl_IsValidNetwork_ok (S := TT) (Network_mkv (x := n') (H.rt 2 rfl) (H.rt 1 rfl)) hy) fun v w a hp hf => ?_
 obtain ⟨hb, hp⟩ := hp
 obtain rfl := VR_bool hp
 have H := H.keep hb
 refine pz 1 hf fun a hf => ?_
 refine wl_end (then_n (ib hF hf (fun hc hF => ?_) fun hc hF => ?_))
 ·refine sqz (pz 2 hf fun a hf => ?_)
  refine wl_end (then_n (wp_ret (then_r (?_))))
  obtain rfl := oi hF
  refine ret_2 hf rfl (rv_tmp hf rfl) (rv_tmp hf rfl) ?_
  exact ⟨_, rfl, H.bel, _, _, rfl, mk_str, mk_bool⟩
 ·refine wp_skip (then_n (sqz (pz 1 hf fun a hf => ?_)))
  refine lB 0 hf H TF.ls24 fun a hf => ?_
  obtain ⟨y2, hy2, hF⟩ := bs_ hF
  refine oc hf TF.cl26 (strings_Join_ok (S := TT) (mk_list (H.rt 2 rfl)) mk_str (mp_true (H.get 0 rfl)) hy2) fun v2 w a hp2 hf => ?_
  obtain ⟨hb2, hp2⟩ := hp2
  obtain rfl := VR_str hp2
  have H := H.keep hb2
  obtain ⟨s', hs', hF⟩ := bs_ hF
  refine oq hf (rq_scat hf rfl rfl hs') fun a hf => ?_
  obtain ⟨s2, hs2, hF⟩ := bs_ hF
  refine oq hf (rq_scat hf rfl rfl hs2) fun a hf => ?_
  refine pz 1 hf fun a hf => ?_
  refine we (sqz (pz 1 hf fun a hf => ?_))
  refine lB 0 hf H TF.ls25 fun a hf => ?_
  refine pz 2 hf fun a hf => ?_
  refine wl_end (then_n ?_)
  obtain ⟨out2, hB1, hF⟩ := bs_ hF
  have hf := hf.pn [1, 4, 16, 17, 18]
  have H := H.lm 1 0 0 3 7
  refine loopC (fun (s : ByteArray × Int) (a : Act) (w : World) => match s with | (out', i) => Fr a 57 [(1, (.pointer (some ⟨b', 0, none⟩))), (4, (.string out')), (16, (.slice A2 n'.Fibers.length c2)), (17, (.int .i64 (n'.Fibers.length : Int))), (18, (.int .i64 i))] ∧ Mem ⟨w0, []⟩ S [⟨b', 27, [(.slice A n'.Nodes.length c), (.slice A2 n'.Fibers.length c2)]⟩] [] [] [(false, GLm 0 1 2), (false, MP.val [(.slice A2 n'.Fibers.length c2)] (n'.Fibers : List Fiber)), (false, MP.val [(.slice A n'.Nodes.length c)] (n'.Nodes : List ByteArray))] w) (fun k (s : ByteArray × Int) => impl_FormatNetwork_L1 fu n' k s.1 s.2 = some out2) (fun s => out2 = s) (s2, 0) fu hB1 ⟨hf, H⟩ (fun s h => by cases h) ?_ ?_
  ·rintro fk ⟨out', i⟩ a w hR1 hI
   replace hR1 : impl_FormatNetwork_L1 fu n' (fk + 1) out' i = some out2 := hR1
   rw [impl_FormatNetwork_L1] at hR1
   obtain ⟨hf, H⟩ := hI
   refine sqz (pz 1 hf fun a hf => ?_)
   refine wl_end (then_n (sq (ib hR1 hf (fun hc2 hR1 => ?_) fun hc2 hR1 => ?_)))
   ·refine wp_skip (then_n (sq (wp_block (sq (reg ?_)))))
    obtain ⟨e, he, hR1⟩ := bs_ hR1
    refine wl0 rfl (op_iaddr hf H Tryz.underlying25 TF.sz63 1 rfl rfl rfl he (by decide) fun p o cs a hf hr H => ?_)
    obtain rfl := Fiber_cells hr
    refine oq hf (rq_loadIN hf H TF.la63 0 0 rfl rfl rfl rfl) fun a hf => ?_
    refine aL hf H TF.zv63 fun b2 a w hf H => ?_
    refine sB 0 hf H TF.sz63 fun w H => ?_
    refine wl_end (then_n (sq (dw [] 23 fun w hb => ?_)))
    have H := H.keep hb
    refine zp 0 hf trivial fun a hf => ?_
    refine zp 1 hf trivial fun a hf => ?_
    refine strT (H.lk 2 0 0 []) (fun w H => trivial) fun hS => ?_
    refine zS 2 [] rfl rfl rfl rfl hf hS (fun w H => rq_loadB hf H TF.ls24 0 rfl rfl rfl) fun a hf => ?_
    refine zp 3 hf hS fun a hf => ?_
    refine strT (H.lk 3 0 0 []) (fun w H => H.lk 2 0 0 []) fun hS => ?_
    refine zS 4 [] rfl rfl rfl rfl hf hS (fun w H => rq_loadB hf H TF.ls3 0 rfl rfl rfl) fun a hf => ?_
    obtain ⟨e2, he2, hR1⟩ := bs_ hR1
    obtain ⟨p2, o2, cs2, hx, hr2, H⟩ := pre_iaddr H Tryz.underlying24 TF.sz9 3 rfl he2
    refine zP 5 rfl rfl rfl rfl hf hS (fun w => rq_iaddrE hf rfl rfl rfl hx w) fun a hf => ?_
    obtain rfl := hr2
    refine strT (H.lk 3 0 0 [0]) (fun w H => H.lk 3 0 0 []) fun hS => ?_
    refine zS 6 [] rfl rfl rfl rfl hf hS (fun w H => rq_loadI hf H TF.ls9 0 0 rfl rfl rfl) fun a hf => ?_
    obtain ⟨s3, hs3, hR1⟩ := bs_ hR1
    refine zP 7 rfl rfl rfl rfl hf hS (fun w => rq_scat hf rfl rfl hs3) fun a hf => ?_
    obtain ⟨s4, hs4, hR1⟩ := bs_ hR1
    refine zP 8 rfl rfl rfl rfl hf hS (fun w => rq_scat hf rfl rfl hs4) fun a hf => ?_
    refine zp 9 hf hS fun a hf => ?_
    refine zS 10 [] rfl rfl rfl rfl hf hS (fun w H => rq_loadB hf H TF.ls24 1 rfl rfl rfl) fun a hf => ?_
    refine zp 11 hf hS fun a hf => ?_
    refine zS 12 [] rfl rfl rfl rfl hf hS (fun w H => rq_loadB hf H TF.ls3 0 rfl rfl rfl) fun a hf => ?_
    obtain ⟨e3, he3, hR1⟩ := bs_ hR1
    obtain ⟨p3, o3, cs3, hx2, hr3, H⟩ := pre_iaddr H Tryz.underlying24 TF.sz9 4 rfl he3
    refine zP 13 rfl rfl rfl rfl hf hS (fun w => rq_iaddrE hf rfl rfl rfl hx2 w) fun a hf => ?_
    obtain rfl := hr3
    refine strT (H.lk 3 0 0 [0,1]) (fun w H => H.lk 3 0 0 [1]) fun hS => ?_
    refine zS 14 [] rfl rfl rfl rfl hf hS (fun w H => rq_loadI hf H TF.ls9 0 0 rfl rfl rfl) fun a hf => ?_
    obtain ⟨s5, hs5, hR1⟩ := bs_ hR1
    refine zP 15 rfl rfl rfl rfl hf hS (fun w => rq_scat hf rfl rfl hs5) fun a hf => ?_
    obtain ⟨s6, hs6, hR1⟩ := bs_ hR1
    refine zP 16 rfl rfl rfl rfl hf hS (fun w => rq_scat hf rfl rfl hs6) fun a hf => ?_
    refine zp 17 hf hS fun a hf => ?_
    refine zS 18 [] rfl rfl rfl rfl hf hS (fun w H => rq_loadB hf H TF.ls3 0 rfl rfl rfl) fun a hf => ?_
    obtain ⟨y3, hy3, hR1⟩ := bs_ hR1
    refine nn 19 rfl (oC hf TF.cl27 (strconv_Itoa_ok (S := TT) mk_int (mp_true (H.get 3 rfl)) hy3) fun v3 w a hp3 hf => ?_)
    obtain ⟨hb3, hp3⟩ := hp3
    obtain rfl := VR_str hp3
    have H := H.keep hb3
    have hS := H.lk 3 0 0 [0,1]
    refine aS hS ?_
    obtain ⟨s7, hs7, hR1⟩ := bs_ hR1
    refine zP 20 rfl rfl rfl rfl hf hS (fun w => rq_scat hf rfl rfl hs7) fun a hf => ?_
    obtain ⟨s8, hs8, hR1⟩ := bs_ hR1
    refine zP 21 rfl rfl rfl rfl hf hS (fun w => rq_scat hf rfl rfl hs8) fun a hf => ?_
    refine zp 22 hf hS fun a hf => ?_
    refine dk ?_
    have hf := hf.pn [1, 4, 6, 16, 17, 18]
    refine then_n (sq (sqz (pz 1 hf fun a hf => ?_)))
    refine lB 0 hf H TF.ls3 fun a hf => ?_
    refine pz 1 hf fun a hf => ?_
    refine wl_end (then_n (ib hR1 hf (fun hc3 hR1 => ?_) fun hc3 hR1 => ?_))
    ·refine reg (pz 2 hf fun a hf => ?_)
     refine lB 0 hf H TF.ls3 fun a hf => ?_
     obtain ⟨y4, hy4, hR1⟩ := bs_ hR1
     refine oc hf TF.cl27 (strconv_Itoa_ok (S := TT) mk_int (mp_true (H.get 3 rfl)) hy4) fun v4 w a hp4 hf => ?_
     obtain ⟨hb4, hp4⟩ := hp4
     obtain rfl := VR_str hp4
     have H := H.keep hb4
     obtain ⟨s9, hs9, hR1⟩ := bs_ hR1
     refine oq hf (rq_scat hf rfl rfl hs9) fun a hf => ?_
     obtain ⟨s10, hs10, hR1⟩ := bs_ hR1
     refine oq hf (rq_scat hf rfl rfl hs10) fun a hf => ?_
     refine pz 1 hf fun a hf => ?_
     refine wl_end (then_n (reg (pz 1 hf fun a hf => ?_)))
     obtain ⟨s11, hs11, hR1⟩ := bs_ hR1
     refine oq hf (rq_scat hf rfl rfl hs11) fun a hf => ?_
     refine pz 1 hf fun a hf => ?_
     refine wl_end (blk_n (then_n (reg (pz 2 hf fun a hf => ?_))))
     have hf := hf.pn [1, 4, 16, 17, 18]
     refine wl_end ?_
     have hf := hf.pn [1, 4, 16, 17, 18]
     have H := H.lm 2 0 0 6 56
     exact then_n ⟨(s11, w64 (i + 1)), hR1, hf, H⟩
    ·refine wp_skip (then_n (reg (pz 1 hf fun a hf => ?_)))
     obtain ⟨s12, hs12, hR1⟩ := bs_ hR1
     refine oq hf (rq_scat hf rfl rfl hs12) fun a hf => ?_
     refine pz 1 hf fun a hf => ?_
     refine wl_end (blk_n (then_n (reg (pz 2 hf fun a hf => ?_))))
     refine wl_end ?_
     have hf := hf.pn [1, 4, 16, 17, 18]
     have H := H.lm 2 0 0 6 56
     exact then_n ⟨(s12, w64 (i + 1)), hR1, hf, H⟩
   ·refine wp_exit (then_x (then_x (blk_e (?_))))
    have hf := hf.pn [1, 4, 16, 17, 18]
    have H := H.lm 1 0 0 3 7
    exact ⟨(out', i), (Option.some.inj hR1).symm, hf, H⟩
  rintro a w ⟨⟨out3, i2⟩, rfl, hf, H⟩
  try dsimp only at hF
  refine then_n (sqz (pz 3 hf fun a hf => ?_))
  refine wer ?_
  obtain rfl := oi hF
  refine ret_2 hf rfl (rv_tmp hf rfl) (rv_tmp hf rfl) ?_
  exact ⟨_, rfl, H.bel, _, _, rfl, mk_str, mk_bool⟩
theorem internal_stringslite_HasSuffix_ok {S : Nat → Prop} {v0_ : Value} {v1_ : Value} {s' : ByteArray} {suffix : ByteArray} {r : Bool} (h0 : VR w0 S v0_ s') (h1 : VR w0 S v1_ suffix) (hF : internal_stringslite_HasSuffix fu s' suffix = some r) :
    Calls Tryz.prog 102 [v0_, v1_].toArray w0 fun e w' => ∃ v, e = .returned v ∧ (Below w0.heap.size w0 w' ∧ VR w' (St ⟨w0, []⟩ S [] [] [] true) v r) := by
 obtain rfl := VR_str h0
 obtain rfl := VR_str h1
 have H := Mem.start ⟨w0, []⟩ S
 refine en Tryz.func102 fun a hf => ?_
 rw [internal_stringslite_HasSuffix] at hF
 refine sqz (pz 1 hf fun a hf => ?_)
 refine wl_end (then_n (sq ?_))
 obtain ⟨c, hGc, hF⟩ := bs_ hF
 have fh := hf.prune [] rfl
 have Hm := H.lk 0 0 0 []
 refine midF 4 (.bool c) fh Hm ?_ fun a w hf H => ?_
 ·refine reg (pz 6 hf fun a hf => ?_)
  refine iteB hGc (fun hc hGc => ?_) fun hc hGc => ?_
  ·have hf := hf.lit 10 rfl hc
   refine pz 6 hf fun a hf => ?_
   obtain ⟨s2, hs2, hGc⟩ := bs_ hGc
   refine wlg hf rfl rfl rfl (op_q hf (rq_ssub hf Tryz.underlying9 rfl rfl rfl (.inr rfl) (.inl ⟨rfl, rfl⟩) hs2) rfl (by decide) fun a hf => ?_)
   refine pz 4 hf fun a hf => ?_
   obtain rfl := oi hGc
   have hf := hf.pn [4]
   have H := H.lk 0 0 0 []
   exact wl_end ⟨hf, H⟩
  ·have hf := hf.lit 10 rfl hc
   refine pz 11 hf fun a hf => ?_
   obtain rfl := oi hGc
   have hf := hf.pn [4]
   have H := H.lk 0 0 0 []
   exact wl_end ⟨hf, H⟩
 refine then_n (wp_ret (?_))
 obtain rfl := oi hF
 refine rT hf ?_
 exact ⟨_, rfl, H.bel, mk_bool⟩
theorem strings_HasSuffix_ok {S : Nat → Prop} {v0_ : Value} {v1_ : Value} {s' : ByteArray} {suffix : ByteArray} {r : Bool} (h0 : VR w0 S v0_ s') (h1 : VR w0 S v1_ suffix) (hF : strings_HasSuffix fu s' suffix = some r) :
    Calls Tryz.prog 63 [v0_, v1_].toArray w0 fun e w' => ∃ v, e = .returned v ∧ (Below w0.heap.size w0 w' ∧ VR w' (St ⟨w0, []⟩ S [] [] [] true) v r) := by
 obtain rfl := VR_str h0
 obtain rfl := VR_str h1
 have H := Mem.start ⟨w0, []⟩ S
 refine en Tryz.func63 fun a hf => ?_
 rw [strings_HasSuffix] at hF
 refine sqz (pz 1 hf fun a hf => ?_)
 refine wr (pz 2 hf fun a hf => ?_)
 obtain ⟨y, hy, hF⟩ := bs_ hF
 refine oc hf TF.cl102 (internal_stringslite_HasSuffix_ok (S := TT) mk_str mk_str hy) fun v w a hp hf => ?_
 obtain ⟨hb, hp⟩ := hp
 obtain rfl := VR_bool hp
 have H := H.keep hb
 refine pz 1 hf fun a hf => ?_
 refine wer ?_
 obtain rfl := oi hF
 refine rT hf ?_
 exact ⟨_, rfl, H.bel, mk_bool⟩
theorem strings_Split_ok {S : Nat → Prop} {v0_ : Value} {s : ByteArray} {v1_ : Value} {sep : ByteArray} {r : List ByteArray} (h0 : VR w0 S v0_ s) (h1 : VR w0 S v1_ sep) (hG : (GLm 0 1 2).pred w0 S) (hF : strings_Split fu s sep = some r) :
    Calls Tryz.prog 29 [v0_, v1_].toArray w0 fun e w' => ∃ v, e = .returned v ∧ (Below w0.heap.size w0 w' ∧ ∃ F0, VO w' F0 v r ∧ New w0 w' F0) := tx_split Tryz.lay146 (by kernel_rfl) rfl rfl h0 h1 hG hF
theorem impl_linesOf_ok {S : Nat → Prop} {v0_ : Value} {s' : ByteArray} {r : List ByteArray × Bool} (h0 : VR w0 S v0_ s') (hG : (GLm 0 1 2).pred w0 S) (hF : impl_linesOf fu s' = some r) :
    Calls Tryz.prog 28 [v0_].toArray w0 fun e w' => ∃ v, e = .returned v ∧ (Below w0.heap.size w0 w' ∧ ∃ F0, ∃ u0 u1, v = .tuple #[u0, u1] ∧ VO w' F0 u0 r.1 ∧ VR w' (St ⟨w0, []⟩ S [] [] [] true) u1 r.2 ∧ New w0 w' F0) := by
 obtain rfl := VR_str h0
 have H := Mem.start ⟨w0, []⟩ S
 have H := H.pushArg (GLm 0 1 2) hG
 refine en Tryz.func28 fun a hf => ?_
 rw [impl_linesOf] at hF
 refine sqz (pz 2 hf fun a hf => ?_)
 refine wl_end (then_n (sq (sq ?_)))
 obtain ⟨c, hGc, hF⟩ := bs_ hF
 have fh := hf.prune [0] rfl
 have Hm := H.lk 0 0 0 [0]
 refine midF 11 (.bool c) fh Hm ?_ fun a w hf H => ?_
 ·refine reg (pz 4 hf fun a hf => ?_)
  refine iteB hGc (fun hc hGc => ?_) fun hc hGc => ?_
  ·have hf := hf.lit 7 rfl hc
   refine pz 4 hf fun a hf => ?_
   obtain rfl := oi hGc
   have hf := hf.pn [11, 0]
   have H := H.lk 0 0 0 [0]
   exact wl_end ⟨hf, H⟩
  ·have hf := hf.lit 7 rfl hc
   refine pz 1 hf fun a hf => ?_
   obtain ⟨y, hy, hGc⟩ := bs_ hGc
   refine wlg hf rfl rfl rfl (oC hf TF.cl63 (strings_HasSuffix_ok (S := TT) mk_str mk_str hy) fun v w a hp hf => ?_)
   obtain ⟨hb, hp⟩ := hp
   obtain rfl := VR_bool hp
   have H := H.keep hb
   refine pz 2 hf fun a hf => ?_
   obtain rfl := oi hGc
   have hf := hf.pn [11, 0]
   have H := H.lk 0 0 0 [0]
   exact wl_end ⟨hf, H⟩
 refine then_n (ib hF hf (fun hc2 hF => ?_) fun hc2 hF => ?_)
 ·refine sqz (pz 2 hf fun a hf => ?_)
  refine wl_end (then_n (wp_ret (then_r (?_))))
  have H := H.ownNil (ByteArray)
  have H := H.lend 0 rfl
  obtain rfl := oi hF
  refine ret_2 hf rfl (rv_tmp hf rfl) (rv_tmp hf rfl) ?_
  have hN := H.ends1
  exact ⟨_, rfl, H.bel, [], _, _, rfl, (mko_list (H.ownAt 0 rfl)), mk_bool, by first | exact hN | simpa using hN⟩
 ·refine wp_skip (then_n (sqz (pz 4 hf fun a hf => ?_)))
  obtain ⟨s2, hs2, hF⟩ := bs_ hF
  refine oq hf (rq_ssub hf Tryz.underlying9 rfl rfl rfl (.inl ⟨rfl, rfl⟩) (.inr rfl) hs2) fun a hf => ?_
  obtain ⟨y2, hy2, hF⟩ := bs_ hF
  refine oc hf TF.cl29 (strings_Split_ok (S := TT) mk_str mk_str (mp_true (H.get 0 rfl)) hy2) fun v2 w a hp2 hf => ?_
  obtain ⟨hb2, F, hp3, hN⟩ := hp2
  obtain ⟨A, c2, rfl, hl⟩ := VO_list hp3
  have H := H.aO1 hb2 hN hl
  have H := H.lend 0 rfl
  refine pz 2 hf fun a hf => ?_
  refine wer ?_
  obtain rfl := oi hF
  refine ret_2 hf rfl (rv_tmp hf rfl) (rv_tmp hf rfl) ?_
  have hN := H.ends1
  exact ⟨_, rfl, H.bel, F, _, _, rfl, (mko_list (H.ownAt 0 rfl)), mk_bool, by first | exact hN | simpa using hN⟩
theorem impl_indexOf_ok {S : Nat → Prop} {v0_ : Value} {v1_ : Value} {l : List ByteArray} {name : ByteArray} {r : Int × Bool} (h0 : VR w0 S v0_ l) (h1 : VR w0 S v1_ name) (hF : impl_indexOf fu l name = some r) :
    Calls Tryz.prog 35 [v0_, v1_].toArray w0 fun e w' => ∃ v, e = .returned v ∧ (Below w0.heap.size w0 w' ∧ ∃ u0 u1, v = .tuple #[u0, u1] ∧ VR w' (St ⟨w0, []⟩ S [] [] [] true) u0 r.1 ∧ VR w' (St ⟨w0, []⟩ S [] [] [] true) u1 r.2) := by
 obtain ⟨A, c, rfl, hl⟩ := VR_list h0
 obtain rfl := VR_str h1
 have H := Mem.start ⟨w0, []⟩ S
 have H := H.pA hl
 refine en Tryz.func35 fun a hf => ?_
 rw [impl_indexOf] at hF
 refine sqz (pz 2 hf fun a hf => ?_)
 refine we (sqz (pz 3 hf fun a hf => ?_))
 refine wl_end (then_n ?_)
 obtain ⟨out', hB1, hF⟩ := bs_ hF
 have hf := hf.pn [1, 8, 9, 10]
 have H := H.lk 0 0 0 [0]
 refine loopC (fun (s : Int) (a : Act) (w : World) => match s with | i => Fr a 20 [(1, (.string name)), (8, (.slice A l.length c)), (9, (.int .i64 (l.length : Int))), (10, (.int .i64 i))] ∧ Mem ⟨w0, []⟩ S [] [] [] [(false, MP.val [(.slice A l.length c)] (l : List ByteArray))] w) (fun k (s : Int) => impl_indexOf_L1 fu l name k s = some out') (fun s => out' = Out.next s) 0 fu hB1 ⟨hf, H⟩ (fun s h => by cases h) ?_ ?_
 ·rintro fk i a w hR1 hI
  replace hR1 : impl_indexOf_L1 fu l name (fk + 1) i = some out' := hR1
  rw [impl_indexOf_L1] at hR1
  obtain ⟨hf, H⟩ := hI
  refine sqz (pz 1 hf fun a hf => ?_)
  refine wl_end (then_n (sq (ib hR1 hf (fun hc hR1 => ?_) fun hc hR1 => ?_)))
  ·refine ws (pz 1 hf fun a hf => ?_)
   obtain ⟨e, he, hR1⟩ := bs_ hR1
   refine wl0 rfl (op_iaddr hf H Tryz.underlying24 TF.sz9 0 rfl rfl rfl he (by decide) fun p o cs a hf hr H => ?_)
   obtain rfl := hr
   refine oq hf (rq_loadI hf H TF.ls9 0 0 rfl rfl rfl) fun a hf => ?_
   refine pz 2 hf fun a hf => ?_
   refine wr (pz 3 hf fun a hf => ?_)
   refine wl_end (then_n (ib hR1 hf (fun hc2 hR1 => ?_) fun hc2 hR1 => ?_))
   ·refine sqz (pz 3 hf fun a hf => ?_)
    have hf := hf.pn [4, 5]
    refine wl_end (then_n (wp_ret (blk_r (then_r (then_r (blk_r (then_r (then_r (?_)))))))))
    obtain rfl := oi hR1
    replace hF := on_ret hF
    obtain rfl := oi hF
    refine ret_2 hf rfl (rv_tmp hf rfl) (rv_tmp hf rfl) ?_
    exact ⟨_, rfl, H.bel, _, _, rfl, mk_int, mk_bool⟩
   ·refine wp_skip (blk_n (then_n (reg (pz 2 hf fun a hf => ?_))))
    refine wl_end ?_
    have hf := hf.pn [1, 8, 9, 10]
    have H := H.lk 0 0 0 [1]
    exact then_n ⟨w64 (i + 1), hR1, hf, H⟩
  ·refine wp_exit (then_x (then_x (blk_e (?_))))
   have hf := hf.pn [1, 8, 9, 10]
   have H := H.lk 0 0 0 [0]
   exact ⟨i, (Option.some.inj hR1).symm, hf, H⟩
 rintro a w ⟨i2, rfl, hf, H⟩
 replace hF := on_next hF
 refine then_n (sqz (pz 2 hf fun a hf => ?_))
 refine wer ?_
 obtain rfl := oi hF
 refine ret_2 hf rfl (rv_tmp hf rfl) (rv_tmp hf rfl) ?_
 exact ⟨_, rfl, H.bel, _, _, rfl, mk_int, mk_bool⟩
theorem impl_ParseInt_ok {S : Nat → Prop} {v0_ : Value} {s : ByteArray} {r : Int × Bool} (h0 : VR w0 S v0_ s) (hG : (GLm 0 1 2).pred w0 S) (hF : impl_ParseInt fu s = some r) :
    Calls Tryz.prog 36 [v0_].toArray w0 fun e w' => ∃ v, e = .returned v ∧ (Below w0.heap.size w0 w' ∧ ∃ u0 u1, v = .tuple #[u0, u1] ∧ VR w' (St ⟨w0, []⟩ S [] [] [] true) u0 r.1 ∧ VR w' (St ⟨w0, []⟩ S [] [] [] true) u1 r.2) := tx_parse h0 hG hF
theorem impl_readFiber_ok {S : Nat → Prop} {v0_ : Value} {v1_ : Value} {n' : Network} {line : ByteArray} {r : Fiber × Bool} (h0 : VR w0 S v0_ n') (h1 : VR w0 S v1_ line) (hG : (GLm 0 1 2).pred w0 S) (hF : impl_readFiber fu n' line = some r) :
    Calls Tryz.prog 30 [v0_, v1_].toArray w0 fun e w' => ∃ v, e = .returned v ∧ (Below w0.heap.size w0 w' ∧ ∃ u0 u1, v = .tuple #[u0, u1] ∧ VR w' (St ⟨w0, []⟩ S [] [] [] true) u0 r.1 ∧ VR w' (St ⟨w0, []⟩ S [] [] [] true) u1 r.2) := by
 obtain ⟨A, c, A2, c2, rfl, hl, hl2⟩ := Network_open h0
 obtain rfl := VR_str h1
 have H := Mem.start ⟨w0, []⟩ S
 have H := H.pA hl
 have H := H.pA hl2
 have H := H.pushArg (GLm 0 1 2) hG
 refine en Tryz.func30 fun a hf => ?_
 rw [impl_readFiber] at hF
 refine bx hf H fun b' a w hf H => ?_
 refine aL hf H TF.zv63 fun b2 a w hf H => ?_
 refine pz 1 hf fun a hf => ?_
 refine wr (pz 1 hf fun a hf => ?_)
 obtain ⟨y, hy, hF⟩ := bs_ hF
 refine oc hf TF.cl29 (strings_Split_ok (S := TT) mk_str mk_str (mp_true (H.get 0 rfl)) hy) fun v w a hp hf => ?_
 obtain ⟨hb, F, hp2, hN⟩ := hp
 obtain ⟨A3, c3, rfl, hl3⟩ := VO_list hp2
 have H := H.aO1 hb hN hl3
 have H := H.lend 0 rfl
 refine pz 1 hf fun a hf => ?_
 refine wl_end (then_n (sq (sq ?_)))
 obtain ⟨c4, hGc4, hF⟩ := bs_ hF
 have fh := hf.prune [2, 4, 6] rfl
 have Hm := H.lm 3 0 1 4 15
 refine midF 25 (.bool c4) fh Hm ?_ fun a w hf H => ?_
 ·refine reg (pz 4 hf fun a hf => ?_)
  refine iteB hGc4 (fun hc hGc4 => ?_) fun hc hGc4 => ?_
  ·have hf := hf.lit 21 rfl hc
   refine pz 4 hf fun a hf => ?_
   obtain rfl := oi hGc4
   have hf := hf.pn [25, 2, 4, 6]
   have H := H.lm 3 0 1 4 15
   exact wl_end ⟨hf, H⟩
  ·have hf := hf.lit 21 rfl hc
   refine pz 4 hf fun a hf => ?_
   obtain rfl := oi hGc4
   have hf := hf.pn [25, 2, 4, 6]
   have H := H.lm 3 0 1 4 15
   exact wl_end ⟨hf, H⟩
 refine then_n (ib hF hf (fun hc2 hF => ?_) fun hc2 hF => ?_)
 ·refine sq (reg (oq hf (rq_build hf (cs := [(.int .i64 0), (.int .i64 0), (.int .i64 0), (.int .i64 0)]) rfl (fun w => by kernel_rfl)) fun a hf => ?_))
  refine sB 0 hf H TF.sz63 fun w H => ?_
  refine pz 1 hf fun a hf => ?_
  refine wl_end (then_n (wp_ret (then_r (?_))))
  obtain rfl := oi hF
  refine ret_2 hf rfl (rv_cellN hf H 0 TF.la63 rfl rfl rfl) (rv_tmp hf rfl) ?_
  exact ⟨_, rfl, H.bel, _, _, rfl, Fiber_mkv, mk_bool⟩
 ·refine wp_skip (then_n (sq (dw [] 11 fun w hb => ?_)))
  have H := H.keep hb
  refine zp 0 hf trivial fun a hf => ?_
  refine strT (H.lk 2 0 0 []) (fun w H => trivial) fun hS => ?_
  refine zS 1 [] rfl rfl rfl rfl hf hS (fun w H => rq_loadB hf H TF.ls24 0 rfl rfl rfl) fun a hf => ?_
  refine zp 2 hf hS fun a hf => ?_
  obtain ⟨e, he, hF⟩ := bs_ hF
  obtain ⟨p, o, cs, hx, hr, H⟩ := pre_iaddr H Tryz.underlying24 TF.sz9 0 rfl he
  refine zP 3 rfl rfl rfl rfl hf hS (fun w => rq_iaddrE hf rfl rfl rfl hx w) fun a hf => ?_
  obtain rfl := hr
  refine strT (H.lk 2 0 0 [0]) (fun w H => H.lk 1 0 0 []) fun hS => ?_
  refine zS 4 [] rfl rfl rfl rfl hf hS (fun w H => rq_loadI hf H TF.ls9 0 0 rfl rfl rfl) fun a hf => ?_
  obtain ⟨y2, hy2, hF⟩ := bs_ hF
  refine nn 5 rfl (oC hf TF.cl35 (impl_indexOf_ok (S := TT) (mk_list (H.rt 4 rfl)) mk_str hy2) fun v2 w a hp3 hf => ?_)
  obtain ⟨hb2, v3, v4, rfl, hp4, hp5⟩ := hp3
  obtain rfl := VR_int hp4
  obtain rfl := VR_bool hp5
  have H := H.keep hb2
  have hS := H.lk 2 0 0 [0]
  refine aS hS ?_
  refine zp 6 hf hS fun a hf => ?_
  refine zp 7 hf hS fun a hf => ?_
  refine zp 8 hf hS fun a hf => ?_
  refine zp 9 hf hS fun a hf => ?_
  refine zp 10 hf hS fun a hf => ?_
  refine dk ?_
  refine then_n (sq (dw [] 11 fun w hb => ?_))
  have H := H.keep hb
  refine zp 0 hf trivial fun a hf => ?_
  refine strT (H.lk 2 0 0 []) (fun w H => trivial) fun hS => ?_
  refine zS 1 [] rfl rfl rfl rfl hf hS (fun w H => rq_loadB hf H TF.ls24 0 rfl rfl rfl) fun a hf => ?_
  refine zp 2 hf hS fun a hf => ?_
  obtain ⟨e2, he2, hF⟩ := bs_ hF
  obtain ⟨p2, o2, cs2, hx2, hr2, H⟩ := pre_iaddr H Tryz.underlying24 TF.sz9 1 rfl he2
  refine zP 3 rfl rfl rfl rfl hf hS (fun w => rq_iaddrE hf rfl rfl rfl hx2 w) fun a hf => ?_
  obtain rfl := hr2
  refine strT (H.lk 2 0 0 [0]) (fun w H => H.lk 1 0 0 []) fun hS => ?_
  refine zS 4 [] rfl rfl rfl rfl hf hS (fun w H => rq_loadI hf H TF.ls9 0 0 rfl rfl rfl) fun a hf => ?_
  obtain ⟨y3, hy3, hF⟩ := bs_ hF
  refine nn 5 rfl (oC hf TF.cl35 (impl_indexOf_ok (S := TT) (mk_list (H.rt 5 rfl)) mk_str hy3) fun v5 w a hp6 hf => ?_)
  obtain ⟨hb3, v6, v7, rfl, hp7, hp8⟩ := hp6
  obtain rfl := VR_int hp7
  obtain rfl := VR_bool hp8
  have H := H.keep hb3
  have hS := H.lk 2 0 0 [0]
  refine aS hS ?_
  refine zp 6 hf hS fun a hf => ?_
  refine zp 7 hf hS fun a hf => ?_
  refine zp 8 hf hS fun a hf => ?_
  refine zp 9 hf hS fun a hf => ?_
  refine zp 10 hf hS fun a hf => ?_
  refine dk ?_
  have hf := hf.pn [4, 6, 7, 8, 9, 10]
  refine then_n (sqz (pz 1 hf fun a hf => ?_))
  obtain ⟨e3, he3, hF⟩ := bs_ hF
  refine wl0 rfl (op_iaddr hf H Tryz.underlying24 TF.sz9 2 rfl rfl rfl he3 (by decide) fun p3 o3 cs3 a hf hr3 H => ?_)
  obtain rfl := hr3
  refine oq hf (rq_loadI hf H TF.ls9 0 0 rfl rfl rfl) fun a hf => ?_
  obtain ⟨y4, hy4, hF⟩ := bs_ hF
  refine oc hf TF.cl36 (impl_ParseInt_ok (S := TT) mk_str (mp_true (H.get 4 rfl)) hy4) fun v8 w a hp9 hf => ?_
  obtain ⟨hb4, v9, v10, rfl, hp10, hp11⟩ := hp9
  obtain rfl := VR_int hp10
  obtain rfl := VR_bool hp11
  have H := H.keep hb4
  refine pz 5 hf fun a hf => ?_
  refine wr (pz 3 hf fun a hf => ?_)
  refine oq hf (rq_build hf (cs := [(.int .i64 y2.1), (.int .i64 y3.1), (.int .i64 y4.1), (.int .i64 0)]) rfl (fun w => by kernel_rfl)) fun a hf => ?_
  refine aL hf H TF.zv63 fun b3 a w hf H => ?_
  refine sB 0 hf H TF.sz63 fun w H => ?_
  have hf := hf.pn [4, 6, 8, 10, 12, 13]
  refine we (sqz (pz 3 hf fun a hf => ?_))
  refine wl_end (then_n (ib hF hf (fun hc3 hF => ?_) fun hc3 hF => ?_))
  ·refine sqz (pz 1 hf fun a hf => ?_)
   obtain ⟨e4, he4, hF⟩ := bs_ hF
   refine wl0 rfl (op_iaddr hf H Tryz.underlying24 TF.sz9 3 rfl rfl rfl he4 (by decide) fun p4 o4 cs4 a hf hr4 H => ?_)
   obtain rfl := hr4
   refine oq hf (rq_loadI hf H TF.ls9 0 0 rfl rfl rfl) fun a hf => ?_
   obtain ⟨y5, hy5, hF⟩ := bs_ hF
   refine oc hf TF.cl36 (impl_ParseInt_ok (S := TT) mk_str (mp_true (H.get 5 rfl)) hy5) fun v11 w a hp12 hf => ?_
   obtain ⟨hb5, v12, v13, rfl, hp13, hp14⟩ := hp12
   obtain rfl := VR_int hp13
   obtain rfl := VR_bool hp14
   have H := H.keep hb5
   refine pz 5 hf fun a hf => ?_
   refine wl_end (then_n (reg (pz 3 hf fun a hf => ?_)))
   refine iteB hF (fun hc4 hF => ?_) fun hc4 hF => ?_
   ·have hf := hf.lit 68 rfl hc4
    refine pz 3 hf fun a hf => ?_
    refine sB 0 hf H TF.sz3 fun w H => ?_
    refine pz 1 hf fun a hf => ?_
    have hf := hf.pn [4, 8, 10, 12, 13]
    refine wr (lN 0 hf H TF.la63 fun a hf => ?_)
    refine pz 2 hf fun a hf => ?_
    refine iteB hF (fun hc5 hF => ?_) fun hc5 hF => ?_
    ·have hf := hf.lit 74 rfl hc5
     refine pz 3 hf fun a hf => ?_
     refine iteB hF (fun hc6 hF => ?_) fun hc6 hF => ?_
     ·have hf := hf.lit 77 rfl hc6
      refine pz 2 hf fun a hf => ?_
      refine sB 1 hf H TF.sz63 fun w H => ?_
      refine pz 1 hf fun a hf => ?_
      refine wer ?_
      obtain rfl := oi hF
      refine ret_2 hf rfl (rv_cellN hf H 1 TF.la63 rfl rfl rfl) (rv_tmp hf rfl) ?_
      exact ⟨_, rfl, H.bel, _, _, rfl, Fiber_mkv, mk_bool⟩
     ·have hf := hf.lit 77 rfl hc6
      refine pz 2 hf fun a hf => ?_
      refine sB 1 hf H TF.sz63 fun w H => ?_
      refine pz 1 hf fun a hf => ?_
      refine wer ?_
      obtain rfl := oi hF
      refine ret_2 hf rfl (rv_cellN hf H 1 TF.la63 rfl rfl rfl) (rv_tmp hf rfl) ?_
      exact ⟨_, rfl, H.bel, _, _, rfl, Fiber_mkv, mk_bool⟩
    ·have hf := hf.lit 74 rfl hc5
     refine pz 5 hf fun a hf => ?_
     refine sB 1 hf H TF.sz63 fun w H => ?_
     refine pz 1 hf fun a hf => ?_
     refine wer ?_
     obtain rfl := oi hF
     refine ret_2 hf rfl (rv_cellN hf H 1 TF.la63 rfl rfl rfl) (rv_tmp hf rfl) ?_
     exact ⟨_, rfl, H.bel, _, _, rfl, Fiber_mkv, mk_bool⟩
   ·have hf := hf.lit 68 rfl hc4
    refine pz 3 hf fun a hf => ?_
    refine sB 0 hf H TF.sz3 fun w H => ?_
    refine pz 1 hf fun a hf => ?_
    have hf := hf.pn [4, 8, 10, 12, 13]
    refine wr (lN 0 hf H TF.la63 fun a hf => ?_)
    refine pz 2 hf fun a hf => ?_
    refine iteB hF (fun hc7 hF => ?_) fun hc7 hF => ?_
    ·have hf := hf.lit 74 rfl hc7
     refine pz 3 hf fun a hf => ?_
     refine iteB hF (fun hc8 hF => ?_) fun hc8 hF => ?_
     ·have hf := hf.lit 77 rfl hc8
      refine pz 2 hf fun a hf => ?_
      refine sB 1 hf H TF.sz63 fun w H => ?_
      refine pz 1 hf fun a hf => ?_
      refine wer ?_
      obtain rfl := oi hF
      refine ret_2 hf rfl (rv_cellN hf H 1 TF.la63 rfl rfl rfl) (rv_tmp hf rfl) ?_
      exact ⟨_, rfl, H.bel, _, _, rfl, Fiber_mkv, mk_bool⟩
     ·have hf := hf.lit 77 rfl hc8
      refine pz 2 hf fun a hf => ?_
      refine sB 1 hf H TF.sz63 fun w H => ?_
      refine pz 1 hf fun a hf => ?_
      refine wer ?_
      obtain rfl := oi hF
      refine ret_2 hf rfl (rv_cellN hf H 1 TF.la63 rfl rfl rfl) (rv_tmp hf rfl) ?_
      exact ⟨_, rfl, H.bel, _, _, rfl, Fiber_mkv, mk_bool⟩
    ·have hf := hf.lit 74 rfl hc7
     refine pz 5 hf fun a hf => ?_
     refine sB 1 hf H TF.sz63 fun w H => ?_
     refine pz 1 hf fun a hf => ?_
     refine wer ?_
     obtain rfl := oi hF
     refine ret_2 hf rfl (rv_cellN hf H 1 TF.la63 rfl rfl rfl) (rv_tmp hf rfl) ?_
     exact ⟨_, rfl, H.bel, _, _, rfl, Fiber_mkv, mk_bool⟩
  ·refine wp_skip (then_n (sq (reg (lN 0 hf H TF.la63 fun a hf => ?_))))
   refine pz 2 hf fun a hf => ?_
   refine iteB hF (fun hc9 hF => ?_) fun hc9 hF => ?_
   ·have hf := hf.lit 74 rfl hc9
    refine pz 3 hf fun a hf => ?_
    refine iteB hF (fun hc10 hF => ?_) fun hc10 hF => ?_
    ·have hf := hf.lit 77 rfl hc10
     refine pz 2 hf fun a hf => ?_
     refine sB 1 hf H TF.sz63 fun w H => ?_
     refine pz 1 hf fun a hf => ?_
     have hf := hf.pn [4, 5]
     refine wer ?_
     obtain rfl := oi hF
     refine ret_2 hf rfl (rv_cellN hf H 1 TF.la63 rfl rfl rfl) (rv_tmp hf rfl) ?_
     exact ⟨_, rfl, H.bel, _, _, rfl, Fiber_mkv, mk_bool⟩
    ·have hf := hf.lit 77 rfl hc10
     refine pz 2 hf fun a hf => ?_
     refine sB 1 hf H TF.sz63 fun w H => ?_
     refine pz 1 hf fun a hf => ?_
     have hf := hf.pn [4, 5]
     refine wer ?_
     obtain rfl := oi hF
     refine ret_2 hf rfl (rv_cellN hf H 1 TF.la63 rfl rfl rfl) (rv_tmp hf rfl) ?_
     exact ⟨_, rfl, H.bel, _, _, rfl, Fiber_mkv, mk_bool⟩
   ·have hf := hf.lit 74 rfl hc9
    refine pz 5 hf fun a hf => ?_
    refine sB 1 hf H TF.sz63 fun w H => ?_
    refine pz 1 hf fun a hf => ?_
    have hf := hf.pn [4, 5]
    refine wer ?_
    obtain rfl := oi hF
    refine ret_2 hf rfl (rv_cellN hf H 1 TF.la63 rfl rfl rfl) (rv_tmp hf rfl) ?_
    exact ⟨_, rfl, H.bel, _, _, rfl, Fiber_mkv, mk_bool⟩
theorem impl_copyNetwork_ok {S : Nat → Prop} {v0_ : Value} {n' : Network} {r : Network} (h0 : VR w0 S v0_ n') (hF : impl_copyNetwork fu n' = some r) :
    Calls Tryz.prog 31 [v0_].toArray w0 fun e w' => ∃ v, e = .returned v ∧ (Below w0.heap.size w0 w' ∧ ∃ F0, VO w' F0 v r ∧ New w0 w' F0) := by
 obtain ⟨A, c, A2, c2, rfl, hl, hl2⟩ := Network_open h0
 have H := Mem.start ⟨w0, []⟩ S
 have H := H.pA hl
 have H := H.pA hl2
 refine en Tryz.func31 fun a hf => ?_
 rw [impl_copyNetwork] at hF
 refine bx hf H fun b' a w hf H => ?_
 refine aL hf H TF.zv27 fun b2 a w hf H => ?_
 refine wl_end (then_n (sq ?_))
 obtain ⟨l, hl_, hF⟩ := bs_ hF
 obtain ⟨l2, hl2_, hF⟩ := bs_ hF
 refine mid (fun a w => ∃ (A4 : Option Addr) (c3 : Nat) (E : Go.TypeId) (A6 : Option Addr) (c4 : Nat) (E2 : Go.TypeId), Fr a 12 [(2, (.pointer (some ⟨b2, 0, none⟩)))] ∧ Mem ⟨w0, []⟩ S [⟨b2, 27, [(.slice A4 l.length c3), (.slice A6 l2.length c4)]⟩] [⟨.sh true, E2, A6, c4, (l2 : List Fiber)⟩, ⟨.sh true, E, A4, c3, (l : List ByteArray)⟩] [] [] w) ?_ ?_
 ·refine dw [9] 10 fun w hb => ?_
  have H := H.keep hb
  refine zp 1 hf trivial fun a hf => ?_
  refine strT (H.lk 2 0 0 []) (fun w H => trivial) fun hS => ?_
  refine zS 2 [2, 3, 7, 8, 9] rfl rfl rfl rfl hf hS (fun w H => rq_loadB hf H TF.ls24 0 rfl rfl rfl) fun a hf => ?_
  refine zp 5 hf hS fun a hf => ?_
  refine zS 6 [6, 7, 8, 9] rfl rfl rfl rfl hf hS (fun w H => rq_loadB hf H TF.ls25 0 rfl rfl rfl) fun a hf => ?_
  refine on2 (i := 0) (j := 4) (bi := [true, true, true, false, false, true, true, false, false, false]) (bj := [false, true, true, false, true, true, true, false, false, false]) (by kernel_rfl) rfl rfl rfl rfl rfl rfl ?_ ?_
  ·refine (bl hf H 9 ([] : List ByteArray) [] el0 fun A3 a w hf H => ?_)
   have hS := H.lk 2 0 0 []
   refine aS hS ?_
   refine on2 (i := 3) (j := 4) (bi := [true, true, true, true, false, true, true, false, false, false]) (bj := [true, true, true, false, true, true, true, false, false, false]) (by kernel_rfl) rfl rfl rfl rfl rfl rfl ?_ ?_
   ·have H := H.rowWeak 0 rfl
    refine (op_appI hf H Tryz.underlying24 TF.ai9 rfl (by decide) 0 1 rfl rfl rfl rfl (.inl rfl) hl_ (by decide) fun E A4 c3 a w hf H => ?_)
    have H := H.rowOwn 0 rfl rfl
    have H := H.rowSh 0 rfl
    have hS := H.lk 2 0 0 []
    refine aS hS ?_
    refine nn 4 rfl (bl hf H 63 ([] : List Fiber) [] el0 fun A5 a w hf H => ?_)
    have hS := H.lk 2 0 0 []
    refine aS hS ?_
    have H := H.rowWeak 0 rfl
    refine nn 7 rfl (op_appI hf H Tryz.underlying25 TF.ai63 rfl (by decide) 0 0 rfl rfl rfl rfl (.inl rfl) hl2_ (by decide) fun E2 A6 c4 a w hf H => ?_)
    have H := H.rowOwn 0 rfl rfl
    have H := H.rowSh 0 rfl
    have hS := H.lk 2 0 0 []
    refine aS hS ?_
    refine zP 8 rfl rfl rfl rfl hf hS (fun w => rq_build hf (cs := [(.slice A4 l.length c3), (.slice A6 l2.length c4)]) rfl (fun w => by kernel_rfl)) fun a hf => ?_
    refine nn 9 rfl (op_storeB hf H 0 TF.sz27 rfl rfl rfl rfl rfl rfl (nle rfl) fun w H => ?_)
    refine ⟨fun h => absurd h (by decide), ?_⟩
    refine dk ?_
    have hf := hf.pn [2]
    have H := H.lk 1 3 0 []
    exact ⟨A4, c3, E, A6, c4, E2, hf, H⟩
   ·refine (bl hf H 63 ([] : List Fiber) [] el0 fun A4 a w hf H => ?_)
    have hS := H.lk 2 0 0 []
    refine aS hS ?_
    have H := H.rowWeak 1 rfl
    refine nn 3 rfl (op_appI hf H Tryz.underlying24 TF.ai9 rfl (by decide) 1 1 rfl rfl rfl rfl (.inl rfl) hl_ (by decide) fun E A5 c3 a w hf H => ?_)
    have H := H.rowOwn 1 rfl rfl
    have H := H.rowSh 1 rfl
    have hS := H.lk 2 0 0 []
    refine aS hS ?_
    have H := H.rowWeak 0 rfl
    refine nn 7 rfl (op_appI hf H Tryz.underlying25 TF.ai63 rfl (by decide) 0 0 rfl rfl rfl rfl (.inl rfl) hl2_ (by decide) fun E2 A6 c4 a w hf H => ?_)
    have H := H.rowOwn 0 rfl rfl
    have H := H.rowSh 0 rfl
    have hS := H.lk 2 0 0 []
    refine aS hS ?_
    refine zP 8 rfl rfl rfl rfl hf hS (fun w => rq_build hf (cs := [(.slice A5 l.length c3), (.slice A6 l2.length c4)]) rfl (fun w => by kernel_rfl)) fun a hf => ?_
    refine nn 9 rfl (op_storeB hf H 0 TF.sz27 rfl rfl rfl rfl rfl rfl (nle rfl) fun w H => ?_)
    refine ⟨fun h => absurd h (by decide), ?_⟩
    refine dk ?_
    have hf := hf.pn [2]
    have H := H.lk 1 3 0 []
    exact ⟨A5, c3, E, A6, c4, E2, hf, H⟩
  ·refine (bl hf H 63 ([] : List Fiber) [] el0 fun A3 a w hf H => ?_)
   have hS := H.lk 2 0 0 []
   refine aS hS ?_
   refine nn 0 rfl (bl hf H 9 ([] : List ByteArray) [] el0 fun A4 a w hf H => ?_)
   have hS := H.lk 2 0 0 []
   refine aS hS ?_
   have H := H.rowWeak 0 rfl
   refine nn 3 rfl (op_appI hf H Tryz.underlying24 TF.ai9 rfl (by decide) 0 1 rfl rfl rfl rfl (.inl rfl) hl_ (by decide) fun E A5 c3 a w hf H => ?_)
   have H := H.rowOwn 0 rfl rfl
   have H := H.rowSh 0 rfl
   have hS := H.lk 2 0 0 []
   refine aS hS ?_
   have H := H.rowWeak 1 rfl
   refine nn 7 rfl (op_appI hf H Tryz.underlying25 TF.ai63 rfl (by decide) 1 0 rfl rfl rfl rfl (.inl rfl) hl2_ (by decide) fun E2 A6 c4 a w hf H => ?_)
   have H := H.rowOwn 1 rfl rfl
   have H := H.rowSh 1 rfl
   have hS := H.lk 2 0 0 []
   refine aS hS ?_
   refine zP 8 rfl rfl rfl rfl hf hS (fun w => rq_build hf (cs := [(.slice A5 l.length c3), (.slice A6 l2.length c4)]) rfl (fun w => by kernel_rfl)) fun a hf => ?_
   refine nn 9 rfl (op_storeB hf H 0 TF.sz27 rfl rfl rfl rfl rfl rfl (nle rfl) fun w H => ?_)
   refine ⟨fun h => absurd h (by decide), ?_⟩
   refine dk ?_
   have H := H.frontR 1 rfl
   have hf := hf.pn [2]
   have H := H.lk 1 3 0 []
   exact ⟨A5, c3, E, A6, c4, E2, hf, H⟩
 rintro a w ⟨A4, c3, E, A6, c4, E2, hf, H⟩
 refine then_n (wp_ret (?_))
 have H := H.rowOwn 1 rfl rfl
 obtain ⟨F, H⟩ := H.freezeOwn 1 rfl
 have H := H.lend 0 rfl
 have H := H.rowOwn 0 rfl rfl
 obtain ⟨F2, H⟩ := H.freezeOwn 0 rfl
 have H := H.lend 0 rfl
 have H := H.frontD 1 rfl
 obtain rfl := oi hF
 refine ret_1 hf rfl (rv_cellN hf H 0 TF.la27 rfl rfl rfl) ?_
 have hN := H.ends2
 exact ⟨_, rfl, H.bel, (F ++ F2), ⟨_, Network_ownmk (x := ({ Nodes := l, Fibers := l2 } : Network)) (H.ownAt 0 rfl) (H.ownAt 1 rfl), rfl⟩, by first | exact hN | simpa using hN⟩
theorem impl_ParseNetwork_ok {S : Nat → Prop} {v0_ : Value} {s' : ByteArray} {r : Network × Bool} (h0 : VR w0 S v0_ s') (hG : (GLm 0 1 2).pred w0 S) (hF : impl_ParseNetwork fu s' = some r) :
    Calls Tryz.prog 7 [v0_].toArray w0 fun e w' => ∃ v, e = .returned v ∧ (Below w0.heap.size w0 w' ∧ ∃ F0, ∃ u0 u1, v = .tuple #[u0, u1] ∧ VO w' F0 u0 r.1 ∧ VR w' (St ⟨w0, []⟩ S [] [] [] true) u1 r.2 ∧ New w0 w' F0) := by
 obtain rfl := VR_str h0
 have H := Mem.start ⟨w0, []⟩ S
 have H := H.pushArg (GLm 0 1 2) hG
 refine en Tryz.func7 fun a hf => ?_
 rw [impl_ParseNetwork] at hF
 refine sq (reg (aL hf H TF.zv27 fun b' a w hf H => ?_))
 refine pz 1 hf fun a hf => ?_
 refine wr (pz 1 hf fun a hf => ?_)
 obtain ⟨y, hy, hF⟩ := bs_ hF
 refine oc hf TF.cl28 (impl_linesOf_ok (S := TT) mk_str (mp_true (H.get 0 rfl)) hy) fun v w a hp hf => ?_
 obtain ⟨hb, F, v2, v3, rfl, hp2, hp3, hN⟩ := hp
 obtain ⟨A, c, rfl, hl⟩ := VO_list hp2
 obtain rfl := VR_bool hp3
 have H := H.aO1 hb hN hl
 have H := H.lend 0 rfl
 refine pz 5 hf fun a hf => ?_
 refine we (sqz (pz 2 hf fun a hf => ?_))
 refine wl_end (then_n (ib hF hf (fun hc hF => ?_) fun hc hF => ?_))
 ·refine sq (reg (oq hf (rq_build hf (cs := [(.slice none 0 0), (.slice none 0 0)]) rfl (fun w => by kernel_rfl)) fun a hf => ?_))
  refine sB 0 hf H TF.sz27 fun w H => ?_
  refine pz 1 hf fun a hf => ?_
  refine wl_end (then_n (wp_ret (then_r (?_))))
  have H := H.ownNil (ByteArray)
  have H := H.lend 0 rfl
  have H := H.ownNil (Fiber)
  have H := H.lend 0 rfl
  have H := H.frontD 1 rfl
  obtain rfl := oi hF
  refine ret_2 hf rfl (rv_cellN hf H 0 TF.la27 rfl rfl rfl) (rv_tmp hf rfl) ?_
  have hN := H.ends2
  exact ⟨_, rfl, H.bel, ([] ++ []), _, _, rfl, ⟨_, Network_ownmk (x := ({ Nodes := [], Fibers := [] } : Network)) (H.ownAt 0 rfl) (H.ownAt 1 rfl), rfl⟩, mk_bool, by first | exact hN | simpa using hN⟩
 ·refine wp_skip (then_n (sqz (pz 1 hf fun a hf => ?_)))
  obtain ⟨e, he, hF⟩ := bs_ hF
  refine wl0 rfl (op_iaddr hf H Tryz.underlying24 TF.sz9 0 rfl rfl rfl he (by decide) fun p o cs a hf hr H => ?_)
  obtain rfl := hr
  refine oq hf (rq_loadI hf H TF.ls9 0 0 rfl rfl rfl) fun a hf => ?_
  obtain ⟨y2, hy2, hF⟩ := bs_ hF
  refine oc hf TF.cl29 (strings_Split_ok (S := TT) mk_str mk_str (mp_true (H.get 2 rfl)) hy2) fun v4 w a hp4 hf => ?_
  obtain ⟨hb2, F3, hp5, hN2⟩ := hp4
  obtain ⟨A2, c2, rfl, hl2⟩ := VO_list hp5
  have H := H.aO1 hb2 hN2 hl2
  have H := H.lend 0 rfl
  obtain ⟨l, hl_, hF⟩ := bs_ hF
  refine wl0 rfl (op_sliceI hf H Tryz.underlying24 TF.sz9 0 rfl rfl rfl rfl hl_ (by decide) fun A3 c3 a hf H => ?_)
  refine oq hf (rq_build hf (cs := [(.slice A3 l.length c3), (.slice none 0 0)]) rfl (fun w => by kernel_rfl)) fun a hf => ?_
  refine aL hf H TF.zv27 fun b2 a w hf H => ?_
  refine sB 0 hf H TF.sz27 fun w H => ?_
  have hf := hf.pn [0, 2, 4, 6]
  refine we (sqz (pz 1 hf fun a hf => ?_))
  obtain ⟨l2, hl2_, hF⟩ := bs_ hF
  refine wl0 rfl (op_sliceI hf H Tryz.underlying24 TF.sz9 3 rfl rfl rfl rfl hl2_ (by decide) fun A4 c4 a hf H => ?_)
  refine pz 2 hf fun a hf => ?_
  refine wl_end (then_n ?_)
  have H := H.nilRow (Fiber) (.sh true) rfl trivial 63
  obtain ⟨out', hB1, hF⟩ := bs_ hF
  have hf := hf.pn [0, 2, 6, 28, 29, 30]
  have H := H.lm 3 1 0 6 35
  refine loopC (fun (s : Int × List Fiber) (a : Act) (w : World) => match s with | (i, m) => ∃ (A5 : Option Addr) (c5 : Nat) (E : Go.TypeId), Fr a 65 [(0, (.string s')), (2, (.pointer (some ⟨b', 0, none⟩))), (6, (.pointer (some ⟨b2, 0, none⟩))), (28, (.slice A4 l2.length c4)), (29, (.int .i64 (l2.length : Int))), (30, (.int .i64 i))] ∧ Mem ⟨w0, []⟩ S [⟨b2, 27, [(.slice A3 l.length c3), (.slice A5 m.length c5)]⟩, ⟨b', 27, [(.slice none 0 0), (.slice none 0 0)]⟩] [⟨.sh true, E, A5, c5, (m : List Fiber)⟩] [] [(true, MP.val [(.slice A4 l2.length c4)] (l2 : List ByteArray)), (true, MP.val [(.slice A3 l.length c3)] (l : List ByteArray)), (false, GLm 0 1 2)] w) (fun k (s : Int × List Fiber) => impl_ParseNetwork_L1 fu l l2 k s.1 s.2 = some out') (fun s => out' = Out.next s) (0, ([] : List Fiber)) fu hB1 ⟨none, 0, 63, hf, H⟩ (fun s h => by cases h) ?_ ?_
  ·rintro fk ⟨i, m⟩ a w hR1 hI
   replace hR1 : impl_ParseNetwork_L1 fu l l2 (fk + 1) i m = some out' := hR1
   rw [impl_ParseNetwork_L1] at hR1
   obtain ⟨A5, c5, E, hf, H⟩ := hI
   refine sqz (pz 1 hf fun a hf => ?_)
   refine wl_end (then_n (sq (ib hR1 hf (fun hc2 hR1 => ?_) fun hc2 hR1 => ?_)))
   ·refine wp_skip (then_n (sq (wp_block (sq (reg ?_)))))
    obtain ⟨e2, he2, hR1⟩ := bs_ hR1
    refine wl0 rfl (op_iaddr hf H Tryz.underlying24 TF.sz9 0 rfl rfl rfl he2 (by decide) fun p2 o2 cs2 a hf hr2 H => ?_)
    obtain rfl := hr2
    refine oq hf (rq_loadI hf H TF.ls9 0 0 rfl rfl rfl) fun a hf => ?_
    refine pz 1 hf fun a hf => ?_
    refine wr (lN 0 hf H TF.la27 fun a hf => ?_)
    refine pz 1 hf fun a hf => ?_
    obtain ⟨y3, hy3, hR1⟩ := bs_ hR1
    refine oc hf TF.cl30 (impl_readFiber_ok (S := TT) (Network_mkv (x := ({ Nodes := l, Fibers := m } : Network)) (H.rt 2 rfl) (H.rowTrue 0 rfl)) mk_str (mp_true (H.get 3 rfl)) hy3) fun v5 w a hp6 hf => ?_
    obtain ⟨hb3, v6, v7, rfl, hp7, hp8⟩ := hp6
    obtain rfl := Fiber_open hp7
    obtain rfl := VR_bool hp8
    have H := H.keep hb3
    refine pz 3 hf fun a hf => ?_
    refine aL hf H TF.zv63 fun b3 a w hf H => ?_
    refine sB 0 hf H TF.sz63 fun w H => ?_
    refine pz 1 hf fun a hf => ?_
    refine we (sqz (pz 2 hf fun a hf => ?_))
    refine wl_end (then_n (ib hR1 hf (fun hc3 hR1 => ?_) fun hc3 hR1 => ?_))
    ·refine sq (reg (oq hf (rq_build hf (cs := [(.slice none 0 0), (.slice none 0 0)]) rfl (fun w => by kernel_rfl)) fun a hf => ?_))
     refine sB 2 hf H TF.sz27 fun w H => ?_
     refine pz 1 hf fun a hf => ?_
     have hf := hf.pn [2, 3]
     refine wl_end (then_n (wp_ret (then_r (blk_r (then_r (then_r (blk_r (then_r (then_r (?_))))))))))
     have H := H.ownNil (ByteArray)
     have H := H.lend 0 rfl
     have H := H.ownNil (Fiber)
     have H := H.lend 0 rfl
     have H := H.frontD 1 rfl
     obtain rfl := oi hR1
     replace hF := on_ret hF
     obtain rfl := oi hF
     refine ret_2 hf rfl (rv_cellN hf H 2 TF.la27 rfl rfl rfl) (rv_tmp hf rfl) ?_
     have hN := H.ends2
     exact ⟨_, rfl, H.bel, ([] ++ []), _, _, rfl, ⟨_, Network_ownmk (x := ({ Nodes := [], Fibers := [] } : Network)) (H.ownAt 0 rfl) (H.ownAt 1 rfl), rfl⟩, mk_bool, by first | exact hN | simpa using hN⟩
    ·refine wp_skip (then_n (reg (pz 1 hf fun a hf => ?_)))
     refine lB 1 hf H TF.ls25 fun a hf => ?_
     refine lN 0 hf H TF.la63 fun a hf => ?_
     refine wl0 rfl (bl hf H 63 ([y3.1] : List Fiber) [(.int .i64 y3.1.A), (.int .i64 y3.1.B), (.int .i64 y3.1.Length), (.int .i64 y3.1.Risk)] (el1 (y := y3.1) ((Fiber_mk (x := y3.1)))) fun A6 a w hf H => ?_)
     obtain ⟨l3, hl3_, hR1⟩ := bs_ hR1
     refine wl0 rfl (op_appR hf H Tryz.underlying25 TF.ai63 rfl (by decide) 1 0 rfl rfl rfl rfl (.inr rfl) hl3_ (by decide) fun E2 A7 c6 a w hf H => ?_)
     refine pz 1 hf fun a hf => ?_
     refine sB 1 hf H TF.sz25 fun w H => ?_
     have hf := hf.pn [0, 2, 6, 28, 29, 30]
     refine wl_end (blk_n (then_n (reg (pz 2 hf fun a hf => ?_))))
     refine wl_end ?_
     have hf := hf.pn [0, 2, 6, 28, 29, 30]
     have H := H.lm 6 2 0 4 14
     exact then_n ⟨(w64 (i + 1), l3), hR1, A7, c6, E2, hf, H⟩
   ·refine wp_exit (then_x (then_x (blk_e (?_))))
    have hf := hf.pn [0, 2, 6, 28, 29, 30]
    have H := H.lm 3 1 0 3 7
    exact ⟨(i, m), (Option.some.inj hR1).symm, A5, c5, E, hf, H⟩
  rintro a w ⟨⟨i2, m2⟩, rfl, A8, c7, E3, hf, H⟩
  replace hF := on_next hF
  try dsimp only at hF
  refine then_n (sq (sq (reg (lN 0 hf H TF.la27 fun a hf => ?_))))
  obtain ⟨y4, hy4, hF⟩ := bs_ hF
  refine oc hf TF.cl6 (impl_FormatNetwork_ok (S := TT) (Network_mkv (x := ({ Nodes := l, Fibers := m2 } : Network)) (H.rt 1 rfl) (H.rowTrue 0 rfl)) (mp_true (H.get 2 rfl)) hy4) fun v8 w a hp9 hf => ?_
  obtain ⟨hb4, v9, v10, rfl, hp10, hp11⟩ := hp9
  obtain rfl := VR_str hp10
  obtain rfl := VR_bool hp11
  have H := H.keep hb4
  refine pz 5 hf fun a hf => ?_
  refine wl_end (then_n (sq ?_))
  obtain ⟨c8, hGc8, hF⟩ := bs_ hF
  have fh := hf.prune [2, 6] rfl
  have Hm := H.lk 3 1 0 [1,2]
  refine midF 61 (.bool c8) fh Hm ?_ fun a w hf H => ?_
  ·refine reg (pz 3 hf fun a hf => ?_)
   refine iteB hGc8 (fun hc4 hGc8 => ?_) fun hc4 hGc8 => ?_
   ·have hf := hf.lit 57 rfl hc4
    refine pz 4 hf fun a hf => ?_
    obtain rfl := oi hGc8
    have hf := hf.pn [61, 2, 6]
    have H := H.lk 3 1 0 [1,2]
    exact wl_end ⟨hf, H⟩
   ·have hf := hf.lit 57 rfl hc4
    refine pz 4 hf fun a hf => ?_
    obtain rfl := oi hGc8
    have hf := hf.pn [61, 2, 6]
    have H := H.lk 3 1 0 [1,2]
    exact wl_end ⟨hf, H⟩
  refine then_n (ib hF hf (fun hc5 hF => ?_) fun hc5 hF => ?_)
  ·refine sq (reg (oq hf (rq_build hf (cs := [(.slice none 0 0), (.slice none 0 0)]) rfl (fun w => by kernel_rfl)) fun a hf => ?_))
   refine sB 1 hf H TF.sz27 fun w H => ?_
   refine pz 1 hf fun a hf => ?_
   refine wl_end (then_n (wp_ret (then_r (?_))))
   have H := H.ownNil (ByteArray)
   have H := H.lend 0 rfl
   have H := H.ownNil (Fiber)
   have H := H.lend 0 rfl
   have H := H.frontD 1 rfl
   obtain rfl := oi hF
   refine ret_2 hf rfl (rv_cellN hf H 1 TF.la27 rfl rfl rfl) (rv_tmp hf rfl) ?_
   have hN := H.ends2
   exact ⟨_, rfl, H.bel, ([] ++ []), _, _, rfl, ⟨_, Network_ownmk (x := ({ Nodes := [], Fibers := [] } : Network)) (H.ownAt 0 rfl) (H.ownAt 1 rfl), rfl⟩, mk_bool, by first | exact hN | simpa using hN⟩
  ·refine wp_skip (then_n (sq (reg (lN 0 hf H TF.la27 fun a hf => ?_))))
   obtain ⟨y5, hy5, hF⟩ := bs_ hF
   refine oc hf TF.cl31 (impl_copyNetwork_ok (S := TT) (Network_mkv (x := ({ Nodes := l, Fibers := m2 } : Network)) (H.rt 0 rfl) (H.rowTrue 0 rfl)) hy5) fun v11 w a hp12 hf => ?_
   obtain ⟨hb5, F5, hp13, hN3⟩ := hp12
   obtain ⟨A9, c9, F6, A10, c10, F7, rfl, rfl, hl3, hl4⟩ := Network_vo hp13
   have H := H.aO2 hb5 hN3 hl3 hl4
   have H := H.lend 0 rfl
   have H := H.lend 1 rfl
   refine sB 1 hf H TF.sz27 fun w H => ?_
   refine pz 1 hf fun a hf => ?_
   refine wer ?_
   have H := H.frontD 1 rfl
   have H := H.frontD 1 rfl
   obtain rfl := oi hF
   refine ret_2 hf rfl (rv_cellN hf H 1 TF.la27 rfl rfl rfl) (rv_tmp hf rfl) ?_
   have hN := H.ends2
   exact ⟨_, rfl, H.bel, (F6 ++ F7), _, _, rfl, ⟨_, Network_ownmk (x := y5) (H.ownAt 0 rfl) (H.ownAt 1 rfl), rfl⟩, mk_bool, by first | exact hN | simpa using hN⟩
theorem spec_l1In_ok {S : Nat → Prop} {v0_ : Value} {v1_ : Value} {v2_ : Value} {x1 : Int} {a' : Int} {b' : Int} {r : Bool} (h0 : VR w0 S v0_ x1) (h1 : VR w0 S v1_ a') (h2 : VR w0 S v2_ b') (hF : spec_l1In fu x1 a' b' = some r) :
    Calls Tryz.prog 65 [v0_, v1_, v2_].toArray w0 fun e w' => ∃ v, e = .returned v ∧ (Below w0.heap.size w0 w' ∧ VR w' (St ⟨w0, []⟩ S [] [] [] true) v r) := by
 obtain rfl := VR_int h0
 obtain rfl := VR_int h1
 obtain rfl := VR_int h2
 have H := Mem.start ⟨w0, []⟩ S
 refine en Tryz.func65 fun a hf => ?_
 rw [spec_l1In] at hF
 refine sqz (pz 1 hf fun a hf => ?_)
 refine wl_end (then_n (sq ?_))
 obtain ⟨c, hGc, hF⟩ := bs_ hF
 have fh := hf.prune [] rfl
 have Hm := H.lk 0 0 0 []
 refine midF 6 (.bool c) fh Hm ?_ fun a w hf H => ?_
 ·refine reg (pz 4 hf fun a hf => ?_)
  refine iteB hGc (fun hc hGc => ?_) fun hc hGc => ?_
  ·have hf := hf.lit 10 rfl hc
   refine pz 5 hf fun a hf => ?_
   obtain rfl := oi hGc
   have hf := hf.pn [6]
   have H := H.lk 0 0 0 []
   exact wl_end ⟨hf, H⟩
  ·have hf := hf.lit 10 rfl hc
   refine pz 5 hf fun a hf => ?_
   obtain rfl := oi hGc
   have hf := hf.pn [6]
   have H := H.lk 0 0 0 []
   exact wl_end ⟨hf, H⟩
 refine then_n (wp_ret (?_))
 obtain rfl := oi hF
 refine rT hf ?_
 exact ⟨_, rfl, H.bel, mk_bool⟩
theorem spec_l2Sign_ok {S : Nat → Prop} {v0_ : Value} {b' : By} {r : Bool} (h0 : VR w0 S v0_ b') (hF : spec_l2Sign fu b' = some r) :
    Calls Tryz.prog 106 [v0_].toArray w0 fun e w' => ∃ v, e = .returned v ∧ (Below w0.heap.size w0 w' ∧ VR w' (St ⟨w0, []⟩ S [] [] [] true) v r) := by
 obtain rfl := VR_by h0
 have H := Mem.start ⟨w0, []⟩ S
 refine en Tryz.func106 fun a hf => ?_
 rw [spec_l2Sign] at hF
 refine sqz (pz 1 hf fun a hf => ?_)
 refine wl_end (then_n (sq ?_))
 obtain ⟨c, hGc, hF⟩ := bs_ hF
 have fh := hf.prune [] rfl
 have Hm := H.lk 0 0 0 []
 refine midF 2 (.bool c) fh Hm ?_ fun a w hf H => ?_
 ·refine reg (pz 1 hf fun a hf => ?_)
  refine oq hf (rq_geK hf rfl rfl) fun a hf => ?_
  refine pz 1 hf fun a hf => ?_
  refine iteB hGc (fun hc hGc => ?_) fun hc hGc => ?_
  ·have hf := hf.lit 5 rfl hc
   refine pz 1 hf fun a hf => ?_
   refine wlg hf rfl rfl rfl (op_q hf (rq_leK hf rfl rfl) rfl (by decide) fun a hf => ?_)
   refine pz 2 hf fun a hf => ?_
   refine iteB hGc (fun hc2 hGc => ?_) fun hc2 hGc => ?_
   ·have hf := hf.lit 9 rfl hc2
    refine pz 3 hf fun a hf => ?_
    refine wlsu hf rfl rfl rfl rfl (by decide) fun a hf => ?_
    refine wlsu hf rfl rfl rfl rfl (by decide) fun a hf => ?_
    refine pz 3 hf fun a hf => ?_
    obtain rfl := oi hGc
    have hf := hf.pn [2]
    have H := H.lk 0 0 0 []
    exact wl_end ⟨hf, H⟩
   ·have hf := hf.lit 9 rfl hc2
    refine pz 1 hf fun a hf => ?_
    refine wlg hf rfl rfl rfl (op_q hf (rq_geK hf rfl rfl) rfl (by decide) fun a hf => ?_)
    refine pz 1 hf fun a hf => ?_
    refine iteB hGc (fun hc3 hGc => ?_) fun hc3 hGc => ?_
    ·have hf := hf.lit 12 rfl hc3
     refine pz 1 hf fun a hf => ?_
     refine wlg hf rfl rfl rfl (op_q hf (rq_leK hf rfl rfl) rfl (by decide) fun a hf => ?_)
     refine pz 3 hf fun a hf => ?_
     obtain rfl := oi hGc
     have hf := hf.pn [2]
     have H := H.lk 0 0 0 []
     exact wl_end ⟨hf, H⟩
    ·have hf := hf.lit 12 rfl hc3
     refine pz 5 hf fun a hf => ?_
     obtain rfl := oi hGc
     have hf := hf.pn [2]
     have H := H.lk 0 0 0 []
     exact wl_end ⟨hf, H⟩
  ·have hf := hf.lit 5 rfl hc
   refine pz 5 hf fun a hf => ?_
   refine wlg hf rfl rfl rfl (op_q hf (rq_geK hf rfl rfl) rfl (by decide) fun a hf => ?_)
   refine pz 1 hf fun a hf => ?_
   refine iteB hGc (fun hc4 hGc => ?_) fun hc4 hGc => ?_
   ·have hf := hf.lit 12 rfl hc4
    refine pz 1 hf fun a hf => ?_
    refine wlg hf rfl rfl rfl (op_q hf (rq_leK hf rfl rfl) rfl (by decide) fun a hf => ?_)
    refine pz 3 hf fun a hf => ?_
    obtain rfl := oi hGc
    have hf := hf.pn [2]
    have H := H.lk 0 0 0 []
    exact wl_end ⟨hf, H⟩
   ·have hf := hf.lit 12 rfl hc4
    refine pz 5 hf fun a hf => ?_
    obtain rfl := oi hGc
    have hf := hf.pn [2]
    have H := H.lk 0 0 0 []
    exact wl_end ⟨hf, H⟩
 refine then_n (wp_ret (?_))
 obtain rfl := oi hF
 refine rT hf ?_
 exact ⟨_, rfl, H.bel, mk_bool⟩
theorem spec_l2Name_ok {S : Nat → Prop} {v0_ : Value} {s' : ByteArray} {r : Bool} (h0 : VR w0 S v0_ s') (hF : spec_l2Name fu s' = some r) :
    Calls Tryz.prog 66 [v0_].toArray w0 fun e w' => ∃ v, e = .returned v ∧ (Below w0.heap.size w0 w' ∧ VR w' (St ⟨w0, []⟩ S [] [] [] true) v r) := by
 obtain rfl := VR_str h0
 have H := Mem.start ⟨w0, []⟩ S
 refine en Tryz.func66 fun a hf => ?_
 rw [spec_l2Name] at hF
 refine sqz (pz 1 hf fun a hf => ?_)
 refine wl_end (then_n (sq (sq ?_)))
 obtain ⟨c, hGc, hF⟩ := bs_ hF
 have fh := hf.prune [0] rfl
 have Hm := H.lk 0 0 0 []
 refine midF 17 (.bool c) fh Hm ?_ fun a w hf H => ?_
 ·refine reg (pz 2 hf fun a hf => ?_)
  obtain ⟨y, hy, hGc⟩ := bs_ hGc
  refine oc hf TF.cl65 (spec_l1In_ok (S := TT) mk_int mk_int mk_int hy) fun v w a hp hf => ?_
  obtain ⟨hb, hp⟩ := hp
  obtain rfl := VR_bool hp
  have H := H.keep hb
  refine pz 2 hf fun a hf => ?_
  refine iteB hGc (fun hc hGc => ?_) fun hc hGc => ?_
  ·have hf := hf.lit 8 rfl hc
   refine pz 9 hf fun a hf => ?_
   obtain rfl := oi hGc
   have hf := hf.pn [17, 0]
   have H := H.lk 0 0 0 []
   exact wl_end ⟨hf, H⟩
  ·have hf := hf.lit 8 rfl hc
   refine pz 1 hf fun a hf => ?_
   obtain ⟨e, he, hGc⟩ := bs_ hGc
   refine wlg hf rfl rfl rfl (op_q hf (rq_indexS hf Tryz.underlying9 rfl rfl he) rfl (by decide) fun a hf => ?_)
   refine wlg hf rfl rfl rfl (op_q hf (rq_ltK hf rfl rfl) rfl (by decide) fun a hf => ?_)
   refine pz 2 hf fun a hf => ?_
   refine iteB hGc (fun hc2 hGc => ?_) fun hc2 hGc => ?_
   ·have hf := hf.lit 13 rfl hc2
    refine pz 4 hf fun a hf => ?_
    obtain rfl := oi hGc
    have hf := hf.pn [17, 0]
    have H := H.lk 0 0 0 []
    exact wl_end ⟨hf, H⟩
   ·have hf := hf.lit 13 rfl hc2
    refine pz 1 hf fun a hf => ?_
    obtain ⟨e2, he2, hGc⟩ := bs_ hGc
    refine wlg hf rfl rfl rfl (op_q hf (rq_indexS hf Tryz.underlying9 rfl rfl he2) rfl (by decide) fun a hf => ?_)
    refine wlg hf rfl rfl rfl (op_q hf (rq_gtK hf rfl rfl) rfl (by decide) fun a hf => ?_)
    refine pz 1 hf fun a hf => ?_
    obtain rfl := oi hGc
    have hf := hf.pn [17, 0]
    have H := H.lk 0 0 0 []
    exact wl_end ⟨hf, H⟩
 refine then_n (ib hF hf (fun hc3 hF => ?_) fun hc3 hF => ?_)
 ·refine sqz (pz 1 hf fun a hf => ?_)
  refine wl_end (then_n (wp_ret (then_r (?_))))
  obtain rfl := oi hF
  refine rT hf ?_
  exact ⟨_, rfl, H.bel, mk_bool⟩
 ·refine wp_skip (then_n (sq (sqz (pz 1 hf fun a hf => ?_))))
  refine wl_end (then_n ?_)
  obtain ⟨out', hB1, hF⟩ := bs_ hF
  have hf := hf.pn [0, 3]
  have H := H.lk 0 0 0 []
  refine loopC (fun (s : Int) (a : Act) (w : World) => match s with | i => Fr a 29 [(0, (.string s')), (3, (.int .i64 i))] ∧ Mem ⟨w0, []⟩ S [] [] [] [] w) (fun k (s : Int) => spec_l2Name_L1 fu s' k s = some out') (fun s => out' = Out.next s) 0 fu hB1 ⟨hf, H⟩ (fun s h => by cases h) ?_ ?_
  ·rintro fk i a w hR1 hI
   replace hR1 : spec_l2Name_L1 fu s' (fk + 1) i = some out' := hR1
   rw [spec_l2Name_L1] at hR1
   obtain ⟨hf, H⟩ := hI
   refine sq (sqz (pz 4 hf fun a hf => ?_))
   refine wl_end (then_n (ib hR1 hf (fun hc4 hR1 => ?_) fun hc4 hR1 => ?_))
   ·refine ws (pz 2 hf fun a hf => ?_)
    obtain ⟨e3, he3, hR1⟩ := bs_ hR1
    refine oq hf (rq_indexS hf Tryz.underlying9 rfl rfl he3) fun a hf => ?_
    obtain ⟨y2, hy2, hR1⟩ := bs_ hR1
    refine oc hf TF.cl106 (spec_l2Sign_ok (S := TT) mk_by hy2) fun v2 w a hp2 hf => ?_
    obtain ⟨hb2, hp2⟩ := hp2
    obtain rfl := VR_bool hp2
    have H := H.keep hb2
    refine pz 1 hf fun a hf => ?_
    refine wl_end (then_n (ib hR1 hf (fun hc5 hR1 => ?_) fun hc5 hR1 => ?_))
    ·refine sqz (pz 1 hf fun a hf => ?_)
     refine wl_end (then_n (wp_ret (blk_r (then_r (then_r (blk_r (then_r (then_r (?_)))))))))
     obtain rfl := oi hR1
     replace hF := on_ret hF
     obtain rfl := oi hF
     refine rT hf ?_
     exact ⟨_, rfl, H.bel, mk_bool⟩
    ·refine wp_skip (blk_n (then_n (reg (pz 3 hf fun a hf => ?_))))
     refine wl_end ?_
     have hf := hf.pn [0, 3]
     have H := H.lk 0 0 0 []
     exact then_n ⟨w64 (i + 1), hR1, hf, H⟩
   ·refine wp_exit (then_x (then_x (blk_e (?_))))
    have hf := hf.pn [0, 3]
    have H := H.lk 0 0 0 []
    exact ⟨i, (Option.some.inj hR1).symm, hf, H⟩
  rintro a w ⟨i2, rfl, hf, H⟩
  replace hF := on_next hF
  refine then_n (sqz (pz 1 hf fun a hf => ?_))
  refine wer ?_
  obtain rfl := oi hF
  refine rT hf ?_
  exact ⟨_, rfl, H.bel, mk_bool⟩
theorem spec_l2Find_ok {S : Nat → Prop} {v0_ : Value} {v1_ : Value} {list : List ByteArray} {name : ByteArray} {r : Int} (h0 : VR w0 S v0_ list) (h1 : VR w0 S v1_ name) (hF : spec_l2Find fu list name = some r) :
    Calls Tryz.prog 67 [v0_, v1_].toArray w0 fun e w' => ∃ v, e = .returned v ∧ (Below w0.heap.size w0 w' ∧ VR w' (St ⟨w0, []⟩ S [] [] [] true) v r) := by
 obtain ⟨A, c, rfl, hl⟩ := VR_list h0
 obtain rfl := VR_str h1
 have H := Mem.start ⟨w0, []⟩ S
 have H := H.pA hl
 refine en Tryz.func67 fun a hf => ?_
 rw [spec_l2Find] at hF
 refine sqz (pz 1 hf fun a hf => ?_)
 refine we (sqz (pz 1 hf fun a hf => ?_))
 refine wl_end (then_n ?_)
 obtain ⟨out', hB1, hF⟩ := bs_ hF
 have hf := hf.pn [0, 1, 5]
 have H := H.lk 0 0 0 [0]
 refine loopC (fun (s : Int) (a : Act) (w : World) => match s with | i => Fr a 19 [(0, (.slice A list.length c)), (1, (.string name)), (5, (.int .i64 i))] ∧ Mem ⟨w0, []⟩ S [] [] [] [(false, MP.val [(.slice A list.length c)] (list : List ByteArray))] w) (fun k (s : Int) => spec_l2Find_L1 fu list name k s = some out') (fun s => out' = Out.next s) 0 fu hB1 ⟨hf, H⟩ (fun s h => by cases h) ?_ ?_
 ·rintro fk i a w hR1 hI
  replace hR1 : spec_l2Find_L1 fu list name (fk + 1) i = some out' := hR1
  rw [spec_l2Find_L1] at hR1
  obtain ⟨hf, H⟩ := hI
  refine sq (sqz (pz 4 hf fun a hf => ?_))
  refine wl_end (then_n (ib hR1 hf (fun hc hR1 => ?_) fun hc hR1 => ?_))
  ·refine ws (pz 2 hf fun a hf => ?_)
   obtain ⟨e, he, hR1⟩ := bs_ hR1
   refine wl0 rfl (op_iaddr hf H Tryz.underlying24 TF.sz9 0 rfl rfl rfl he (by decide) fun p o cs a hf hr H => ?_)
   obtain rfl := hr
   refine oq hf (rq_loadI hf H TF.ls9 0 0 rfl rfl rfl) fun a hf => ?_
   refine pz 2 hf fun a hf => ?_
   refine wl_end (then_n (ib hR1 hf (fun hc2 hR1 => ?_) fun hc2 hR1 => ?_))
   ·refine sqz (pz 2 hf fun a hf => ?_)
    have hf := hf.pn [4]
    refine wl_end (then_n (wp_ret (blk_r (then_r (then_r (blk_r (then_r (then_r (?_)))))))))
    obtain rfl := oi hR1
    replace hF := on_ret hF
    obtain rfl := oi hF
    refine rT hf ?_
    exact ⟨_, rfl, H.bel, mk_int⟩
   ·refine wp_skip (blk_n (then_n (reg (pz 3 hf fun a hf => ?_))))
    refine wl_end ?_
    have hf := hf.pn [0, 1, 5]
    have H := H.lk 0 0 0 [1]
    exact then_n ⟨w64 (i + 1), hR1, hf, H⟩
  ·refine wp_exit (then_x (then_x (blk_e (?_))))
   have hf := hf.pn [0, 1, 5]
   have H := H.lk 0 0 0 [0]
   exact ⟨i, (Option.some.inj hR1).symm, hf, H⟩
 rintro a w ⟨i2, rfl, hf, H⟩
 replace hF := on_next hF
 refine then_n (sqz (pz 1 hf fun a hf => ?_))
 refine wer ?_
 obtain rfl := oi hF
 refine rT hf ?_
 exact ⟨_, rfl, H.bel, mk_int⟩
theorem spec_l2Fiber_ok {S : Nat → Prop} {v0_ : Value} {v1_ : Value} {f : Fiber} {nodes : Int} {r : Bool} (h0 : VR w0 S v0_ f) (h1 : VR w0 S v1_ nodes) (hF : spec_l2Fiber fu f nodes = some r) :
    Calls Tryz.prog 68 [v0_, v1_].toArray w0 fun e w' => ∃ v, e = .returned v ∧ (Below w0.heap.size w0 w' ∧ VR w' (St ⟨w0, []⟩ S [] [] [] true) v r) := by
 obtain rfl := Fiber_open h0
 obtain rfl := VR_int h1
 have H := Mem.start ⟨w0, []⟩ S
 refine en Tryz.func68 fun a hf => ?_
 rw [spec_l2Fiber] at hF
 refine bx hf H fun b' a w hf H => ?_
 refine pz 1 hf fun a hf => ?_
 refine wl_end (then_n (sq ?_))
 obtain ⟨c, hGc, hF⟩ := bs_ hF
 have fh := hf.prune [] rfl
 have Hm := H.lk 0 0 0 []
 refine midF 4 (.bool c) fh Hm ?_ fun a w hf H => ?_
 ·refine reg (pz 1 hf fun a hf => ?_)
  refine lB 0 hf H TF.ls3 fun a hf => ?_
  refine pz 2 hf fun a hf => ?_
  obtain ⟨y, hy, hGc⟩ := bs_ hGc
  refine oc hf TF.cl65 (spec_l1In_ok (S := TT) mk_int mk_int mk_int hy) fun v w a hp hf => ?_
  obtain ⟨hb, hp⟩ := hp
  obtain rfl := VR_bool hp
  have H := H.keep hb
  refine pz 1 hf fun a hf => ?_
  refine iteB hGc (fun hc hGc => ?_) fun hc hGc => ?_
  ·have hf := hf.lit 10 rfl hc
   refine pz 1 hf fun a hf => ?_
   refine wlg hf rfl rfl rfl (op_q hf (rq_loadB hf H TF.ls3 0 rfl rfl rfl) rfl (by decide) fun a hf => ?_)
   refine pz 1 hf fun a hf => ?_
   refine wlg hf rfl rfl rfl (op_q hf (rq_loadB hf H TF.ls3 0 rfl rfl rfl) rfl (by decide) fun a hf => ?_)
   refine pz 3 hf fun a hf => ?_
   obtain ⟨y2, hy2, hGc⟩ := bs_ hGc
   refine wlg hf rfl rfl rfl (oC hf TF.cl65 (spec_l1In_ok (S := TT) mk_int mk_int mk_int hy2) fun v2 w a hp2 hf => ?_)
   obtain ⟨hb2, hp2⟩ := hp2
   obtain rfl := VR_bool hp2
   have H := H.keep hb2
   refine pz 2 hf fun a hf => ?_
   refine iteB hGc (fun hc2 hGc => ?_) fun hc2 hGc => ?_
   ·have hf := hf.lit 20 rfl hc2
    refine pz 1 hf fun a hf => ?_
    refine wlg hf rfl rfl rfl (op_q hf (rq_loadB hf H TF.ls3 0 rfl rfl rfl) rfl (by decide) fun a hf => ?_)
    obtain ⟨y3, hy3, hGc⟩ := bs_ hGc
    refine wlg hf rfl rfl rfl (oC hf TF.cl65 (spec_l1In_ok (S := TT) mk_int mk_int mk_int hy3) fun v3 w a hp3 hf => ?_)
    obtain ⟨hb3, hp3⟩ := hp3
    obtain rfl := VR_bool hp3
    have H := H.keep hb3
    refine pz 2 hf fun a hf => ?_
    refine iteB hGc (fun hc3 hGc => ?_) fun hc3 hGc => ?_
    ·have hf := hf.lit 25 rfl hc3
     refine pz 1 hf fun a hf => ?_
     refine wlg hf rfl rfl rfl (op_q hf (rq_loadB hf H TF.ls3 0 rfl rfl rfl) rfl (by decide) fun a hf => ?_)
     obtain ⟨y4, hy4, hGc⟩ := bs_ hGc
     refine wlg hf rfl rfl rfl (oC hf TF.cl65 (spec_l1In_ok (S := TT) mk_int mk_int mk_int hy4) fun v4 w a hp4 hf => ?_)
     obtain ⟨hb4, hp4⟩ := hp4
     obtain rfl := VR_bool hp4
     have H := H.keep hb4
     refine pz 2 hf fun a hf => ?_
     obtain rfl := oi hGc
     have hf := hf.pn [4]
     have H := H.lk 0 0 0 []
     exact wl_end ⟨hf, H⟩
    ·have hf := hf.lit 25 rfl hc3
     refine pz 5 hf fun a hf => ?_
     obtain rfl := oi hGc
     have hf := hf.pn [4]
     have H := H.lk 0 0 0 []
     exact wl_end ⟨hf, H⟩
   ·have hf := hf.lit 20 rfl hc2
    refine pz 10 hf fun a hf => ?_
    obtain rfl := oi hGc
    have hf := hf.pn [4]
    have H := H.lk 0 0 0 []
    exact wl_end ⟨hf, H⟩
  ·have hf := hf.lit 10 rfl hc
   refine pz 20 hf fun a hf => ?_
   obtain rfl := oi hGc
   have hf := hf.pn [4]
   have H := H.lk 0 0 0 []
   exact wl_end ⟨hf, H⟩
 refine then_n (wp_ret (?_))
 obtain rfl := oi hF
 refine rT hf ?_
 exact ⟨_, rfl, H.bel, mk_bool⟩
theorem spec_l2Good_ok {S : Nat → Prop} {v0_ : Value} {n' : Network} {r : Bool} (h0 : VR w0 S v0_ n') (hF : spec_l2Good fu n' = some r) :
    Calls Tryz.prog 32 [v0_].toArray w0 fun e w' => ∃ v, e = .returned v ∧ (Below w0.heap.size w0 w' ∧ VR w' (St ⟨w0, []⟩ S [] [] [] true) v r) := by
 obtain ⟨A, c, A2, c2, rfl, hl, hl2⟩ := Network_open h0
 have H := Mem.start ⟨w0, []⟩ S
 have H := H.pA hl
 have H := H.pA hl2
 refine en Tryz.func32 fun a hf => ?_
 rw [spec_l2Good] at hF
 refine bx hf H fun b' a w hf H => ?_
 refine pz 1 hf fun a hf => ?_
 refine wl_end (then_n (sq (sq ?_)))
 obtain ⟨c3, hGc3, hF⟩ := bs_ hF
 have fh := hf.prune [1] rfl
 have Hm := H.lk 1 0 0 [0,1]
 refine midF 15 (.bool c3) fh Hm ?_ fun a w hf H => ?_
 ·refine reg (pz 1 hf fun a hf => ?_)
  refine lB 0 hf H TF.ls24 fun a hf => ?_
  refine pz 1 hf fun a hf => ?_
  obtain ⟨y, hy, hGc3⟩ := bs_ hGc3
  refine oc hf TF.cl65 (spec_l1In_ok (S := TT) mk_int mk_int mk_int hy) fun v w a hp hf => ?_
  obtain ⟨hb, hp⟩ := hp
  obtain rfl := VR_bool hp
  have H := H.keep hb
  refine pz 2 hf fun a hf => ?_
  refine iteB hGc3 (fun hc hGc3 => ?_) fun hc hGc3 => ?_
  ·have hf := hf.lit 10 rfl hc
   refine pz 5 hf fun a hf => ?_
   obtain rfl := oi hGc3
   have hf := hf.pn [15, 1]
   have H := H.lk 1 0 0 [0,1]
   exact wl_end ⟨hf, H⟩
  ·have hf := hf.lit 10 rfl hc
   refine pz 1 hf fun a hf => ?_
   refine wlg hf rfl rfl rfl (op_q hf (rq_loadB hf H TF.ls25 0 rfl rfl rfl) rfl (by decide) fun a hf => ?_)
   refine pz 3 hf fun a hf => ?_
   obtain rfl := oi hGc3
   have hf := hf.pn [15, 1]
   have H := H.lk 1 0 0 [0,1]
   exact wl_end ⟨hf, H⟩
 refine then_n (ib hF hf (fun hc2 hF => ?_) fun hc2 hF => ?_)
 ·refine sqz (pz 1 hf fun a hf => ?_)
  refine wl_end (then_n (wp_ret (then_r (?_))))
  obtain rfl := oi hF
  refine rT hf ?_
  exact ⟨_, rfl, H.bel, mk_bool⟩
 ·refine wp_skip (then_n (sq (sqz (pz 1 hf fun a hf => ?_))))
  refine wl_end (then_n ?_)
  obtain ⟨out', hB1, hF⟩ := bs_ hF
  have hf := hf.pn [1, 3]
  have H := H.lk 1 0 0 [0,1]
  refine loopC (fun (s : Int) (a : Act) (w : World) => match s with | i => Fr a 78 [(1, (.pointer (some ⟨b', 0, none⟩))), (3, (.int .i64 i))] ∧ Mem ⟨w0, []⟩ S [⟨b', 27, [(.slice A n'.Nodes.length c), (.slice A2 n'.Fibers.length c2)]⟩] [] [] [(false, MP.val [(.slice A2 n'.Fibers.length c2)] (n'.Fibers : List Fiber)), (false, MP.val [(.slice A n'.Nodes.length c)] (n'.Nodes : List ByteArray))] w) (fun k (s : Int) => spec_l2Good_L1 fu n' k s = some out') (fun s => out' = Out.next s) 0 fu hB1 ⟨hf, H⟩ (fun s h => by cases h) ?_ ?_
  ·rintro fk i a w hR1 hI
   replace hR1 : spec_l2Good_L1 fu n' (fk + 1) i = some out' := hR1
   rw [spec_l2Good_L1] at hR1
   obtain ⟨hf, H⟩ := hI
   refine sq (sqz (pz 2 hf fun a hf => ?_))
   refine lB 0 hf H TF.ls24 fun a hf => ?_
   refine pz 2 hf fun a hf => ?_
   refine wl_end (then_n (ib hR1 hf (fun hc3 hR1 => ?_) fun hc3 hR1 => ?_))
   ·refine wp_skip (then_n (sq (wp_block (sq ?_))))
    obtain ⟨c4, hGc4, hR1⟩ := bs_ hR1
    have fh2 := hf.prune [1, 3] rfl
    have Hm2 := H.lk 1 0 0 [0,1]
    refine midF 41 (.bool c4) fh2 Hm2 ?_ fun a w hf H => ?_
    ·refine dw [] 19 fun w hb => ?_
     have H := H.keep hb
     refine zp 0 hf trivial fun a hf => ?_
     refine strT (H.lk 1 0 0 []) (fun w H => trivial) fun hS => ?_
     refine zS 1 [] rfl rfl rfl rfl hf hS (fun w H => rq_loadB hf H TF.ls24 0 rfl rfl rfl) fun a hf => ?_
     refine zp 2 hf hS fun a hf => ?_
     obtain ⟨e, he, hGc4⟩ := bs_ hGc4
     obtain ⟨p, o, cs, hx, hr, H⟩ := pre_iaddr H Tryz.underlying24 TF.sz9 1 rfl he
     refine zP 3 rfl rfl rfl rfl hf hS (fun w => rq_iaddrE hf rfl rfl rfl hx w) fun a hf => ?_
     obtain rfl := hr
     refine strT (H.lk 1 0 0 [0]) (fun w H => H.lk 1 0 0 []) fun hS => ?_
     refine zS 4 [] rfl rfl rfl rfl hf hS (fun w H => rq_loadI hf H TF.ls9 0 0 rfl rfl rfl) fun a hf => ?_
     obtain ⟨y2, hy2, hGc4⟩ := bs_ hGc4
     refine nn 5 rfl (oC hf TF.cl66 (spec_l2Name_ok (S := TT) mk_str hy2) fun v2 w a hp2 hf => ?_)
     obtain ⟨hb2, hp2⟩ := hp2
     obtain rfl := VR_bool hp2
     have H := H.keep hb2
     have hS := H.lk 1 0 0 [0]
     refine aS hS ?_
     refine zp 6 hf hS fun a hf => ?_
     refine zp 7 hf hS fun a hf => ?_
     refine iteB hGc4 (fun hc4 hGc4 => ?_) fun hc4 hGc4 => ?_
     ·have hf := hf.lit 30 rfl hc4
      refine zU 8 hf hS fun a hf => ?_
      refine zU 9 hf hS fun a hf => ?_
      refine zU 10 hf hS fun a hf => ?_
      refine zU 11 hf hS fun a hf => ?_
      refine zU 12 hf hS fun a hf => ?_
      refine zU 13 hf hS fun a hf => ?_
      refine zU 14 hf hS fun a hf => ?_
      refine zU 15 hf hS fun a hf => ?_
      refine zU 16 hf hS fun a hf => ?_
      refine zU 17 hf hS fun a hf => ?_
      refine zp 18 hf hS fun a hf => ?_
      refine dk ?_
      obtain rfl := oi hGc4
      have hf := hf.pn [41, 1, 3]
      have H := H.lk 1 0 0 [1,2]
      exact ⟨hf, H⟩
     ·have hf := hf.lit 30 rfl hc4
      refine zg 8 hf hS fun a hf => ?_
      refine tSg 9 [] rfl rfl rfl rfl rfl rfl hf (by kernel_rfl) (by kernel_rfl) hS (fun w H => rq_loadB hf H TF.ls24 0 rfl rfl rfl) fun a hf => ?_
      refine zg 10 hf hS fun a hf => ?_
      refine tSg 11 [] rfl rfl rfl rfl rfl rfl hf (by kernel_rfl) (by kernel_rfl) hS (fun w H => rq_loadB hf H TF.ls24 0 rfl rfl rfl) fun a hf => ?_
      refine zg 12 hf hS fun a hf => ?_
      obtain ⟨e2, he2, hGc4⟩ := bs_ hGc4
      obtain ⟨p2, o2, cs2, hx2, hr2, H⟩ := pre_iaddr H Tryz.underlying24 TF.sz9 2 rfl he2
      refine tPg 13 rfl rfl rfl rfl rfl rfl hf (by kernel_rfl) (fun _ => hS) (fun w => rq_iaddrE hf rfl rfl rfl hx2 w) fun a hf => ?_
      obtain rfl := hr2
      refine strT (H.lk 1 0 0 [0,1]) (fun w H => H.lk 1 0 0 [1]) fun hS => ?_
      refine tSg 14 [] rfl rfl rfl rfl rfl rfl hf (by kernel_rfl) (by kernel_rfl) hS (fun w H => rq_loadI hf H TF.ls9 0 0 rfl rfl rfl) fun a hf => ?_
      refine zg 16 hf hS fun a hf => ?_
      obtain ⟨y3, hy3, hGc4⟩ := bs_ hGc4
      refine n1g 15 (by kernel_rfl) rfl rfl rfl rfl hf (oC hf TF.cl67 (spec_l2Find_ok (S := TT) (mk_list (H.rt 3 rfl)) mk_str hy3) fun v3 w a hp3 hf => ?_)
      obtain ⟨hb3, hp3⟩ := hp3
      obtain rfl := VR_int hp3
      have H := H.keep hb3
      have hS := H.lk 1 0 0 [0,1]
      refine aS hS ?_
      refine zg 17 hf hS fun a hf => ?_
      refine zp 18 hf hS fun a hf => ?_
      refine dk ?_
      obtain rfl := oi hGc4
      have hf := hf.pn [41, 1, 3]
      have H := H.lk 1 0 0 [2,3]
      exact ⟨hf, H⟩
    refine then_n (ib hR1 hf (fun hc5 hR1 => ?_) fun hc5 hR1 => ?_)
    ·refine sqz (pz 1 hf fun a hf => ?_)
     refine wl_end (then_n (wp_ret (blk_r (then_r (then_r (blk_r (then_r (then_r (?_)))))))))
     obtain rfl := oi hR1
     replace hF := on_ret hF
     obtain rfl := oi hF
     refine rT hf ?_
     exact ⟨_, rfl, H.bel, mk_bool⟩
    ·refine wp_skip (blk_n (then_n (reg (pz 3 hf fun a hf => ?_))))
     refine wl_end ?_
     have hf := hf.pn [1, 3]
     have H := H.lk 1 0 0 [0,1]
     exact then_n ⟨w64 (i + 1), hR1, hf, H⟩
   ·refine wp_exit (then_x (then_x (blk_e (?_))))
    have hf := hf.pn [1, 3]
    have H := H.lk 1 0 0 [0,1]
    exact ⟨i, (Option.some.inj hR1).symm, hf, H⟩
  rintro a w ⟨i2, rfl, hf, H⟩
  replace hF := on_next hF
  refine then_n (sq (sqz (pz 1 hf fun a hf => ?_)))
  refine wl_end (then_n ?_)
  obtain ⟨out2, hB1, hF⟩ := bs_ hF
  have hf := hf.pn [1, 4]
  have H := H.lk 1 0 0 [0,1]
  refine loopC (fun (s : Int) (a : Act) (w : World) => match s with | i3 => Fr a 78 [(1, (.pointer (some ⟨b', 0, none⟩))), (4, (.int .i64 i3))] ∧ Mem ⟨w0, []⟩ S [⟨b', 27, [(.slice A n'.Nodes.length c), (.slice A2 n'.Fibers.length c2)]⟩] [] [] [(false, MP.val [(.slice A2 n'.Fibers.length c2)] (n'.Fibers : List Fiber)), (false, MP.val [(.slice A n'.Nodes.length c)] (n'.Nodes : List ByteArray))] w) (fun k (s : Int) => spec_l2Good_L2 fu n' k s = some out2) (fun s => out2 = Out.next s) 0 fu hB1 ⟨hf, H⟩ (fun s h => by cases h) ?_ ?_
  ·rintro fk i3 a w hR1 hI
   replace hR1 : spec_l2Good_L2 fu n' (fk + 1) i3 = some out2 := hR1
   rw [spec_l2Good_L2] at hR1
   obtain ⟨hf, H⟩ := hI
   refine sq (sqz (pz 2 hf fun a hf => ?_))
   refine lB 0 hf H TF.ls25 fun a hf => ?_
   refine pz 2 hf fun a hf => ?_
   refine wl_end (then_n (ib hR1 hf (fun hc6 hR1 => ?_) fun hc6 hR1 => ?_))
   ·refine wp_skip (then_n (sq (wp_block (sq ?_))))
    obtain ⟨c5, hGc5, hR1⟩ := bs_ hR1
    have fh3 := hf.prune [1, 4] rfl
    have Hm3 := H.lk 1 0 0 [0,1]
    refine midF 77 (.bool c5) fh3 Hm3 ?_ fun a w hf H => ?_
    ·refine dw [] 29 fun w hb => ?_
     have H := H.keep hb
     refine zp 0 hf trivial fun a hf => ?_
     refine strT (H.lk 1 0 0 []) (fun w H => trivial) fun hS => ?_
     refine zS 1 [] rfl rfl rfl rfl hf hS (fun w H => rq_loadB hf H TF.ls25 0 rfl rfl rfl) fun a hf => ?_
     refine zp 2 hf hS fun a hf => ?_
     obtain ⟨e3, he3, hGc5⟩ := bs_ hGc5
     obtain ⟨p3, o3, cs3, hx3, hr3, H⟩ := pre_iaddr H Tryz.underlying25 TF.sz63 0 rfl he3
     refine zP 3 rfl rfl rfl rfl hf hS (fun w => rq_iaddrE hf rfl rfl rfl hx3 w) fun a hf => ?_
     obtain rfl := Fiber_cells hr3
     refine strT (H.lk 1 0 0 [0]) (fun w H => H.lk 1 0 0 []) fun hS => ?_
     refine zS 4 [] rfl rfl rfl rfl hf hS (fun w H => rq_loadIN hf H TF.la63 0 0 rfl rfl rfl rfl) fun a hf => ?_
     refine zp 5 hf hS fun a hf => ?_
     refine zS 6 [] rfl rfl rfl rfl hf hS (fun w H => rq_loadB hf H TF.ls24 0 rfl rfl rfl) fun a hf => ?_
     refine zp 7 hf hS fun a hf => ?_
     obtain ⟨y4, hy4, hGc5⟩ := bs_ hGc5
     refine nn 8 rfl (oC hf TF.cl68 (spec_l2Fiber_ok (S := TT) Fiber_mkv mk_int hy4) fun v4 w a hp4 hf => ?_)
     obtain ⟨hb4, hp4⟩ := hp4
     obtain rfl := VR_bool hp4
     have H := H.keep hb4
     have hS := H.lk 1 0 0 [0]
     refine aS hS ?_
     refine zp 9 hf hS fun a hf => ?_
     refine zp 10 hf hS fun a hf => ?_
     refine iteB hGc5 (fun hc7 hGc5 => ?_) fun hc7 hGc5 => ?_
     ·have hf := hf.lit 59 rfl hc7
      refine zU 11 hf hS fun a hf => ?_
      refine zU 12 hf hS fun a hf => ?_
      refine zU 13 hf hS fun a hf => ?_
      refine zV 14 hf hS fun a hf => ?_
      refine zV 15 hf hS fun a hf => ?_
      refine zV 16 hf hS fun a hf => ?_
      refine zV 17 hf hS fun a hf => ?_
      refine zV 18 hf hS fun a hf => ?_
      refine zV 19 hf hS fun a hf => ?_
      refine zV 20 hf hS fun a hf => ?_
      refine zV 21 hf hS fun a hf => ?_
      refine zV 22 hf hS fun a hf => ?_
      refine zV 23 hf hS fun a hf => ?_
      refine zV 24 hf hS fun a hf => ?_
      refine zV 25 hf hS fun a hf => ?_
      refine zV 26 hf hS fun a hf => ?_
      refine zU 27 hf hS fun a hf => ?_
      refine zp 28 hf hS fun a hf => ?_
      refine dk ?_
      obtain rfl := oi hGc5
      have hf := hf.pn [77, 1, 4]
      have H := H.lk 1 0 0 [1,2]
      exact ⟨hf, H⟩
     ·have hf := hf.lit 59 rfl hc7
      refine zg 11 hf hS fun a hf => ?_
      refine zg 12 hf hS fun a hf => ?_
      refine zg 13 hf hS fun a hf => ?_
      refine iteB hGc5 (fun hc8 hGc5 => ?_) fun hc8 hGc5 => ?_
      ·have hf := hf.lit 62 rfl hc8
       refine zg 14 hf hS fun a hf => ?_
       refine tSg 15 [] rfl rfl rfl rfl rfl rfl hf (by kernel_rfl) (by kernel_rfl) hS (fun w H => rq_loadB hf H TF.ls25 0 rfl rfl rfl) fun a hf => ?_
       refine zg 16 hf hS fun a hf => ?_
       refine zg 17 hf hS fun a hf => ?_
       obtain ⟨e4, he4, hGc5⟩ := bs_ hGc5
       obtain ⟨p4, o4, cs4, hx4, hr4, H⟩ := pre_iaddr H Tryz.underlying25 TF.sz63 1 rfl he4
       refine tPg 18 rfl rfl rfl rfl rfl rfl hf (by kernel_rfl) (fun _ => hS) (fun w => rq_iaddrE hf rfl rfl rfl hx4 w) fun a hf => ?_
       obtain rfl := Fiber_cells hr4
       refine strT (H.lk 1 0 0 [0,1]) (fun w H => H.lk 1 0 0 [1]) fun hS => ?_
       refine tSg 19 [] rfl rfl rfl rfl rfl rfl hf (by kernel_rfl) (by kernel_rfl) hS (fun w H => rq_loadIN hf H TF.la63 0 0 rfl rfl rfl rfl) fun a hf => ?_
       refine zg 20 hf hS fun a hf => ?_
       refine tSg 21 [] rfl rfl rfl rfl rfl rfl hf (by kernel_rfl) (by kernel_rfl) hS (fun w H => rq_loadB hf H TF.ls25 0 rfl rfl rfl) fun a hf => ?_
       refine zg 22 hf hS fun a hf => ?_
       obtain ⟨e5, he5, hGc5⟩ := bs_ hGc5
       obtain ⟨p5, o5, cs5, hx5, hr5, H⟩ := pre_iaddr H Tryz.underlying25 TF.sz63 2 rfl he5
       refine tPg 23 rfl rfl rfl rfl rfl rfl hf (by kernel_rfl) (fun _ => hS) (fun w => rq_iaddrE hf rfl rfl rfl hx5 w) fun a hf => ?_
       obtain rfl := Fiber_cells hr5
       refine strT (H.lm 1 0 0 3 7) (fun w H => H.lk 1 0 0 [1,2]) fun hS => ?_
       refine tSg 24 [] rfl rfl rfl rfl rfl rfl hf (by kernel_rfl) (by kernel_rfl) hS (fun w H => rq_loadIN hf H TF.la63 0 0 rfl rfl rfl rfl) fun a hf => ?_
       obtain ⟨y5, hy5, hGc5⟩ := bs_ hGc5
       refine n1g 25 (by kernel_rfl) rfl rfl rfl rfl hf (oC hf TF.cl69 (spec_l2Before_ok (S := TT) Fiber_mkv Fiber_mkv hy5) fun v5 w a hp5 hf => ?_)
       obtain ⟨hb5, hp5⟩ := hp5
       obtain rfl := VR_int hp5
       have H := H.keep hb5
       have hS := H.lm 1 0 0 3 7
       refine aS hS ?_
       refine zg 26 hf hS fun a hf => ?_
       refine zg 27 hf hS fun a hf => ?_
       refine zp 28 hf hS fun a hf => ?_
       refine dk ?_
       obtain rfl := oi hGc5
       have hf := hf.pn [77, 1, 4]
       have H := H.lk 1 0 0 [3,4]
       exact ⟨hf, H⟩
      ·have hf := hf.lit 62 rfl hc8
       refine zU 14 hf hS fun a hf => ?_
       refine zU 15 hf hS fun a hf => ?_
       refine zU 16 hf hS fun a hf => ?_
       refine zU 17 hf hS fun a hf => ?_
       refine zU 18 hf hS fun a hf => ?_
       refine zU 19 hf hS fun a hf => ?_
       refine zU 20 hf hS fun a hf => ?_
       refine zU 21 hf hS fun a hf => ?_
       refine zU 22 hf hS fun a hf => ?_
       refine zU 23 hf hS fun a hf => ?_
       refine zU 24 hf hS fun a hf => ?_
       refine zU 25 hf hS fun a hf => ?_
       refine zU 26 hf hS fun a hf => ?_
       refine zg 27 hf hS fun a hf => ?_
       refine zp 28 hf hS fun a hf => ?_
       refine dk ?_
       obtain rfl := oi hGc5
       have hf := hf.pn [77, 1, 4]
       have H := H.lk 1 0 0 [1,2]
       exact ⟨hf, H⟩
    refine then_n (ib hR1 hf (fun hc9 hR1 => ?_) fun hc9 hR1 => ?_)
    ·refine sqz (pz 1 hf fun a hf => ?_)
     refine wl_end (then_n (wp_ret (blk_r (then_r (then_r (blk_r (then_r (then_r (?_)))))))))
     obtain rfl := oi hR1
     replace hF := on_ret hF
     obtain rfl := oi hF
     refine rT hf ?_
     exact ⟨_, rfl, H.bel, mk_bool⟩
    ·refine wp_skip (blk_n (then_n (reg (pz 3 hf fun a hf => ?_))))
     refine wl_end ?_
     have hf := hf.pn [1, 4]
     have H := H.lk 1 0 0 [0,1]
     exact then_n ⟨w64 (i3 + 1), hR1, hf, H⟩
   ·refine wp_exit (then_x (then_x (blk_e (?_))))
    have hf := hf.pn [1, 4]
    have H := H.lk 1 0 0 [0,1]
    exact ⟨i3, (Option.some.inj hR1).symm, hf, H⟩
  rintro a w ⟨i4, rfl, hf, H⟩
  replace hF := on_next hF
  refine then_n (sqz (pz 1 hf fun a hf => ?_))
  refine wer ?_
  obtain rfl := oi hF
  refine rT hf ?_
  exact ⟨_, rfl, H.bel, mk_bool⟩
theorem spec_IsValidNetwork_ok {S : Nat → Prop} {v0_ : Value} {n' : Network} {r : Bool} (h0 : VR w0 S v0_ n') (hF : spec_IsValidNetwork fu n' = some r) :
    Calls Tryz.prog 8 [v0_].toArray w0 fun e w' => ∃ v, e = .returned v ∧ (Below w0.heap.size w0 w' ∧ VR w' (St ⟨w0, []⟩ S [] [] [] true) v r) := by
 obtain ⟨A, c, A2, c2, rfl, hl, hl2⟩ := Network_open h0
 have H := Mem.start ⟨w0, []⟩ S
 have H := H.pA hl
 have H := H.pA hl2
 refine en Tryz.func8 fun a hf => ?_
 rw [spec_IsValidNetwork] at hF
 refine bx hf H fun b' a w hf H => ?_
 refine pz 1 hf fun a hf => ?_
 refine wr (lN 0 hf H TF.la27 fun a hf => ?_)
 obtain ⟨y, hy, hF⟩ := bs_ hF
 refine oc hf TF.cl32 (spec_l2Good_ok (S := TT) (Network_mkv (x := n') (H.rt 1 rfl) (H.rt 0 rfl)) hy) fun v w a hp hf => ?_
 obtain ⟨hb, hp⟩ := hp
 obtain rfl := VR_bool hp
 have H := H.keep hb
 refine pz 1 hf fun a hf => ?_
 refine wer ?_
 obtain rfl := oi hF
 refine rT hf ?_
 exact ⟨_, rfl, H.bel, mk_bool⟩
theorem laws_vNetworks_ok {S : Nat → Prop} {v0_ : Value} {v1_ : Value} {a' : Network} {b' : Network} {r : Bool} (h0 : VR w0 S v0_ a') (h1 : VR w0 S v1_ b') (hF : laws_vNetworks fu a' b' = some r) :
    Calls Tryz.prog 9 [v0_, v1_].toArray w0 fun e w' => ∃ v, e = .returned v ∧ (Below w0.heap.size w0 w' ∧ VR w' (St ⟨w0, []⟩ S [] [] [] true) v r) := by
 obtain ⟨A, c, A2, c2, rfl, hl, hl2⟩ := Network_open h0
 obtain ⟨A3, c3, A4, c4, rfl, hl3, hl4⟩ := Network_open h1
 have H := Mem.start ⟨w0, []⟩ S
 have H := H.pA hl
 have H := H.pA hl2
 have H := H.pA hl3
 have H := H.pA hl4
 refine en Tryz.func9 fun a hf => ?_
 rw [laws_vNetworks] at hF
 refine bx hf H fun b2 a w hf H => ?_
 refine wl0 rfl (op_box hf H rfl rfl (by decide) fun b3 a w hf H => ?_)
 refine pz 1 hf fun a hf => ?_
 refine wl_end (then_n (sq (sq ?_)))
 obtain ⟨c5, hGc5, hF⟩ := bs_ hF
 have fh := hf.prune [2, 3] rfl
 have Hm := H.lm 3 0 0 4 15
 refine midF 22 (.bool c5) fh Hm ?_ fun a w hf H => ?_
 ·refine reg (pz 1 hf fun a hf => ?_)
  refine lB 1 hf H TF.ls24 fun a hf => ?_
  refine pz 2 hf fun a hf => ?_
  refine lB 0 hf H TF.ls24 fun a hf => ?_
  refine pz 3 hf fun a hf => ?_
  refine iteB hGc5 (fun hc hGc5 => ?_) fun hc hGc5 => ?_
  ·have hf := hf.lit 14 rfl hc
   refine pz 8 hf fun a hf => ?_
   obtain rfl := oi hGc5
   have hf := hf.pn [22, 2, 3]
   have H := H.lm 3 0 0 4 15
   exact wl_end ⟨hf, H⟩
  ·have hf := hf.lit 14 rfl hc
   refine pz 1 hf fun a hf => ?_
   refine wlg hf rfl rfl rfl (op_q hf (rq_loadB hf H TF.ls25 1 rfl rfl rfl) rfl (by decide) fun a hf => ?_)
   refine pz 2 hf fun a hf => ?_
   refine wlg hf rfl rfl rfl (op_q hf (rq_loadB hf H TF.ls25 0 rfl rfl rfl) rfl (by decide) fun a hf => ?_)
   refine pz 3 hf fun a hf => ?_
   obtain rfl := oi hGc5
   have hf := hf.pn [22, 2, 3]
   have H := H.lm 3 0 0 4 15
   exact wl_end ⟨hf, H⟩
 refine then_n (ib hF hf (fun hc2 hF => ?_) fun hc2 hF => ?_)
 ·refine sqz (pz 1 hf fun a hf => ?_)
  refine wl_end (then_n (wp_ret (then_r (?_))))
  obtain rfl := oi hF
  refine rT hf ?_
  exact ⟨_, rfl, H.bel, mk_bool⟩
 ·refine wp_skip (then_n (sq (sqz (pz 1 hf fun a hf => ?_))))
  refine wl_end (then_n ?_)
  obtain ⟨out', hB1, hF⟩ := bs_ hF
  have hf := hf.pn [2, 3, 5]
  have H := H.lm 3 0 0 4 15
  refine loopC (fun (s : Int) (a : Act) (w : World) => match s with | i => Fr a 59 [(2, (.pointer (some ⟨b2, 0, none⟩))), (3, (.pointer (some ⟨b3, 0, none⟩))), (5, (.int .i64 i))] ∧ Mem ⟨w0, []⟩ S [⟨b3, 27, [(.slice A3 b'.Nodes.length c3), (.slice A4 b'.Fibers.length c4)]⟩, ⟨b2, 27, [(.slice A a'.Nodes.length c), (.slice A2 a'.Fibers.length c2)]⟩] [] [] [(false, MP.val [(.slice A4 b'.Fibers.length c4)] (b'.Fibers : List Fiber)), (false, MP.val [(.slice A3 b'.Nodes.length c3)] (b'.Nodes : List ByteArray)), (false, MP.val [(.slice A2 a'.Fibers.length c2)] (a'.Fibers : List Fiber)), (false, MP.val [(.slice A a'.Nodes.length c)] (a'.Nodes : List ByteArray))] w) (fun k (s : Int) => laws_vNetworks_L1 fu a' b' k s = some out') (fun s => out' = Out.next s) 0 fu hB1 ⟨hf, H⟩ (fun s h => by cases h) ?_ ?_
  ·rintro fk i a w hR1 hI
   replace hR1 : laws_vNetworks_L1 fu a' b' (fk + 1) i = some out' := hR1
   rw [laws_vNetworks_L1] at hR1
   obtain ⟨hf, H⟩ := hI
   refine sq (sqz (pz 2 hf fun a hf => ?_))
   refine lB 1 hf H TF.ls24 fun a hf => ?_
   refine pz 2 hf fun a hf => ?_
   refine wl_end (then_n (ib hR1 hf (fun hc3 hR1 => ?_) fun hc3 hR1 => ?_))
   ·refine wp_skip (then_n (sq (wp_block (sq (dw [] 11 fun w hb => ?_)))))
    have H := H.keep hb
    refine zp 0 hf trivial fun a hf => ?_
    refine strT (H.lk 2 0 0 []) (fun w H => trivial) fun hS => ?_
    refine zS 1 [] rfl rfl rfl rfl hf hS (fun w H => rq_loadB hf H TF.ls24 0 rfl rfl rfl) fun a hf => ?_
    refine zp 2 hf hS fun a hf => ?_
    obtain ⟨e, he, hR1⟩ := bs_ hR1
    obtain ⟨p, o, cs, hx, hr, H⟩ := pre_iaddr H Tryz.underlying24 TF.sz9 3 rfl he
    refine zP 3 rfl rfl rfl rfl hf hS (fun w => rq_iaddrE hf rfl rfl rfl hx w) fun a hf => ?_
    obtain rfl := hr
    refine strT (H.lk 2 0 0 [0]) (fun w H => H.lk 1 0 0 []) fun hS => ?_
    refine zS 4 [] rfl rfl rfl rfl hf hS (fun w H => rq_loadI hf H TF.ls9 0 0 rfl rfl rfl) fun a hf => ?_
    refine zp 5 hf hS fun a hf => ?_
    refine strT (H.lk 3 0 0 [0]) (fun w H => H.lk 2 0 0 [0]) fun hS => ?_
    refine zS 6 [] rfl rfl rfl rfl hf hS (fun w H => rq_loadB hf H TF.ls24 0 rfl rfl rfl) fun a hf => ?_
    refine zp 7 hf hS fun a hf => ?_
    obtain ⟨e2, he2, hR1⟩ := bs_ hR1
    obtain ⟨p2, o2, cs2, hx2, hr2, H⟩ := pre_iaddr H Tryz.underlying24 TF.sz9 2 rfl he2
    refine zP 8 rfl rfl rfl rfl hf hS (fun w => rq_iaddrE hf rfl rfl rfl hx2 w) fun a hf => ?_
    obtain rfl := hr2
    refine strT (H.lk 3 0 0 [0,1]) (fun w H => H.lk 3 0 0 [1]) fun hS => ?_
    refine zS 9 [] rfl rfl rfl rfl hf hS (fun w H => rq_loadI hf H TF.ls9 0 0 rfl rfl rfl) fun a hf => ?_
    refine zp 10 hf hS fun a hf => ?_
    refine dk ?_
    have hf := hf.pn [2, 3, 5, 40]
    refine then_n (ib hR1 hf (fun hc4 hR1 => ?_) fun hc4 hR1 => ?_)
    ·refine sqz (pz 1 hf fun a hf => ?_)
     refine wl_end (then_n (wp_ret (blk_r (then_r (then_r (blk_r (then_r (then_r (?_)))))))))
     obtain rfl := oi hR1
     replace hF := on_ret hF
     obtain rfl := oi hF
     refine rT hf ?_
     exact ⟨_, rfl, H.bel, mk_bool⟩
    ·refine wp_skip (blk_n (then_n (reg (pz 3 hf fun a hf => ?_))))
     refine wl_end ?_
     have hf := hf.pn [2, 3, 5]
     have H := H.lm 3 0 0 6 60
     exact then_n ⟨w64 (i + 1), hR1, hf, H⟩
   ·refine wp_exit (then_x (then_x (blk_e (?_))))
    have hf := hf.pn [2, 3, 5]
    have H := H.lm 3 0 0 4 15
    exact ⟨i, (Option.some.inj hR1).symm, hf, H⟩
  rintro a w ⟨i2, rfl, hf, H⟩
  replace hF := on_next hF
  refine then_n (sq (sqz (pz 1 hf fun a hf => ?_)))
  refine wl_end (then_n ?_)
  obtain ⟨out2, hB1, hF⟩ := bs_ hF
  have hf := hf.pn [2, 3, 6]
  have H := H.lm 3 0 0 4 15
  refine loopC (fun (s : Int) (a : Act) (w : World) => match s with | i3 => Fr a 59 [(2, (.pointer (some ⟨b2, 0, none⟩))), (3, (.pointer (some ⟨b3, 0, none⟩))), (6, (.int .i64 i3))] ∧ Mem ⟨w0, []⟩ S [⟨b3, 27, [(.slice A3 b'.Nodes.length c3), (.slice A4 b'.Fibers.length c4)]⟩, ⟨b2, 27, [(.slice A a'.Nodes.length c), (.slice A2 a'.Fibers.length c2)]⟩] [] [] [(false, MP.val [(.slice A4 b'.Fibers.length c4)] (b'.Fibers : List Fiber)), (false, MP.val [(.slice A3 b'.Nodes.length c3)] (b'.Nodes : List ByteArray)), (false, MP.val [(.slice A2 a'.Fibers.length c2)] (a'.Fibers : List Fiber)), (false, MP.val [(.slice A a'.Nodes.length c)] (a'.Nodes : List ByteArray))] w) (fun k (s : Int) => laws_vNetworks_L2 fu a' b' k s = some out2) (fun s => out2 = Out.next s) 0 fu hB1 ⟨hf, H⟩ (fun s h => by cases h) ?_ ?_
  ·rintro fk i3 a w hR1 hI
   replace hR1 : laws_vNetworks_L2 fu a' b' (fk + 1) i3 = some out2 := hR1
   rw [laws_vNetworks_L2] at hR1
   obtain ⟨hf, H⟩ := hI
   refine sq (sqz (pz 2 hf fun a hf => ?_))
   refine lB 1 hf H TF.ls25 fun a hf => ?_
   refine pz 2 hf fun a hf => ?_
   refine wl_end (then_n (ib hR1 hf (fun hc5 hR1 => ?_) fun hc5 hR1 => ?_))
   ·refine wp_skip (then_n (sq (wp_block (sq (dw [] 11 fun w hb => ?_)))))
    have H := H.keep hb
    refine zp 0 hf trivial fun a hf => ?_
    refine strT (H.lk 2 0 0 []) (fun w H => trivial) fun hS => ?_
    refine zS 1 [] rfl rfl rfl rfl hf hS (fun w H => rq_loadB hf H TF.ls25 0 rfl rfl rfl) fun a hf => ?_
    refine zp 2 hf hS fun a hf => ?_
    obtain ⟨e3, he3, hR1⟩ := bs_ hR1
    obtain ⟨p3, o3, cs3, hx3, hr3, H⟩ := pre_iaddr H Tryz.underlying25 TF.sz63 2 rfl he3
    refine zP 3 rfl rfl rfl rfl hf hS (fun w => rq_iaddrE hf rfl rfl rfl hx3 w) fun a hf => ?_
    obtain rfl := Fiber_cells hr3
    refine strT (H.lk 2 0 0 [0]) (fun w H => H.lk 1 0 0 []) fun hS => ?_
    refine zS 4 [] rfl rfl rfl rfl hf hS (fun w H => rq_loadIN hf H TF.la63 0 0 rfl rfl rfl rfl) fun a hf => ?_
    refine zp 5 hf hS fun a hf => ?_
    refine strT (H.lk 3 0 0 [0]) (fun w H => H.lk 2 0 0 [0]) fun hS => ?_
    refine zS 6 [] rfl rfl rfl rfl hf hS (fun w H => rq_loadB hf H TF.ls25 0 rfl rfl rfl) fun a hf => ?_
    refine zp 7 hf hS fun a hf => ?_
    obtain ⟨e4, he4, hR1⟩ := bs_ hR1
    obtain ⟨p4, o4, cs4, hx4, hr4, H⟩ := pre_iaddr H Tryz.underlying25 TF.sz63 1 rfl he4
    refine zP 8 rfl rfl rfl rfl hf hS (fun w => rq_iaddrE hf rfl rfl rfl hx4 w) fun a hf => ?_
    obtain rfl := Fiber_cells hr4
    refine strT (H.lk 3 0 0 [0,1]) (fun w H => H.lk 3 0 0 [1]) fun hS => ?_
    refine zS 9 [] rfl rfl rfl rfl hf hS (fun w H => rq_loadIN hf H TF.la63 0 0 rfl rfl rfl rfl) fun a hf => ?_
    refine zP 10 rfl rfl rfl rfl hf hS (fun w => rq_neT hf TF.qeqt63 ([e3.A, e3.B, e3.Length, e3.Risk] : List Int) ([e4.A, e4.B, e4.Length, e4.Risk] : List Int) rfl rfl rfl rfl rfl rfl) fun a hf => ?_
    refine dk ?_
    have hf := hf.pn [2, 3, 6, 58]
    refine then_n (ib hR1 hf (fun hc6 hR1 => ?_) fun hc6 hR1 => ?_)
    ·refine sqz (pz 1 hf fun a hf => ?_)
     refine wl_end (then_n (wp_ret (blk_r (then_r (then_r (blk_r (then_r (then_r (?_)))))))))
     obtain rfl := oi hR1
     replace hF := on_ret hF
     obtain rfl := oi hF
     refine rT hf ?_
     exact ⟨_, rfl, H.bel, mk_bool⟩
    ·refine wp_skip (blk_n (then_n (reg (pz 3 hf fun a hf => ?_))))
     refine wl_end ?_
     have hf := hf.pn [2, 3, 6]
     have H := H.lm 3 0 0 6 60
     exact then_n ⟨w64 (i3 + 1), hR1, hf, H⟩
   ·refine wp_exit (then_x (then_x (blk_e (?_))))
    have hf := hf.pn [2, 3, 6]
    have H := H.lm 3 0 0 4 15
    exact ⟨i3, (Option.some.inj hR1).symm, hf, H⟩
  rintro a w ⟨i4, rfl, hf, H⟩
  replace hF := on_next hF
  refine then_n (sqz (pz 1 hf fun a hf => ?_))
  refine wer ?_
  obtain rfl := oi hF
  refine rT hf ?_
  exact ⟨_, rfl, H.bel, mk_bool⟩
theorem impl_otherEnd_ok {S : Nat → Prop} {v0_ : Value} {v1_ : Value} {f : Fiber} {node : Int} {r : Int} (h0 : VR w0 S v0_ f) (h1 : VR w0 S v1_ node) (hF : impl_otherEnd fu f node = some r) :
    Calls Tryz.prog 107 [v0_, v1_].toArray w0 fun e w' => ∃ v, e = .returned v ∧ (Below w0.heap.size w0 w' ∧ VR w' (St ⟨w0, []⟩ S [] [] [] true) v r) := by
 obtain rfl := Fiber_open h0
 obtain rfl := VR_int h1
 have H := Mem.start ⟨w0, []⟩ S
 refine en Tryz.func107 fun a hf => ?_
 rw [impl_otherEnd] at hF
 refine bx hf H fun b' a w hf H => ?_
 refine pz 1 hf fun a hf => ?_
 refine we (sqz (pz 1 hf fun a hf => ?_))
 refine wl_end (then_n (wp_block (sqz (pz 1 hf fun a hf => ?_))))
 refine lB 0 hf H TF.ls3 fun a hf => ?_
 refine pz 2 hf fun a hf => ?_
 refine wl_end (then_n (ib hF hf (fun hc hF => ?_) fun hc hF => ?_))
 ·refine sqz (pz 1 hf fun a hf => ?_)
  refine lB 0 hf H TF.ls3 fun a hf => ?_
  refine pz 1 hf fun a hf => ?_
  refine wl_end (then_n (wp_ret (blk_r (then_r (?_)))))
  obtain rfl := oi hF
  refine rT hf ?_
  exact ⟨_, rfl, H.bel, mk_int⟩
 ·refine sqz (pz 1 hf fun a hf => ?_)
  refine lB 0 hf H TF.ls3 fun a hf => ?_
  refine pz 2 hf fun a hf => ?_
  refine wl_end (then_n (ib hF hf (fun hc2 hF => ?_) fun hc2 hF => ?_))
  ·refine sqz (pz 1 hf fun a hf => ?_)
   refine lB 0 hf H TF.ls3 fun a hf => ?_
   refine pz 1 hf fun a hf => ?_
   have hf := hf.pn [4]
   refine wl_end (then_n (wp_ret (blk_r (then_r (?_)))))
   obtain rfl := oi hF
   refine rT hf ?_
   exact ⟨_, rfl, H.bel, mk_int⟩
  ·refine wp_skip (blk_n (then_n (sqz (pz 1 hf fun a hf => ?_))))
   refine wer ?_
   obtain rfl := oi hF
   refine rT hf ?_
   exact ⟨_, rfl, H.bel, mk_int⟩
theorem slices_Index_int_int_ok {S : Nat → Prop} {v0_ : Value} {v1_ : Value} {s' : List Int} {v : Int} {r : Int} (h0 : VR w0 S v0_ s') (h1 : VR w0 S v1_ v) (hF : slices_Index_int_int fu s' v = some r) :
    Calls Tryz.prog 139 [v0_, v1_].toArray w0 fun e w' => ∃ v, e = .returned v ∧ (Below w0.heap.size w0 w' ∧ VR w' (St ⟨w0, []⟩ S [] [] [] true) v r) := by
 obtain ⟨A, c, rfl, hl⟩ := VR_list h0
 obtain rfl := VR_int h1
 have H := Mem.start ⟨w0, []⟩ S
 have H := H.pA hl
 refine en Tryz.func139 fun a hf => ?_
 rw [slices_Index_int_int] at hF
 refine sqz (pz 1 hf fun a hf => ?_)
 refine we (sqz (pz 3 hf fun a hf => ?_))
 refine wl_end (then_n ?_)
 obtain ⟨out', hB1, hF⟩ := bs_ hF
 have hf := hf.pn [0, 1, 7, 8]
 have H := H.lk 0 0 0 [0]
 refine loopC (fun (s : Int) (a : Act) (w : World) => match s with | i => Fr a 19 [(0, (.slice A s'.length c)), (1, (.int .i64 v)), (7, (.int .i64 (s'.length : Int))), (8, (.int .i64 i))] ∧ Mem ⟨w0, []⟩ S [] [] [] [(false, MP.val [(.slice A s'.length c)] (s' : List Int))] w) (fun k (s : Int) => slices_Index_int_int_L1 fu s' v k s = some out') (fun s => out' = Out.next s) 0 fu hB1 ⟨hf, H⟩ (fun s h => by cases h) ?_ ?_
 ·rintro fk i a w hR1 hI
  replace hR1 : slices_Index_int_int_L1 fu s' v (fk + 1) i = some out' := hR1
  rw [slices_Index_int_int_L1] at hR1
  obtain ⟨hf, H⟩ := hI
  refine sqz (pz 1 hf fun a hf => ?_)
  refine wl_end (then_n (sq (ib hR1 hf (fun hc hR1 => ?_) fun hc hR1 => ?_)))
  ·refine ws (pz 2 hf fun a hf => ?_)
   refine wr (pz 3 hf fun a hf => ?_)
   obtain ⟨e, he, hR1⟩ := bs_ hR1
   refine wl0 rfl (op_iaddr hf H Tryz.underlying28 TF.sz3 0 rfl rfl rfl he (by decide) fun p o cs a hf hr H => ?_)
   obtain rfl := hr
   refine oq hf (rq_loadI hf H TF.ls3 0 0 rfl rfl rfl) fun a hf => ?_
   refine pz 1 hf fun a hf => ?_
   refine wl_end (then_n (ib hR1 hf (fun hc2 hR1 => ?_) fun hc2 hR1 => ?_))
   ·refine sqz (pz 2 hf fun a hf => ?_)
    have hf := hf.pn [4]
    refine wl_end (then_n (wp_ret (blk_r (then_r (then_r (blk_r (then_r (then_r (?_)))))))))
    obtain rfl := oi hR1
    replace hF := on_ret hF
    obtain rfl := oi hF
    refine rT hf ?_
    exact ⟨_, rfl, H.bel, mk_int⟩
   ·refine wp_skip (blk_n (then_n (reg (pz 2 hf fun a hf => ?_))))
    refine wl_end ?_
    have hf := hf.pn [0, 1, 7, 8]
    have H := H.lk 0 0 0 [1]
    exact then_n ⟨w64 (i + 1), hR1, hf, H⟩
  ·refine wp_exit (then_x (then_x (blk_e (?_))))
   have hf := hf.pn [0, 1, 7, 8]
   have H := H.lk 0 0 0 [0]
   exact ⟨i, (Option.some.inj hR1).symm, hf, H⟩
 rintro a w ⟨i2, rfl, hf, H⟩
 replace hF := on_next hF
 refine then_n (sqz (pz 1 hf fun a hf => ?_))
 refine wer ?_
 obtain rfl := oi hF
 refine rT hf ?_
 exact ⟨_, rfl, H.bel, mk_int⟩
theorem slices_Contains_int_int_ok {S : Nat → Prop} {v0_ : Value} {v1_ : Value} {s' : List Int} {v : Int} {r : Bool} (h0 : VR w0 S v0_ s') (h1 : VR w0 S v1_ v) (hF : slices_Contains_int_int fu s' v = some r) :
    Calls Tryz.prog 108 [v0_, v1_].toArray w0 fun e w' => ∃ v, e = .returned v ∧ (Below w0.heap.size w0 w' ∧ VR w' (St ⟨w0, []⟩ S [] [] [] true) v r) := by
 obtain ⟨A, c, rfl, hl⟩ := VR_list h0
 obtain rfl := VR_int h1
 have H := Mem.start ⟨w0, []⟩ S
 have H := H.pA hl
 refine en Tryz.func108 fun a hf => ?_
 rw [slices_Contains_int_int] at hF
 refine sqz (pz 1 hf fun a hf => ?_)
 refine wr (pz 2 hf fun a hf => ?_)
 obtain ⟨y, hy, hF⟩ := bs_ hF
 refine oc hf TF.cl139 (slices_Index_int_int_ok (S := TT) (mk_list (H.rt 0 rfl)) mk_int hy) fun v2 w a hp hf => ?_
 obtain ⟨hb, hp⟩ := hp
 obtain rfl := VR_int hp
 have H := H.keep hb
 refine pz 2 hf fun a hf => ?_
 refine wer ?_
 obtain rfl := oi hF
 refine rT hf ?_
 exact ⟨_, rfl, H.bel, mk_bool⟩
end AT
