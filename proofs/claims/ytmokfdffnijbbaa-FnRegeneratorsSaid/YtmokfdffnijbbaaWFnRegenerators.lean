/- The Go functions do what is told of them, by program (gen.py). -/
import Derived.Test.YtmokfdffnijbbaaWFnRegenerators2
set_option linter.unusedVariables false
set_option linter.unusedSimpArgs false
set_option maxRecDepth 100000
set_option maxHeartbeats 1000000
namespace AT
open Go Go.RowKit Go.Proofs
variable {fu : Nat} {w0 : World}
theorem spec_l19From_ok {S : Nat → Prop} {v0_ : Value} {v1_ : Value} {n' : Network} {node : Int} {r : List Int} (h0 : VR w0 S v0_ n') (h1 : VR w0 S v1_ node) (hF : spec_l19From fu n' node = some r) :
    Calls Try.prog 119 [v0_, v1_].toArray w0 fun e w' => ∃ v, e = .returned v ∧ (Below w0.heap.size w0 w' ∧ ∃ F0, VO w' F0 v r ∧ New w0 w' F0) := by
 obtain ⟨A, c, A2, c2, rfl, hl, hl2⟩ := Network_open h0
 obtain rfl := VR_int h1
 have H := Mem.start ⟨w0, []⟩ S
 have H := H.pA hl
 have H := H.pA hl2
 refine en Try.func119 fun a hf => ?_
 rw [spec_l19From] at hF
 refine bx hf H fun b' a w hf H => ?_
 refine pz 1 hf fun a hf => ?_
 refine wr (wl0 rfl (bl hf H 3 ([] : List Int) [] el0 fun A3 a w hf H => ?_))
 refine pz 1 hf fun a hf => ?_
 refine we (sqz (pz 1 hf fun a hf => ?_))
 refine wl_end (then_n ?_)
 obtain ⟨out2, hB1, hF⟩ := bs_ hF
 have hf := hf.pn [1, 2, 5, 6]
 have H := H.lt_ [true] [true] [] [0, 1]
 refine loopC (fun (s : List Int × Int) (a : Act) (w : World) => match s with | (out', i) => ∃ (A4 : Option Addr) (c3 : Nat) (E : Go.TypeId), Fr a 122 [(1, (.int .i64 node)), (2, (.pointer (some ⟨b', 0, none⟩))), (5, (.slice A4 out'.length c3)), (6, (.int .i64 i))] ∧ Mem ⟨w0, []⟩ S [⟨b', 27, [(.slice A n'.Nodes.length c), (.slice A2 n'.Fibers.length c2)]⟩] [⟨.sh true, E, A4, c3, (out' : List Int)⟩] [] [(false, MP.val [(.slice A2 n'.Fibers.length c2)] (n'.Fibers : List Fiber)), (false, MP.val [(.slice A n'.Nodes.length c)] (n'.Nodes : List ByteArray))] w) (fun k (s : List Int × Int) => spec_l19From_L1 fu n' k s.1 s.2 = some out2) (fun s => out2 = s) (([] : List Int), 0) fu hB1 ⟨A3, 0, 3, hf, H⟩ (fun s h => by cases h) ?_ ?_
 ·rintro fk ⟨out', i⟩ a w hR1 hI
  replace hR1 : spec_l19From_L1 fu n' (fk + 1) out' i = some out2 := hR1
  rw [spec_l19From_L1] at hR1
  obtain ⟨A4, c3, E, hf, H⟩ := hI
  refine sq (sqz (pz 2 hf fun a hf => ?_))
  refine lB 0 hf H TF.ls24 fun a hf => ?_
  refine pz 2 hf fun a hf => ?_
  refine wl_end (then_n (ib hR1 hf (fun hc hR1 => ?_) fun hc hR1 => ?_))
  ·refine wp_skip (then_n (sq (wp_block (reg (pz 1 hf fun a hf => ?_)))))
   refine wl0 rfl (bl hf H 3 ([(-1)] : List Int) [(.int .i64 (-1))] (el1 (y := (-1)) (rfl)) fun A5 a w hf H => ?_)
   obtain ⟨l, hl_, hR1⟩ := bs_ hR1
   refine wl0 rfl (op_appR hf H Try.underlying31 TF.ai3 rfl (by decide) 1 0 rfl rfl rfl rfl (.inr rfl) hl_ (by decide) fun E2 A6 c4 a w hf H => ?_)
   refine pz 1 hf fun a hf => ?_
   refine wl_end (blk_n (then_n (reg (pz 3 hf fun a hf => ?_))))
   refine wl_end ?_
   have hf := hf.pn [1, 2, 5, 6]
   have H := H.lt_ [true] [false, true] [] [0, 1]
   exact then_n ⟨(l, w64 (i + 1)), hR1, A6, c4, E2, hf, H⟩
  ·refine wp_exit (then_x (then_x (blk_e (?_))))
   have hf := hf.pn [1, 2, 5, 6]
   have H := H.lt_ [true] [true] [] [0, 1]
   exact ⟨(out', i), (Option.some.inj hR1).symm, A4, c3, E, hf, H⟩
 rintro a w ⟨⟨out3, i2⟩, rfl, A7, c5, E3, hf, H⟩
 try dsimp only at hF
 refine then_n (sqz (pz 2 hf fun a hf => ?_))
 obtain ⟨e, he, hF⟩ := bs_ hF
 refine wl0 rfl (op_iaddrR hf H Try.underlying31 TF.sz3 0 rfl rfl rfl he (by decide) fun p o cs a hf hA hr hk => ?_)
 obtain rfl := hr
 refine wl0 rfl (op_storeR (e' := 0) (o := o) (off := 0) hf H TF.sz3 0 rfl rfl rfl rfl rfl (nle rfl) rfl hA he (st_full rfl) fun w H => ?_)
 replace hf : Fr a 122 [(1, (.int .i64 node)), (2, (.pointer (some ⟨b', 0, none⟩))), (5, (.slice A7 out3.length c5)), (21, (.slice A7 out3.length c5)), (22, (.int .i64 node)), (23, (.pointer (some ⟨p, o + 0, none⟩)))] := hf.prune [1, 2, 5, 21, 22, 23] rfl
 replace hf : Fr a 122 [(1, (.int .i64 node)), (2, (.pointer (some ⟨b', 0, none⟩))), (5, (.slice A7 (out3.set (node : Int).toNat 0).length c5)), (21, (.slice A7 (out3.set (node : Int).toNat 0).length c5)), (22, (.int .i64 node)), (23, (.pointer (some ⟨p, o + 0, none⟩)))] := by simpa only [List.length_set, Nat.add_zero] using hf
 refine we (sqz (pz 1 hf fun a hf => ?_))
 refine wl_end (then_n ?_)
 obtain ⟨out5, hB1, hF⟩ := bs_ hF
 have hf := hf.pn [2, 5, 7]
 have H := H.lt_ [true] [true] [] [0, 1]
 refine loopC (fun (s : List Int × Bool) (a : Act) (w : World) => match s with | (out4, more) => ∃ (A8 : Option Addr) (c6 : Nat) (E4 : Go.TypeId), Fr a 122 [(2, (.pointer (some ⟨b', 0, none⟩))), (5, (.slice A8 out4.length c6)), (7, (.bool more))] ∧ Mem ⟨w0, []⟩ S [⟨b', 27, [(.slice A n'.Nodes.length c), (.slice A2 n'.Fibers.length c2)]⟩] [⟨.sh true, E4, A8, c6, (out4 : List Int)⟩] [] [(false, MP.val [(.slice A2 n'.Fibers.length c2)] (n'.Fibers : List Fiber)), (false, MP.val [(.slice A n'.Nodes.length c)] (n'.Nodes : List ByteArray))] w) (fun k (s : List Int × Bool) => spec_l19From_L2 fu n' k s.1 s.2 = some out5) (fun s => out5 = s) (out3.set (node : Int).toNat 0, true) fu hB1 ⟨A7, c5, E3, hf, H⟩ (fun s h => by cases h) ?_ ?_
 ·rintro fk ⟨out4, more⟩ a w hR1 hI
  replace hR1 : spec_l19From_L2 fu n' (fk + 1) out4 more = some out5 := hR1
  rw [spec_l19From_L2] at hR1
  obtain ⟨A8, c6, E4, hf, H⟩ := hI
  refine sq (sqz (pz 1 hf fun a hf => ?_))
  refine wl_end (then_n (ib hR1 hf (fun hc2 hR1 => ?_) fun hc2 hR1 => ?_))
  ·refine wp_skip (then_n (wp_block (sqz (pz 1 hf fun a hf => ?_))))
   refine wr (pz 1 hf fun a hf => ?_)
   refine wl_end (then_n ?_)
   obtain ⟨out7, hB2, hR1⟩ := bs_ hR1
   have hf := hf.pn [2, 5, 7, 8]
   have H := H.lt_ [true] [true] [] [0, 1]
   refine loopC (fun (s : List Int × Bool × Int) (a : Act) (w : World) => match s with | (out6, more2, i3) => ∃ (A9 : Option Addr) (c7 : Nat) (E5 : Go.TypeId), Fr a 122 [(2, (.pointer (some ⟨b', 0, none⟩))), (5, (.slice A9 out6.length c7)), (7, (.bool more2)), (8, (.int .i64 i3))] ∧ Mem ⟨w0, []⟩ S [⟨b', 27, [(.slice A n'.Nodes.length c), (.slice A2 n'.Fibers.length c2)]⟩] [⟨.sh true, E5, A9, c7, (out6 : List Int)⟩] [] [(false, MP.val [(.slice A2 n'.Fibers.length c2)] (n'.Fibers : List Fiber)), (false, MP.val [(.slice A n'.Nodes.length c)] (n'.Nodes : List ByteArray))] w) (fun k (s : List Int × Bool × Int) => spec_l19From_L3 fu n' k s.1 s.2.1 s.2.2 = some out7) (fun s => out7 = s) (out4, false, 0) fu hB2 ⟨A8, c6, E4, hf, H⟩ (fun s h => by cases h) ?_ ?_
   ·rintro fk ⟨out6, more2, i3⟩ a w hR2 hI
    replace hR2 : spec_l19From_L3 fu n' (fk + 1) out6 more2 i3 = some out7 := hR2
    rw [spec_l19From_L3] at hR2
    obtain ⟨A9, c7, E5, hf, H⟩ := hI
    refine sq (sqz (pz 2 hf fun a hf => ?_))
    refine lB 0 hf H TF.ls25 fun a hf => ?_
    refine pz 2 hf fun a hf => ?_
    refine wl_end (then_n (ib hR2 hf (fun hc3 hR2 => ?_) fun hc3 hR2 => ?_))
    ·refine ws (pz 1 hf fun a hf => ?_)
     refine lB 0 hf H TF.ls25 fun a hf => ?_
     refine pz 1 hf fun a hf => ?_
     obtain ⟨e2, he2, hR2⟩ := bs_ hR2
     refine wl0 rfl (op_iaddr hf H Try.underlying25 TF.sz79 0 rfl rfl rfl he2 (by decide) fun p2 o2 cs2 a hf hr2 H => ?_)
     obtain rfl := Fiber_cells hr2
     refine oq hf (rq_loadIN hf H TF.la79 0 0 rfl rfl rfl rfl) fun a hf => ?_
     refine aL hf H TF.zv79 fun b2 a w hf H => ?_
     refine sB 0 hf H TF.sz79 fun w H => ?_
     refine wl_end (then_n (sq (sq ?_)))
     obtain ⟨c8, hGc8, hR2⟩ := bs_ hR2
     have fh := hf.prune [2, 5, 7, 8, 9] rfl
     have Hm := H.lt_ [true, true] [true] [] [1, 2]
     refine midF 66 (.bool c8) fh Hm ?_ fun a w hf H => ?_
     ·refine dw [] 30 fun w hb => ?_
      have H := H.keep hb
      refine zp 0 hf trivial fun a hf => ?_
      refine zp 1 hf trivial fun a hf => ?_
      refine strT (H.lt_ [true, false] [false] [] []) (fun w H => trivial) fun hS => ?_
      refine zS 2 [] rfl rfl rfl rfl hf hS (fun w H => rq_loadB hf H TF.ls3 0 rfl rfl rfl) fun a hf => ?_
      obtain ⟨e3, he3, hGc8⟩ := bs_ hGc8
      obtain ⟨p3, o3, hA2, hx⟩ := pre_iaddrR H Try.underlying31 TF.sz3 0 rfl he3
      refine zP 3 rfl rfl rfl rfl hf hS (fun w => rq_iaddrE hf rfl rfl rfl hx w) fun a hf => ?_
      refine strT (H.lt_ [true, false] [true] [] []) (fun w H => H.lt_ [true] [false] [] []) fun hS => ?_
      refine zS 4 [] rfl rfl rfl rfl hf hS (fun w H => rq_loadRow (off := 0) hf H TF.ls3 0 rfl rfl hA2 he3 (fun w T cs h => by obtain rfl := h; rfl)) fun a hf => ?_
      refine zp 5 hf hS fun a hf => ?_
      refine zp 6 hf hS fun a hf => ?_
      refine iteB hGc8 (fun hc4 hGc8 => ?_) fun hc4 hGc8 => ?_
      ·have hf := hf.lit 43 rfl hc4
       refine zg 7 hf hS fun a hf => ?_
       refine zg 8 hf hS fun a hf => ?_
       refine tSg 9 [] rfl rfl rfl rfl rfl rfl hf (by kernel_rfl) (by kernel_rfl) hS (fun w H => rq_loadB hf H TF.ls3 0 rfl rfl rfl) fun a hf => ?_
       obtain ⟨e4, he4, hGc8⟩ := bs_ hGc8
       obtain ⟨p4, o4, hA3, hx2⟩ := pre_iaddrR H Try.underlying31 TF.sz3 0 rfl he4
       refine tPg 10 rfl rfl rfl rfl rfl rfl hf (by kernel_rfl) (fun _ => hS) (fun w => rq_iaddrE hf rfl rfl rfl hx2 w) fun a hf => ?_
       refine tSg 11 [] rfl rfl rfl rfl rfl rfl hf (by kernel_rfl) (by kernel_rfl) hS (fun w H => rq_loadRow (off := 0) hf H TF.ls3 0 rfl rfl hA3 he4 (fun w T cs h => by obtain rfl := h; rfl)) fun a hf => ?_
       refine zg 12 hf hS fun a hf => ?_
       refine zg 13 hf hS fun a hf => ?_
       refine iteB hGc8 (fun hc5 hGc8 => ?_) fun hc5 hGc8 => ?_
       ·have hf := hf.lit 50 rfl hc5
        refine zU 14 hf hS fun a hf => ?_
        refine zU 15 hf hS fun a hf => ?_
        refine zU 16 hf hS fun a hf => ?_
        refine zU 17 hf hS fun a hf => ?_
        refine zU 18 hf hS fun a hf => ?_
        refine zU 19 hf hS fun a hf => ?_
        refine zU 20 hf hS fun a hf => ?_
        refine zU 21 hf hS fun a hf => ?_
        refine zU 22 hf hS fun a hf => ?_
        refine zU 23 hf hS fun a hf => ?_
        refine zU 24 hf hS fun a hf => ?_
        refine zU 25 hf hS fun a hf => ?_
        refine zU 26 hf hS fun a hf => ?_
        refine zU 27 hf hS fun a hf => ?_
        refine zg 28 hf hS fun a hf => ?_
        refine zp 29 hf hS fun a hf => ?_
        refine dk ?_
        obtain rfl := oi hGc8
        have hf := hf.pn [66, 2, 5, 7, 8, 9]
        have H := H.lt_ [true, true] [true] [] [1, 2]
        exact ⟨hf, H⟩
       ·have hf := hf.lit 50 rfl hc5
        refine zg 14 hf hS fun a hf => ?_
        refine zg 15 hf hS fun a hf => ?_
        refine tSg 16 [] rfl rfl rfl rfl rfl rfl hf (by kernel_rfl) (by kernel_rfl) hS (fun w H => rq_loadB hf H TF.ls3 0 rfl rfl rfl) fun a hf => ?_
        obtain ⟨e5, he5, hGc8⟩ := bs_ hGc8
        obtain ⟨p5, o5, hA4, hx3⟩ := pre_iaddrR H Try.underlying31 TF.sz3 0 rfl he5
        refine tPg 17 rfl rfl rfl rfl rfl rfl hf (by kernel_rfl) (fun _ => hS) (fun w => rq_iaddrE hf rfl rfl rfl hx3 w) fun a hf => ?_
        refine tSg 18 [] rfl rfl rfl rfl rfl rfl hf (by kernel_rfl) (by kernel_rfl) hS (fun w H => rq_loadRow (off := 0) hf H TF.ls3 0 rfl rfl hA4 he5 (fun w T cs h => by obtain rfl := h; rfl)) fun a hf => ?_
        refine zg 19 hf hS fun a hf => ?_
        refine tSg 20 [] rfl rfl rfl rfl rfl rfl hf (by kernel_rfl) (by kernel_rfl) hS (fun w H => rq_loadB hf H TF.ls3 0 rfl rfl rfl) fun a hf => ?_
        refine zg 21 hf hS fun a hf => ?_
        refine zg 22 hf hS fun a hf => ?_
        refine zg 23 hf hS fun a hf => ?_
        refine tSg 24 [] rfl rfl rfl rfl rfl rfl hf (by kernel_rfl) (by kernel_rfl) hS (fun w H => rq_loadB hf H TF.ls3 0 rfl rfl rfl) fun a hf => ?_
        obtain ⟨e6, he6, hGc8⟩ := bs_ hGc8
        obtain ⟨p6, o6, hA5, hx4⟩ := pre_iaddrR H Try.underlying31 TF.sz3 0 rfl he6
        refine tPg 25 rfl rfl rfl rfl rfl rfl hf (by kernel_rfl) (fun _ => hS) (fun w => rq_iaddrE hf rfl rfl rfl hx4 w) fun a hf => ?_
        refine tSg 26 [] rfl rfl rfl rfl rfl rfl hf (by kernel_rfl) (by kernel_rfl) hS (fun w H => rq_loadRow (off := 0) hf H TF.ls3 0 rfl rfl hA5 he6 (fun w T cs h => by obtain rfl := h; rfl)) fun a hf => ?_
        refine zg 27 hf hS fun a hf => ?_
        refine zg 28 hf hS fun a hf => ?_
        refine zp 29 hf hS fun a hf => ?_
        refine dk ?_
        obtain rfl := oi hGc8
        have hf := hf.pn [66, 2, 5, 7, 8, 9]
        have H := H.lt_ [true, true] [true] [] [1, 2]
        exact ⟨hf, H⟩
      ·have hf := hf.lit 43 rfl hc4
       refine zU 7 hf hS fun a hf => ?_
       refine zU 8 hf hS fun a hf => ?_
       refine zU 9 hf hS fun a hf => ?_
       refine zU 10 hf hS fun a hf => ?_
       refine zU 11 hf hS fun a hf => ?_
       refine zU 12 hf hS fun a hf => ?_
       refine zU 13 hf hS fun a hf => ?_
       refine zV 14 hf hS fun a hf => ?_
       refine zV 15 hf hS fun a hf => ?_
       refine zV 16 hf hS fun a hf => ?_
       refine zV 17 hf hS fun a hf => ?_
       refine zV 18 hf hS fun a hf => ?_
       refine zV 19 hf hS fun a hf => ?_
       refine zV 20 hf hS fun a hf => ?_
       refine zV 21 hf hS fun a hf => ?_
       refine zV 22 hf hS fun a hf => ?_
       refine zV 23 hf hS fun a hf => ?_
       refine zV 24 hf hS fun a hf => ?_
       refine zV 25 hf hS fun a hf => ?_
       refine zV 26 hf hS fun a hf => ?_
       refine zV 27 hf hS fun a hf => ?_
       refine zU 28 hf hS fun a hf => ?_
       refine zp 29 hf hS fun a hf => ?_
       refine dk ?_
       obtain rfl := oi hGc8
       have hf := hf.pn [66, 2, 5, 7, 8, 9]
       have H := H.lt_ [true, true] [true] [] [1, 2]
       exact ⟨hf, H⟩
     refine then_n (ib hR2 hf (fun hc6 hR2 => ?_) fun hc6 hR2 => ?_)
     ·refine sq (dw [12] 13 fun w hb => ?_)
      have H := H.keep hb
      refine zp 0 hf trivial fun a hf => ?_
      refine zp 1 hf trivial fun a hf => ?_
      refine strT (H.lt_ [true, false] [false] [] []) (fun w H => trivial) fun hS => ?_
      refine zS 2 [2, 11, 12] rfl rfl rfl rfl hf hS (fun w H => rq_loadB hf H TF.ls3 0 rfl rfl rfl) fun a hf => ?_
      refine zp 3 hf hS fun a hf => ?_
      refine zp 4 hf hS fun a hf => ?_
      refine zS 5 [5, 6, 7, 10, 11, 12] rfl rfl rfl rfl hf hS (fun w H => rq_loadB hf H TF.ls3 0 rfl rfl rfl) fun a hf => ?_
      obtain ⟨e7, he7, hR2⟩ := bs_ hR2
      obtain ⟨p7, o7, hA6, hx5⟩ := pre_iaddrR H Try.underlying31 TF.sz3 0 rfl he7
      refine zP 6 rfl rfl rfl rfl hf hS (fun w => rq_iaddrE hf rfl rfl rfl hx5 w) fun a hf => ?_
      refine strT (H.lt_ [true, false] [true] [] []) (fun w H => H.lt_ [true] [false] [] []) fun hS => ?_
      refine zS 7 [7, 10, 11, 12] rfl rfl rfl rfl hf hS (fun w H => rq_loadRow (off := 0) hf H TF.ls3 0 rfl rfl hA6 he7 (fun w T cs h => by obtain rfl := h; rfl)) fun a hf => ?_
      refine zp 8 hf hS fun a hf => ?_
      refine zS 9 [9, 10, 11, 12] rfl rfl rfl rfl hf hS (fun w H => rq_loadB hf H TF.ls3 0 rfl rfl rfl) fun a hf => ?_
      refine zp 10 hf hS fun a hf => ?_
      obtain ⟨e8, he8, hR2⟩ := bs_ hR2
      refine nn 11 rfl (op_iaddrR hf H Try.underlying31 TF.sz3 0 rfl rfl rfl he8 (by decide) fun p8 o8 cs3 a hf hA7 hr3 hk2 => ?_)
      obtain rfl := hr3
      have hS := H.lt_ [true, false] [true] [] []
      refine aS hS ?_
      refine nn 12 rfl (op_storeR (e' := w64 (e7 + e2.Length)) (o := o8) (off := 0) hf H TF.sz3 0 rfl rfl rfl rfl rfl (nle rfl) rfl hA7 he8 (st_full rfl) fun w H => ?_)
      replace hf : Fr a 122 [(2, (.pointer (some ⟨b', 0, none⟩))), (5, (.slice A9 out6.length c7)), (8, (.int .i64 i3)), (9, (.pointer (some ⟨b2, 0, none⟩))), (67, (.slice A9 out6.length c7)), (68, (.pointer (some ⟨b2, 1, none⟩))), (69, (.int .i64 e2.B)), (70, (.slice A9 out6.length c7)), (71, (.pointer (some ⟨b2, 0, none⟩))), (72, (.int .i64 e2.A)), (73, (.pointer (some ⟨p7, o7 + 0, none⟩))), (74, (.int .i64 e7)), (75, (.pointer (some ⟨b2, 2, none⟩))), (76, (.int .i64 e2.Length)), (77, (.int .i64 (w64 (e7 + e2.Length)))), (78, (.pointer (some ⟨p8, o8 + 0, none⟩)))] := hf.prune [2, 5, 8, 9, 67, 68, 69, 70, 71, 72, 73, 74, 75, 76, 77, 78] rfl
      replace hf : Fr a 122 [(2, (.pointer (some ⟨b', 0, none⟩))), (5, (.slice A9 (out6.set (e2.B : Int).toNat (w64 (e7 + e2.Length))).length c7)), (8, (.int .i64 i3)), (9, (.pointer (some ⟨b2, 0, none⟩))), (67, (.slice A9 (out6.set (e2.B : Int).toNat (w64 (e7 + e2.Length))).length c7)), (68, (.pointer (some ⟨b2, 1, none⟩))), (69, (.int .i64 e2.B)), (70, (.slice A9 (out6.set (e2.B : Int).toNat (w64 (e7 + e2.Length))).length c7)), (71, (.pointer (some ⟨b2, 0, none⟩))), (72, (.int .i64 e2.A)), (73, (.pointer (some ⟨p7, o7 + 0, none⟩))), (74, (.int .i64 e7)), (75, (.pointer (some ⟨b2, 2, none⟩))), (76, (.int .i64 e2.Length)), (77, (.int .i64 (w64 (e7 + e2.Length)))), (78, (.pointer (some ⟨p8, o8 + 0, none⟩)))] := by simpa only [List.length_set, Nat.add_zero] using hf
      refine ⟨fun h => absurd h (by decide), ?_⟩
      refine dk ?_
      refine then_n (reg (pz 1 hf fun a hf => ?_))
      refine wl_end (then_n (sq ?_))
      obtain ⟨c9, hGc9, hR2⟩ := bs_ hR2
      have fh2 := hf.prune [2, 5, 7, 8, 9] rfl
      have Hm2 := H.lt_ [true, true] [true] [] [0, 1]
      refine midF 108 (.bool c9) fh2 Hm2 ?_ fun a w hf H => ?_
      ·refine dw [] 30 fun w hb => ?_
       have H := H.keep hb
       refine zp 0 hf trivial fun a hf => ?_
       refine zp 1 hf trivial fun a hf => ?_
       refine strT (H.lt_ [true, false] [false] [] []) (fun w H => trivial) fun hS => ?_
       refine zS 2 [] rfl rfl rfl rfl hf hS (fun w H => rq_loadB hf H TF.ls3 0 rfl rfl rfl) fun a hf => ?_
       obtain ⟨e9, he9, hGc9⟩ := bs_ hGc9
       obtain ⟨p9, o9, hA8, hx6⟩ := pre_iaddrR H Try.underlying31 TF.sz3 0 rfl he9
       refine zP 3 rfl rfl rfl rfl hf hS (fun w => rq_iaddrE hf rfl rfl rfl hx6 w) fun a hf => ?_
       refine strT (H.lt_ [true, false] [true] [] []) (fun w H => H.lt_ [true] [false] [] []) fun hS => ?_
       refine zS 4 [] rfl rfl rfl rfl hf hS (fun w H => rq_loadRow (off := 0) hf H TF.ls3 0 rfl rfl hA8 he9 (fun w T cs h => by obtain rfl := h; rfl)) fun a hf => ?_
       refine zp 5 hf hS fun a hf => ?_
       refine zp 6 hf hS fun a hf => ?_
       refine iteB hGc9 (fun hc7 hGc9 => ?_) fun hc7 hGc9 => ?_
       ·have hf := hf.lit 85 rfl hc7
        refine zg 7 hf hS fun a hf => ?_
        refine zg 8 hf hS fun a hf => ?_
        refine tSg 9 [] rfl rfl rfl rfl rfl rfl hf (by kernel_rfl) (by kernel_rfl) hS (fun w H => rq_loadB hf H TF.ls3 0 rfl rfl rfl) fun a hf => ?_
        obtain ⟨e10, he10, hGc9⟩ := bs_ hGc9
        obtain ⟨p10, o10, hA9, hx7⟩ := pre_iaddrR H Try.underlying31 TF.sz3 0 rfl he10
        refine tPg 10 rfl rfl rfl rfl rfl rfl hf (by kernel_rfl) (fun _ => hS) (fun w => rq_iaddrE hf rfl rfl rfl hx7 w) fun a hf => ?_
        refine tSg 11 [] rfl rfl rfl rfl rfl rfl hf (by kernel_rfl) (by kernel_rfl) hS (fun w H => rq_loadRow (off := 0) hf H TF.ls3 0 rfl rfl hA9 he10 (fun w T cs h => by obtain rfl := h; rfl)) fun a hf => ?_
        refine zg 12 hf hS fun a hf => ?_
        refine zg 13 hf hS fun a hf => ?_
        refine iteB hGc9 (fun hc8 hGc9 => ?_) fun hc8 hGc9 => ?_
        ·have hf := hf.lit 92 rfl hc8
         refine zU 14 hf hS fun a hf => ?_
         refine zU 15 hf hS fun a hf => ?_
         refine zU 16 hf hS fun a hf => ?_
         refine zU 17 hf hS fun a hf => ?_
         refine zU 18 hf hS fun a hf => ?_
         refine zU 19 hf hS fun a hf => ?_
         refine zU 20 hf hS fun a hf => ?_
         refine zU 21 hf hS fun a hf => ?_
         refine zU 22 hf hS fun a hf => ?_
         refine zU 23 hf hS fun a hf => ?_
         refine zU 24 hf hS fun a hf => ?_
         refine zU 25 hf hS fun a hf => ?_
         refine zU 26 hf hS fun a hf => ?_
         refine zU 27 hf hS fun a hf => ?_
         refine zg 28 hf hS fun a hf => ?_
         refine zp 29 hf hS fun a hf => ?_
         refine dk ?_
         obtain rfl := oi hGc9
         have hf := hf.pn [108, 2, 5, 7, 8, 9]
         have H := H.lt_ [true, true] [true] [] [0, 1]
         exact ⟨hf, H⟩
        ·have hf := hf.lit 92 rfl hc8
         refine zg 14 hf hS fun a hf => ?_
         refine zg 15 hf hS fun a hf => ?_
         refine tSg 16 [] rfl rfl rfl rfl rfl rfl hf (by kernel_rfl) (by kernel_rfl) hS (fun w H => rq_loadB hf H TF.ls3 0 rfl rfl rfl) fun a hf => ?_
         obtain ⟨e11, he11, hGc9⟩ := bs_ hGc9
         obtain ⟨p11, o11, hA10, hx8⟩ := pre_iaddrR H Try.underlying31 TF.sz3 0 rfl he11
         refine tPg 17 rfl rfl rfl rfl rfl rfl hf (by kernel_rfl) (fun _ => hS) (fun w => rq_iaddrE hf rfl rfl rfl hx8 w) fun a hf => ?_
         refine tSg 18 [] rfl rfl rfl rfl rfl rfl hf (by kernel_rfl) (by kernel_rfl) hS (fun w H => rq_loadRow (off := 0) hf H TF.ls3 0 rfl rfl hA10 he11 (fun w T cs h => by obtain rfl := h; rfl)) fun a hf => ?_
         refine zg 19 hf hS fun a hf => ?_
         refine tSg 20 [] rfl rfl rfl rfl rfl rfl hf (by kernel_rfl) (by kernel_rfl) hS (fun w H => rq_loadB hf H TF.ls3 0 rfl rfl rfl) fun a hf => ?_
         refine zg 21 hf hS fun a hf => ?_
         refine zg 22 hf hS fun a hf => ?_
         refine zg 23 hf hS fun a hf => ?_
         refine tSg 24 [] rfl rfl rfl rfl rfl rfl hf (by kernel_rfl) (by kernel_rfl) hS (fun w H => rq_loadB hf H TF.ls3 0 rfl rfl rfl) fun a hf => ?_
         obtain ⟨e12, he12, hGc9⟩ := bs_ hGc9
         obtain ⟨p12, o12, hA11, hx9⟩ := pre_iaddrR H Try.underlying31 TF.sz3 0 rfl he12
         refine tPg 25 rfl rfl rfl rfl rfl rfl hf (by kernel_rfl) (fun _ => hS) (fun w => rq_iaddrE hf rfl rfl rfl hx9 w) fun a hf => ?_
         refine tSg 26 [] rfl rfl rfl rfl rfl rfl hf (by kernel_rfl) (by kernel_rfl) hS (fun w H => rq_loadRow (off := 0) hf H TF.ls3 0 rfl rfl hA11 he12 (fun w T cs h => by obtain rfl := h; rfl)) fun a hf => ?_
         refine zg 27 hf hS fun a hf => ?_
         refine zg 28 hf hS fun a hf => ?_
         refine zp 29 hf hS fun a hf => ?_
         refine dk ?_
         obtain rfl := oi hGc9
         have hf := hf.pn [108, 2, 5, 7, 8, 9]
         have H := H.lt_ [true, true] [true] [] [0, 1]
         exact ⟨hf, H⟩
       ·have hf := hf.lit 85 rfl hc7
        refine zU 7 hf hS fun a hf => ?_
        refine zU 8 hf hS fun a hf => ?_
        refine zU 9 hf hS fun a hf => ?_
        refine zU 10 hf hS fun a hf => ?_
        refine zU 11 hf hS fun a hf => ?_
        refine zU 12 hf hS fun a hf => ?_
        refine zU 13 hf hS fun a hf => ?_
        refine zV 14 hf hS fun a hf => ?_
        refine zV 15 hf hS fun a hf => ?_
        refine zV 16 hf hS fun a hf => ?_
        refine zV 17 hf hS fun a hf => ?_
        refine zV 18 hf hS fun a hf => ?_
        refine zV 19 hf hS fun a hf => ?_
        refine zV 20 hf hS fun a hf => ?_
        refine zV 21 hf hS fun a hf => ?_
        refine zV 22 hf hS fun a hf => ?_
        refine zV 23 hf hS fun a hf => ?_
        refine zV 24 hf hS fun a hf => ?_
        refine zV 25 hf hS fun a hf => ?_
        refine zV 26 hf hS fun a hf => ?_
        refine zV 27 hf hS fun a hf => ?_
        refine zU 28 hf hS fun a hf => ?_
        refine zp 29 hf hS fun a hf => ?_
        refine dk ?_
        obtain rfl := oi hGc9
        have hf := hf.pn [108, 2, 5, 7, 8, 9]
        have H := H.lt_ [true, true] [true] [] [0, 1]
        exact ⟨hf, H⟩
      refine then_n (ib hR2 hf (fun hc9 hR2 => ?_) fun hc9 hR2 => ?_)
      ·refine sq (dw [12] 13 fun w hb => ?_)
       have H := H.keep hb
       refine zp 0 hf trivial fun a hf => ?_
       refine zp 1 hf trivial fun a hf => ?_
       refine strT (H.lt_ [true, false] [false] [] []) (fun w H => trivial) fun hS => ?_
       refine zS 2 [2, 11, 12] rfl rfl rfl rfl hf hS (fun w H => rq_loadB hf H TF.ls3 0 rfl rfl rfl) fun a hf => ?_
       refine zp 3 hf hS fun a hf => ?_
       refine zp 4 hf hS fun a hf => ?_
       refine zS 5 [5, 6, 7, 10, 11, 12] rfl rfl rfl rfl hf hS (fun w H => rq_loadB hf H TF.ls3 0 rfl rfl rfl) fun a hf => ?_
       obtain ⟨e13, he13, hR2⟩ := bs_ hR2
       obtain ⟨p13, o13, hA12, hx10⟩ := pre_iaddrR H Try.underlying31 TF.sz3 0 rfl he13
       refine zP 6 rfl rfl rfl rfl hf hS (fun w => rq_iaddrE hf rfl rfl rfl hx10 w) fun a hf => ?_
       refine strT (H.lt_ [true, false] [true] [] []) (fun w H => H.lt_ [true] [false] [] []) fun hS => ?_
       refine zS 7 [7, 10, 11, 12] rfl rfl rfl rfl hf hS (fun w H => rq_loadRow (off := 0) hf H TF.ls3 0 rfl rfl hA12 he13 (fun w T cs h => by obtain rfl := h; rfl)) fun a hf => ?_
       refine zp 8 hf hS fun a hf => ?_
       refine zS 9 [9, 10, 11, 12] rfl rfl rfl rfl hf hS (fun w H => rq_loadB hf H TF.ls3 0 rfl rfl rfl) fun a hf => ?_
       refine zp 10 hf hS fun a hf => ?_
       obtain ⟨e14, he14, hR2⟩ := bs_ hR2
       refine nn 11 rfl (op_iaddrR hf H Try.underlying31 TF.sz3 0 rfl rfl rfl he14 (by decide) fun p14 o14 cs4 a hf hA13 hr4 hk3 => ?_)
       obtain rfl := hr4
       have hS := H.lt_ [true, false] [true] [] []
       refine aS hS ?_
       refine nn 12 rfl (op_storeR (e' := w64 (e13 + e2.Length)) (o := o14) (off := 0) hf H TF.sz3 0 rfl rfl rfl rfl rfl (nle rfl) rfl hA13 he14 (st_full rfl) fun w H => ?_)
       replace hf : Fr a 122 [(2, (.pointer (some ⟨b', 0, none⟩))), (5, (.slice A9 (out6.set (e2.B : Int).toNat (w64 (e7 + e2.Length))).length c7)), (8, (.int .i64 i3)), (9, (.pointer (some ⟨b2, 0, none⟩))), (109, (.slice A9 (out6.set (e2.B : Int).toNat (w64 (e7 + e2.Length))).length c7)), (110, (.pointer (some ⟨b2, 0, none⟩))), (111, (.int .i64 e2.A)), (112, (.slice A9 (out6.set (e2.B : Int).toNat (w64 (e7 + e2.Length))).length c7)), (113, (.pointer (some ⟨b2, 1, none⟩))), (114, (.int .i64 e2.B)), (115, (.pointer (some ⟨p13, o13 + 0, none⟩))), (116, (.int .i64 e13)), (117, (.pointer (some ⟨b2, 2, none⟩))), (118, (.int .i64 e2.Length)), (119, (.int .i64 (w64 (e13 + e2.Length)))), (120, (.pointer (some ⟨p14, o14 + 0, none⟩)))] := hf.prune [2, 5, 8, 9, 109, 110, 111, 112, 113, 114, 115, 116, 117, 118, 119, 120] rfl
       replace hf : Fr a 122 [(2, (.pointer (some ⟨b', 0, none⟩))), (5, (.slice A9 ((out6.set (e2.B : Int).toNat (w64 (e7 + e2.Length))).set (e2.A : Int).toNat (w64 (e13 + e2.Length))).length c7)), (8, (.int .i64 i3)), (9, (.pointer (some ⟨b2, 0, none⟩))), (109, (.slice A9 ((out6.set (e2.B : Int).toNat (w64 (e7 + e2.Length))).set (e2.A : Int).toNat (w64 (e13 + e2.Length))).length c7)), (110, (.pointer (some ⟨b2, 0, none⟩))), (111, (.int .i64 e2.A)), (112, (.slice A9 ((out6.set (e2.B : Int).toNat (w64 (e7 + e2.Length))).set (e2.A : Int).toNat (w64 (e13 + e2.Length))).length c7)), (113, (.pointer (some ⟨b2, 1, none⟩))), (114, (.int .i64 e2.B)), (115, (.pointer (some ⟨p13, o13 + 0, none⟩))), (116, (.int .i64 e13)), (117, (.pointer (some ⟨b2, 2, none⟩))), (118, (.int .i64 e2.Length)), (119, (.int .i64 (w64 (e13 + e2.Length)))), (120, (.pointer (some ⟨p14, o14 + 0, none⟩)))] := by simpa only [List.length_set, Nat.add_zero] using hf
       refine ⟨fun h => absurd h (by decide), ?_⟩
       refine dk ?_
       have hf := hf.pn [2, 5, 8]
       refine then_n (reg (pz 1 hf fun a hf => ?_))
       refine wl_end (blk_n (then_n (reg (pz 3 hf fun a hf => ?_))))
       refine wl_end ?_
       have hf := hf.pn [2, 5, 7, 8]
       have H := H.lt_ [false, true] [true] [] [0, 1]
       exact then_n ⟨((out6.set (e2.B : Int).toNat (w64 (e7 + e2.Length))).set (e2.A : Int).toNat (w64 (e13 + e2.Length)), true, w64 (i3 + 1)), hR2, A9, c7, E5, hf, H⟩
      ·refine wp_skip (blk_n (then_n (reg (pz 3 hf fun a hf => ?_))))
       refine wl_end ?_
       have hf := hf.pn [2, 5, 7, 8]
       have H := H.lt_ [false, true] [true] [] [0, 1]
       exact then_n ⟨(out6.set (e2.B : Int).toNat (w64 (e7 + e2.Length)), true, w64 (i3 + 1)), hR2, A9, c7, E5, hf, H⟩
     ·refine wp_skip (then_n (sq ?_))
      obtain ⟨c10, hGc10, hR2⟩ := bs_ hR2
      have fh3 := hf.prune [2, 5, 7, 8, 9] rfl
      have Hm3 := H.lt_ [true, true] [true] [] [0, 1]
      refine midF 108 (.bool c10) fh3 Hm3 ?_ fun a w hf H => ?_
      ·refine dw [] 30 fun w hb => ?_
       have H := H.keep hb
       refine zp 0 hf trivial fun a hf => ?_
       refine zp 1 hf trivial fun a hf => ?_
       refine strT (H.lt_ [true, false] [false] [] []) (fun w H => trivial) fun hS => ?_
       refine zS 2 [] rfl rfl rfl rfl hf hS (fun w H => rq_loadB hf H TF.ls3 0 rfl rfl rfl) fun a hf => ?_
       obtain ⟨e15, he15, hGc10⟩ := bs_ hGc10
       obtain ⟨p15, o15, hA14, hx11⟩ := pre_iaddrR H Try.underlying31 TF.sz3 0 rfl he15
       refine zP 3 rfl rfl rfl rfl hf hS (fun w => rq_iaddrE hf rfl rfl rfl hx11 w) fun a hf => ?_
       refine strT (H.lt_ [true, false] [true] [] []) (fun w H => H.lt_ [true] [false] [] []) fun hS => ?_
       refine zS 4 [] rfl rfl rfl rfl hf hS (fun w H => rq_loadRow (off := 0) hf H TF.ls3 0 rfl rfl hA14 he15 (fun w T cs h => by obtain rfl := h; rfl)) fun a hf => ?_
       refine zp 5 hf hS fun a hf => ?_
       refine zp 6 hf hS fun a hf => ?_
       refine iteB hGc10 (fun hc10 hGc10 => ?_) fun hc10 hGc10 => ?_
       ·have hf := hf.lit 85 rfl hc10
        refine zg 7 hf hS fun a hf => ?_
        refine zg 8 hf hS fun a hf => ?_
        refine tSg 9 [] rfl rfl rfl rfl rfl rfl hf (by kernel_rfl) (by kernel_rfl) hS (fun w H => rq_loadB hf H TF.ls3 0 rfl rfl rfl) fun a hf => ?_
        obtain ⟨e16, he16, hGc10⟩ := bs_ hGc10
        obtain ⟨p16, o16, hA15, hx12⟩ := pre_iaddrR H Try.underlying31 TF.sz3 0 rfl he16
        refine tPg 10 rfl rfl rfl rfl rfl rfl hf (by kernel_rfl) (fun _ => hS) (fun w => rq_iaddrE hf rfl rfl rfl hx12 w) fun a hf => ?_
        refine tSg 11 [] rfl rfl rfl rfl rfl rfl hf (by kernel_rfl) (by kernel_rfl) hS (fun w H => rq_loadRow (off := 0) hf H TF.ls3 0 rfl rfl hA15 he16 (fun w T cs h => by obtain rfl := h; rfl)) fun a hf => ?_
        refine zg 12 hf hS fun a hf => ?_
        refine zg 13 hf hS fun a hf => ?_
        refine iteB hGc10 (fun hc11 hGc10 => ?_) fun hc11 hGc10 => ?_
        ·have hf := hf.lit 92 rfl hc11
         refine zU 14 hf hS fun a hf => ?_
         refine zU 15 hf hS fun a hf => ?_
         refine zU 16 hf hS fun a hf => ?_
         refine zU 17 hf hS fun a hf => ?_
         refine zU 18 hf hS fun a hf => ?_
         refine zU 19 hf hS fun a hf => ?_
         refine zU 20 hf hS fun a hf => ?_
         refine zU 21 hf hS fun a hf => ?_
         refine zU 22 hf hS fun a hf => ?_
         refine zU 23 hf hS fun a hf => ?_
         refine zU 24 hf hS fun a hf => ?_
         refine zU 25 hf hS fun a hf => ?_
         refine zU 26 hf hS fun a hf => ?_
         refine zU 27 hf hS fun a hf => ?_
         refine zg 28 hf hS fun a hf => ?_
         refine zp 29 hf hS fun a hf => ?_
         refine dk ?_
         obtain rfl := oi hGc10
         have hf := hf.pn [108, 2, 5, 7, 8, 9]
         have H := H.lt_ [true, true] [true] [] [0, 1]
         exact ⟨hf, H⟩
        ·have hf := hf.lit 92 rfl hc11
         refine zg 14 hf hS fun a hf => ?_
         refine zg 15 hf hS fun a hf => ?_
         refine tSg 16 [] rfl rfl rfl rfl rfl rfl hf (by kernel_rfl) (by kernel_rfl) hS (fun w H => rq_loadB hf H TF.ls3 0 rfl rfl rfl) fun a hf => ?_
         obtain ⟨e17, he17, hGc10⟩ := bs_ hGc10
         obtain ⟨p17, o17, hA16, hx13⟩ := pre_iaddrR H Try.underlying31 TF.sz3 0 rfl he17
         refine tPg 17 rfl rfl rfl rfl rfl rfl hf (by kernel_rfl) (fun _ => hS) (fun w => rq_iaddrE hf rfl rfl rfl hx13 w) fun a hf => ?_
         refine tSg 18 [] rfl rfl rfl rfl rfl rfl hf (by kernel_rfl) (by kernel_rfl) hS (fun w H => rq_loadRow (off := 0) hf H TF.ls3 0 rfl rfl hA16 he17 (fun w T cs h => by obtain rfl := h; rfl)) fun a hf => ?_
         refine zg 19 hf hS fun a hf => ?_
         refine tSg 20 [] rfl rfl rfl rfl rfl rfl hf (by kernel_rfl) (by kernel_rfl) hS (fun w H => rq_loadB hf H TF.ls3 0 rfl rfl rfl) fun a hf => ?_
         refine zg 21 hf hS fun a hf => ?_
         refine zg 22 hf hS fun a hf => ?_
         refine zg 23 hf hS fun a hf => ?_
         refine tSg 24 [] rfl rfl rfl rfl rfl rfl hf (by kernel_rfl) (by kernel_rfl) hS (fun w H => rq_loadB hf H TF.ls3 0 rfl rfl rfl) fun a hf => ?_
         obtain ⟨e18, he18, hGc10⟩ := bs_ hGc10
         obtain ⟨p18, o18, hA17, hx14⟩ := pre_iaddrR H Try.underlying31 TF.sz3 0 rfl he18
         refine tPg 25 rfl rfl rfl rfl rfl rfl hf (by kernel_rfl) (fun _ => hS) (fun w => rq_iaddrE hf rfl rfl rfl hx14 w) fun a hf => ?_
         refine tSg 26 [] rfl rfl rfl rfl rfl rfl hf (by kernel_rfl) (by kernel_rfl) hS (fun w H => rq_loadRow (off := 0) hf H TF.ls3 0 rfl rfl hA17 he18 (fun w T cs h => by obtain rfl := h; rfl)) fun a hf => ?_
         refine zg 27 hf hS fun a hf => ?_
         refine zg 28 hf hS fun a hf => ?_
         refine zp 29 hf hS fun a hf => ?_
         refine dk ?_
         obtain rfl := oi hGc10
         have hf := hf.pn [108, 2, 5, 7, 8, 9]
         have H := H.lt_ [true, true] [true] [] [0, 1]
         exact ⟨hf, H⟩
       ·have hf := hf.lit 85 rfl hc10
        refine zU 7 hf hS fun a hf => ?_
        refine zU 8 hf hS fun a hf => ?_
        refine zU 9 hf hS fun a hf => ?_
        refine zU 10 hf hS fun a hf => ?_
        refine zU 11 hf hS fun a hf => ?_
        refine zU 12 hf hS fun a hf => ?_
        refine zU 13 hf hS fun a hf => ?_
        refine zV 14 hf hS fun a hf => ?_
        refine zV 15 hf hS fun a hf => ?_
        refine zV 16 hf hS fun a hf => ?_
        refine zV 17 hf hS fun a hf => ?_
        refine zV 18 hf hS fun a hf => ?_
        refine zV 19 hf hS fun a hf => ?_
        refine zV 20 hf hS fun a hf => ?_
        refine zV 21 hf hS fun a hf => ?_
        refine zV 22 hf hS fun a hf => ?_
        refine zV 23 hf hS fun a hf => ?_
        refine zV 24 hf hS fun a hf => ?_
        refine zV 25 hf hS fun a hf => ?_
        refine zV 26 hf hS fun a hf => ?_
        refine zV 27 hf hS fun a hf => ?_
        refine zU 28 hf hS fun a hf => ?_
        refine zp 29 hf hS fun a hf => ?_
        refine dk ?_
        obtain rfl := oi hGc10
        have hf := hf.pn [108, 2, 5, 7, 8, 9]
        have H := H.lt_ [true, true] [true] [] [0, 1]
        exact ⟨hf, H⟩
      refine then_n (ib hR2 hf (fun hc12 hR2 => ?_) fun hc12 hR2 => ?_)
      ·refine sq (dw [12] 13 fun w hb => ?_)
       have H := H.keep hb
       refine zp 0 hf trivial fun a hf => ?_
       refine zp 1 hf trivial fun a hf => ?_
       refine strT (H.lt_ [true, false] [false] [] []) (fun w H => trivial) fun hS => ?_
       refine zS 2 [2, 11, 12] rfl rfl rfl rfl hf hS (fun w H => rq_loadB hf H TF.ls3 0 rfl rfl rfl) fun a hf => ?_
       refine zp 3 hf hS fun a hf => ?_
       refine zp 4 hf hS fun a hf => ?_
       refine zS 5 [5, 6, 7, 10, 11, 12] rfl rfl rfl rfl hf hS (fun w H => rq_loadB hf H TF.ls3 0 rfl rfl rfl) fun a hf => ?_
       obtain ⟨e19, he19, hR2⟩ := bs_ hR2
       obtain ⟨p19, o19, hA18, hx15⟩ := pre_iaddrR H Try.underlying31 TF.sz3 0 rfl he19
       refine zP 6 rfl rfl rfl rfl hf hS (fun w => rq_iaddrE hf rfl rfl rfl hx15 w) fun a hf => ?_
       refine strT (H.lt_ [true, false] [true] [] []) (fun w H => H.lt_ [true] [false] [] []) fun hS => ?_
       refine zS 7 [7, 10, 11, 12] rfl rfl rfl rfl hf hS (fun w H => rq_loadRow (off := 0) hf H TF.ls3 0 rfl rfl hA18 he19 (fun w T cs h => by obtain rfl := h; rfl)) fun a hf => ?_
       refine zp 8 hf hS fun a hf => ?_
       refine zS 9 [9, 10, 11, 12] rfl rfl rfl rfl hf hS (fun w H => rq_loadB hf H TF.ls3 0 rfl rfl rfl) fun a hf => ?_
       refine zp 10 hf hS fun a hf => ?_
       obtain ⟨e20, he20, hR2⟩ := bs_ hR2
       refine nn 11 rfl (op_iaddrR hf H Try.underlying31 TF.sz3 0 rfl rfl rfl he20 (by decide) fun p20 o20 cs5 a hf hA19 hr5 hk4 => ?_)
       obtain rfl := hr5
       have hS := H.lt_ [true, false] [true] [] []
       refine aS hS ?_
       refine nn 12 rfl (op_storeR (e' := w64 (e19 + e2.Length)) (o := o20) (off := 0) hf H TF.sz3 0 rfl rfl rfl rfl rfl (nle rfl) rfl hA19 he20 (st_full rfl) fun w H => ?_)
       replace hf : Fr a 122 [(2, (.pointer (some ⟨b', 0, none⟩))), (5, (.slice A9 out6.length c7)), (8, (.int .i64 i3)), (9, (.pointer (some ⟨b2, 0, none⟩))), (109, (.slice A9 out6.length c7)), (110, (.pointer (some ⟨b2, 0, none⟩))), (111, (.int .i64 e2.A)), (112, (.slice A9 out6.length c7)), (113, (.pointer (some ⟨b2, 1, none⟩))), (114, (.int .i64 e2.B)), (115, (.pointer (some ⟨p19, o19 + 0, none⟩))), (116, (.int .i64 e19)), (117, (.pointer (some ⟨b2, 2, none⟩))), (118, (.int .i64 e2.Length)), (119, (.int .i64 (w64 (e19 + e2.Length)))), (120, (.pointer (some ⟨p20, o20 + 0, none⟩)))] := hf.prune [2, 5, 8, 9, 109, 110, 111, 112, 113, 114, 115, 116, 117, 118, 119, 120] rfl
       replace hf : Fr a 122 [(2, (.pointer (some ⟨b', 0, none⟩))), (5, (.slice A9 (out6.set (e2.A : Int).toNat (w64 (e19 + e2.Length))).length c7)), (8, (.int .i64 i3)), (9, (.pointer (some ⟨b2, 0, none⟩))), (109, (.slice A9 (out6.set (e2.A : Int).toNat (w64 (e19 + e2.Length))).length c7)), (110, (.pointer (some ⟨b2, 0, none⟩))), (111, (.int .i64 e2.A)), (112, (.slice A9 (out6.set (e2.A : Int).toNat (w64 (e19 + e2.Length))).length c7)), (113, (.pointer (some ⟨b2, 1, none⟩))), (114, (.int .i64 e2.B)), (115, (.pointer (some ⟨p19, o19 + 0, none⟩))), (116, (.int .i64 e19)), (117, (.pointer (some ⟨b2, 2, none⟩))), (118, (.int .i64 e2.Length)), (119, (.int .i64 (w64 (e19 + e2.Length)))), (120, (.pointer (some ⟨p20, o20 + 0, none⟩)))] := by simpa only [List.length_set, Nat.add_zero] using hf
       refine ⟨fun h => absurd h (by decide), ?_⟩
       refine dk ?_
       have hf := hf.pn [2, 5, 8]
       refine then_n (reg (pz 1 hf fun a hf => ?_))
       refine wl_end (blk_n (then_n (reg (pz 3 hf fun a hf => ?_))))
       refine wl_end ?_
       have hf := hf.pn [2, 5, 7, 8]
       have H := H.lt_ [false, true] [true] [] [0, 1]
       exact then_n ⟨(out6.set (e2.A : Int).toNat (w64 (e19 + e2.Length)), true, w64 (i3 + 1)), hR2, A9, c7, E5, hf, H⟩
      ·refine wp_skip (blk_n (then_n (reg (pz 3 hf fun a hf => ?_))))
       refine wl_end ?_
       have hf := hf.pn [2, 5, 7, 8]
       have H := H.lt_ [false, true] [true] [] [0, 1]
       exact then_n ⟨(out6, more2, w64 (i3 + 1)), hR2, A9, c7, E5, hf, H⟩
    ·refine wp_exit (then_x (then_x (blk_e (?_))))
     have hf := hf.pn [2, 5, 7, 8]
     have H := H.lt_ [true] [true] [] [0, 1]
     exact ⟨(out6, more2, i3), (Option.some.inj hR2).symm, A9, c7, E5, hf, H⟩
   rintro a w ⟨⟨out8, more3, i4⟩, rfl, A10, c11, E6, hf, H⟩
   try dsimp only at hR1
   refine blk_n ?_
   have hf := hf.pn [2, 5, 7]
   have H := H.lt_ [true] [true] [] [0, 1]
   exact then_n ⟨(out8, more3), hR1, A10, c11, E6, hf, H⟩
  ·refine wp_exit (then_x (then_x (blk_e (?_))))
   have hf := hf.pn [2, 5, 7]
   have H := H.lt_ [true] [true] [] [0, 1]
   exact ⟨(out4, more), (Option.some.inj hR1).symm, A8, c6, E4, hf, H⟩
 rintro a w ⟨⟨out9, more4⟩, rfl, A11, c12, E7, hf, H⟩
 try dsimp only at hF
 refine then_n (sqz (pz 2 hf fun a hf => ?_))
 refine wer ?_
 have H := H.rowOwn 0 rfl rfl
 obtain ⟨F, H⟩ := H.freezeOwn 0 rfl
 have H := H.lend 0 rfl
 obtain rfl := oi hF
 refine rT hf ?_
 have hN := H.ends1
 exact ⟨_, rfl, H.bel, F, (mko_list (H.ownAt 0 rfl)), by first | exact hN | simpa using hN⟩
theorem spec_l19Connect_ok {S : Nat → Prop} {v0_ : Value} {v1_ : Value} {v2_ : Value} {n' : Network} {sites : List Int} {reach : Int} {r : Bool} (h0 : VR w0 S v0_ n') (h1 : VR w0 S v1_ sites) (h2 : VR w0 S v2_ reach) (hF : spec_l19Connect fu n' sites reach = some r) :
    Calls Try.prog 89 [v0_, v1_, v2_].toArray w0 fun e w' => ∃ v, e = .returned v ∧ (Below w0.heap.size w0 w' ∧ VR w' (St ⟨w0, []⟩ S [] [] [] true) v r) := by
 obtain ⟨A, c, A2, c2, rfl, hl, hl2⟩ := Network_open h0
 obtain ⟨A3, c3, rfl, hl3⟩ := VR_list h1
 obtain rfl := VR_int h2
 have H := Mem.start ⟨w0, []⟩ S
 have H := H.pA hl
 have H := H.pA hl2
 have H := H.pA hl3
 refine en Try.func89 fun a hf => ?_
 rw [spec_l19Connect] at hF
 refine bx hf H fun b' a w hf H => ?_
 refine pz 1 hf fun a hf => ?_
 refine wr (pz 1 hf fun a hf => ?_)
 refine lB 0 hf H TF.ls24 fun a hf => ?_
 refine pz 2 hf fun a hf => ?_
 refine wr (wl0 rfl (bl hf H 31 ([] : List (List Int)) [] el0 fun A4 a w hf H => ?_))
 refine pz 1 hf fun a hf => ?_
 refine we (sqz (pz 1 hf fun a hf => ?_))
 refine wl_end (then_n ?_)
 obtain ⟨out', hB1, hF⟩ := bs_ hF
 have hf := hf.pn [1, 2, 3, 7, 8, 9]
 have H := H.lt_ [true] [true] [] [0, 1, 2]
 refine loopC (fun (s : List (List Int) × Int) (a : Act) (w : World) => match s with | (far, a') => ∃ (A5 : Option Addr) (c4 : Nat) (E : Go.TypeId), Fr a 101 [(1, (.slice A3 sites.length c3)), (2, (.int .i64 reach)), (3, (.pointer (some ⟨b', 0, none⟩))), (7, (.int .i64 (n'.Nodes.length : Int))), (8, (.slice A5 far.length c4)), (9, (.int .i64 a'))] ∧ Mem ⟨w0, []⟩ S [⟨b', 27, [(.slice A n'.Nodes.length c), (.slice A2 n'.Fibers.length c2)]⟩] [⟨.sh true, E, A5, c4, (far : List (List Int))⟩] [] [(false, MP.val [(.slice A3 sites.length c3)] (sites : List Int)), (false, MP.val [(.slice A2 n'.Fibers.length c2)] (n'.Fibers : List Fiber)), (false, MP.val [(.slice A n'.Nodes.length c)] (n'.Nodes : List ByteArray))] w) (fun k (s : List (List Int) × Int) => spec_l19Connect_L1 fu n' k s.1 s.2 = some out') (fun s => out' = s) (([] : List (List Int)), 0) fu hB1 ⟨A4, 0, 31, hf, H⟩ (fun s h => by cases h) ?_ ?_
 ·rintro fk ⟨far, a'⟩ a w hR1 hI
  replace hR1 : spec_l19Connect_L1 fu n' (fk + 1) far a' = some out' := hR1
  rw [spec_l19Connect_L1] at hR1
  obtain ⟨A5, c4, E, hf, H⟩ := hI
  refine sq (sqz (pz 3 hf fun a hf => ?_))
  refine wl_end (then_n (ib hR1 hf (fun hc hR1 => ?_) fun hc hR1 => ?_))
  ·refine wp_skip (then_n (sq (wp_block (reg (pz 1 hf fun a hf => ?_)))))
   refine lN 0 hf H TF.la27 fun a hf => ?_
   refine pz 1 hf fun a hf => ?_
   obtain ⟨y, hy, hR1⟩ := bs_ hR1
   refine oc hf TF.cl119 (spec_l19From_ok (S := TT) (Network_mkv (x := n') (H.rt 2 rfl) (H.rt 1 rfl)) mk_int hy) fun v w a hp hf => ?_
   obtain ⟨hb, F, hp2, hN⟩ := hp
   obtain ⟨A6, c5, rfl, hl4⟩ := VO_list hp2
   have H := H.aO1 hb hN hl4
   have H := H.lend 0 rfl
   refine wl0 rfl (bl hf H 31 ([y] : List (List Int)) [(.slice A6 y.length c5)] (el1 (y := y) (H.get 0 rfl)) fun A7 a w hf H => ?_)
   obtain ⟨l, hl_, hR1⟩ := bs_ hR1
   refine wl0 rfl (op_appR hf H Try.underlying139 TF.ai31 rfl (by decide) 1 0 rfl rfl rfl rfl (.inr rfl) hl_ (by decide) fun E2 A8 c6 a w hf H => ?_)
   refine pz 1 hf fun a hf => ?_
   refine wl_end (blk_n (then_n (reg (pz 3 hf fun a hf => ?_))))
   refine wl_end ?_
   have hf := hf.pn [1, 2, 3, 7, 8, 9]
   have H := H.lt_ [true] [false, true] [false] [1, 2, 3]
   exact then_n ⟨(l, w64 (a' + 1)), hR1, A8, c6, E2, hf, H⟩
  ·refine wp_exit (then_x (then_x (blk_e (?_))))
   have hf := hf.pn [1, 2, 3, 7, 8, 9]
   have H := H.lt_ [true] [true] [] [0, 1, 2]
   exact ⟨(far, a'), (Option.some.inj hR1).symm, A5, c4, E, hf, H⟩
 rintro a w ⟨⟨far2, a2⟩, rfl, A9, c7, E3, hf, H⟩
 try dsimp only at hF
 refine then_n (sq (sqz (pz 1 hf fun a hf => ?_)))
 refine wl_end (then_n ?_)
 obtain ⟨out2, hB1, hF⟩ := bs_ hF
 have hf := hf.pn [1, 2, 7, 8, 10]
 have H := H.lt_ [false] [true] [] [0]
 refine loopC (fun (s : Int) (a : Act) (w : World) => match s with | a3 => Fr a 101 [(1, (.slice A3 sites.length c3)), (2, (.int .i64 reach)), (7, (.int .i64 (n'.Nodes.length : Int))), (8, (.slice A9 far2.length c7)), (10, (.int .i64 a3))] ∧ Mem ⟨w0, []⟩ S [] [⟨.sh true, E3, A9, c7, (far2 : List (List Int))⟩] [] [(false, MP.val [(.slice A3 sites.length c3)] (sites : List Int))] w) (fun k (s : Int) => spec_l19Connect_L2 fu n' sites reach far2 k s = some out2) (fun s => out2 = Out.next s) 0 fu hB1 ⟨hf, H⟩ (fun s h => by cases h) ?_ ?_
 ·rintro fk a3 a w hR1 hI
  replace hR1 : spec_l19Connect_L2 fu n' sites reach far2 (fk + 1) a3 = some out2 := hR1
  rw [spec_l19Connect_L2] at hR1
  obtain ⟨hf, H⟩ := hI
  refine sq (sqz (pz 3 hf fun a hf => ?_))
  refine wl_end (then_n (ib hR1 hf (fun hc2 hR1 => ?_) fun hc2 hR1 => ?_))
  ·refine ws (pz 1 hf fun a hf => ?_)
   refine wl0 rfl (bl hf H 3 ([a3] : List Int) [(.int .i64 a3)] (el1 (y := a3) (rfl)) fun A10 a w hf H => ?_)
   refine pz 1 hf fun a hf => ?_
   refine we (sqz (pz 1 hf fun a hf => ?_))
   refine wl_end (then_n ?_)
   obtain ⟨out3, hB2, hR1⟩ := bs_ hR1
   have hf := hf.pn [1, 2, 7, 8, 10, 11, 12]
   have H := H.lt_ [] [true, true] [] [0]
   refine loopC (fun (s : List Int × Int) (a : Act) (w : World) => match s with | (seen, i) => ∃ (A11 : Option Addr) (c8 : Nat) (E4 : Go.TypeId), Fr a 101 [(1, (.slice A3 sites.length c3)), (2, (.int .i64 reach)), (7, (.int .i64 (n'.Nodes.length : Int))), (8, (.slice A9 far2.length c7)), (10, (.int .i64 a3)), (11, (.slice A11 seen.length c8)), (12, (.int .i64 i))] ∧ Mem ⟨w0, []⟩ S [] [⟨.sh true, E4, A11, c8, (seen : List Int)⟩, ⟨.sh true, E3, A9, c7, (far2 : List (List Int))⟩] [] [(false, MP.val [(.slice A3 sites.length c3)] (sites : List Int))] w) (fun k (s : List Int × Int) => spec_l19Connect_L3 fu n' sites reach far2 k s.1 s.2 = some out3) (fun s => out3 = s) ([a3], 0) fu hB2 ⟨A10, 1, 3, hf, H⟩ (fun s h => by cases h) ?_ ?_
   ·rintro fk ⟨seen, i⟩ a w hR2 hI
    replace hR2 : spec_l19Connect_L3 fu n' sites reach far2 (fk + 1) seen i = some out3 := hR2
    rw [spec_l19Connect_L3] at hR2
    obtain ⟨A11, c8, E4, hf, H⟩ := hI
    refine sq (sqz (pz 4 hf fun a hf => ?_))
    refine wl_end (then_n (ib hR2 hf (fun hc3 hR2 => ?_) fun hc3 hR2 => ?_))
    ·refine ws (pz 1 hf fun a hf => ?_)
     refine wl_end (then_n ?_)
     obtain ⟨out4, hB3, hR2⟩ := bs_ hR2
     have hf := hf.pn [1, 2, 7, 8, 10, 11, 12, 13]
     have H := H.lt_ [] [true, true] [] [0]
     refine loopC (fun (s : List Int × Int) (a : Act) (w : World) => match s with | (seen2, b2) => ∃ (A12 : Option Addr) (c9 : Nat) (E5 : Go.TypeId), Fr a 101 [(1, (.slice A3 sites.length c3)), (2, (.int .i64 reach)), (7, (.int .i64 (n'.Nodes.length : Int))), (8, (.slice A9 far2.length c7)), (10, (.int .i64 a3)), (11, (.slice A12 seen2.length c9)), (12, (.int .i64 i)), (13, (.int .i64 b2))] ∧ Mem ⟨w0, []⟩ S [] [⟨.sh true, E5, A12, c9, (seen2 : List Int)⟩, ⟨.sh true, E3, A9, c7, (far2 : List (List Int))⟩] [] [(false, MP.val [(.slice A3 sites.length c3)] (sites : List Int))] w) (fun k (s : List Int × Int) => spec_l19Connect_L4 fu n' sites reach far2 i k s.1 s.2 = some out4) (fun s => out4 = s) (seen, 0) fu hB3 ⟨A11, c8, E4, hf, H⟩ (fun s h => by cases h) ?_ ?_
     ·rintro fk ⟨seen2, b2⟩ a w hR3 hI
      replace hR3 : spec_l19Connect_L4 fu n' sites reach far2 i (fk + 1) seen2 b2 = some out4 := hR3
      rw [spec_l19Connect_L4] at hR3
      obtain ⟨A12, c9, E5, hf, H⟩ := hI
      refine sq (sqz (pz 3 hf fun a hf => ?_))
      refine wl_end (then_n (ib hR3 hf (fun hc4 hR3 => ?_) fun hc4 hR3 => ?_))
      ·refine wp_skip (then_n (sq (wp_block (sq ?_))))
       obtain ⟨c10, hGc10, hR3⟩ := bs_ hR3
       have fh := hf.prune [1, 2, 7, 8, 10, 11, 12, 13] rfl
       have Hm := H.lt_ [] [true, true] [] [0]
       refine midF 77 (.bool c10) fh Hm ?_ fun a w hf H => ?_
       ·refine reg (pz 3 hf fun a hf => ?_)
        refine iteB hGc10 (fun hc5 hGc10 => ?_) fun hc5 hGc10 => ?_
        ·have hf := hf.lit 50 rfl hc5
         refine pz 10 hf fun a hf => ?_
         obtain ⟨y2, hy2, hGc10⟩ := bs_ hGc10
         refine wlg hf rfl rfl rfl (oC hf TF.cl65 (spec_l1Has_ok (S := TT) (mk_list (H.rowTrue 0 rfl)) mk_int hy2) fun v2 w a hp3 hf => ?_)
         obtain ⟨hb2, hp3⟩ := hp3
         obtain rfl := VR_bool hp3
         have H := H.keep hb2
         refine pz 3 hf fun a hf => ?_
         refine iteB hGc10 (fun hc6 hGc10 => ?_) fun hc6 hGc10 => ?_
         ·have hf := hf.lit 64 rfl hc6
          refine pz 3 hf fun a hf => ?_
          obtain ⟨e, he, hGc10⟩ := bs_ hGc10
          refine wlg hf rfl rfl rfl (op_iaddrR hf H Try.underlying31 TF.sz3 0 rfl rfl rfl he (by decide) fun p o cs a hf hA hr hk => ?_)
          obtain rfl := hr
          refine wlg hf rfl rfl rfl (op_q hf (rq_load1 hf TF.ls3 rfl (hk 0 _ rfl)) rfl (by decide) fun a hf => ?_)
          obtain ⟨e2, he2, hGc10⟩ := bs_ hGc10
          refine wlg hf rfl rfl rfl (op_iaddrR hf H Try.underlying139 TF.sz31 1 rfl rfl rfl he2 (by decide) fun p2 o2 cs2 a hf hA2 hr2 hk2 => ?_)
          obtain ⟨A13, c11, rfl, hl5⟩ := list_cells hr2
          have H := H.pT hl5
          refine wlg hf rfl rfl rfl (op_q hf (rq_load1 hf TF.ls31 rfl (hk2 0 _ rfl)) rfl (by decide) fun a hf => ?_)
          refine pz 1 hf fun a hf => ?_
          obtain ⟨e3, he3, hGc10⟩ := bs_ hGc10
          refine wlg hf rfl rfl rfl (op_iaddr hf H Try.underlying31 TF.sz3 0 rfl rfl rfl he3 (by decide) fun p3 o3 cs3 a hf hr3 H => ?_)
          obtain rfl := hr3
          refine wlg hf rfl rfl rfl (op_q hf (rq_loadI hf H TF.ls3 0 0 rfl rfl rfl) rfl (by decide) fun a hf => ?_)
          refine pz 1 hf fun a hf => ?_
          obtain ⟨y3, hy3, hGc10⟩ := bs_ hGc10
          refine wlg hf rfl rfl rfl (oC hf TF.cl43 (spec_l1In_ok (S := TT) mk_int mk_int mk_int hy3) fun v3 w a hp4 hf => ?_)
          obtain ⟨hb3, hp4⟩ := hp4
          obtain rfl := VR_bool hp4
          have H := H.keep hb3
          refine pz 1 hf fun a hf => ?_
          obtain rfl := oi hGc10
          have hf := hf.pn [77, 1, 2, 7, 8, 10, 11, 12, 13]
          have H := H.lt_ [] [true, true] [] [2]
          exact wl_end ⟨hf, H⟩
         ·have hf := hf.lit 64 rfl hc6
          refine pz 13 hf fun a hf => ?_
          obtain rfl := oi hGc10
          have hf := hf.pn [77, 1, 2, 7, 8, 10, 11, 12, 13]
          have H := H.lt_ [] [true, true] [] [0]
          exact wl_end ⟨hf, H⟩
        ·have hf := hf.lit 50 rfl hc5
         refine pz 3 hf fun a hf => ?_
         obtain ⟨e4, he4, hGc10⟩ := bs_ hGc10
         refine wlg hf rfl rfl rfl (op_iaddrR hf H Try.underlying31 TF.sz3 0 rfl rfl rfl he4 (by decide) fun p4 o4 cs4 a hf hA3 hr4 hk3 => ?_)
         obtain rfl := hr4
         refine wlg hf rfl rfl rfl (op_q hf (rq_load1 hf TF.ls3 rfl (hk3 0 _ rfl)) rfl (by decide) fun a hf => ?_)
         obtain ⟨y4, hy4, hGc10⟩ := bs_ hGc10
         refine wlg hf rfl rfl rfl (oC hf TF.cl65 (spec_l1Has_ok (S := TT) (mk_list (H.rt 0 rfl)) mk_int hy4) fun v4 w a hp5 hf => ?_)
         obtain ⟨hb4, hp5⟩ := hp5
         obtain rfl := VR_bool hp5
         have H := H.keep hb4
         refine pz 2 hf fun a hf => ?_
         refine iteB hGc10 (fun hc7 hGc10 => ?_) fun hc7 hGc10 => ?_
         ·have hf := hf.lit 58 rfl hc7
          refine pz 2 hf fun a hf => ?_
          obtain ⟨y5, hy5, hGc10⟩ := bs_ hGc10
          refine wlg hf rfl rfl rfl (oC hf TF.cl65 (spec_l1Has_ok (S := TT) (mk_list (H.rowTrue 0 rfl)) mk_int hy5) fun v5 w a hp6 hf => ?_)
          obtain ⟨hb5, hp6⟩ := hp6
          obtain rfl := VR_bool hp6
          have H := H.keep hb5
          refine pz 3 hf fun a hf => ?_
          refine iteB hGc10 (fun hc8 hGc10 => ?_) fun hc8 hGc10 => ?_
          ·have hf := hf.lit 64 rfl hc8
           refine pz 3 hf fun a hf => ?_
           obtain ⟨e5, he5, hGc10⟩ := bs_ hGc10
           refine wlg hf rfl rfl rfl (op_iaddrR hf H Try.underlying31 TF.sz3 0 rfl rfl rfl he5 (by decide) fun p5 o5 cs5 a hf hA4 hr5 hk4 => ?_)
           obtain rfl := hr5
           refine wlg hf rfl rfl rfl (op_q hf (rq_load1 hf TF.ls3 rfl (hk4 0 _ rfl)) rfl (by decide) fun a hf => ?_)
           obtain ⟨e6, he6, hGc10⟩ := bs_ hGc10
           refine wlg hf rfl rfl rfl (op_iaddrR hf H Try.underlying139 TF.sz31 1 rfl rfl rfl he6 (by decide) fun p6 o6 cs6 a hf hA5 hr6 hk5 => ?_)
           obtain ⟨A14, c12, rfl, hl6⟩ := list_cells hr6
           have H := H.pT hl6
           refine wlg hf rfl rfl rfl (op_q hf (rq_load1 hf TF.ls31 rfl (hk5 0 _ rfl)) rfl (by decide) fun a hf => ?_)
           refine pz 1 hf fun a hf => ?_
           obtain ⟨e7, he7, hGc10⟩ := bs_ hGc10
           refine wlg hf rfl rfl rfl (op_iaddr hf H Try.underlying31 TF.sz3 0 rfl rfl rfl he7 (by decide) fun p7 o7 cs7 a hf hr7 H => ?_)
           obtain rfl := hr7
           refine wlg hf rfl rfl rfl (op_q hf (rq_loadI hf H TF.ls3 0 0 rfl rfl rfl) rfl (by decide) fun a hf => ?_)
           refine pz 1 hf fun a hf => ?_
           obtain ⟨y6, hy6, hGc10⟩ := bs_ hGc10
           refine wlg hf rfl rfl rfl (oC hf TF.cl43 (spec_l1In_ok (S := TT) mk_int mk_int mk_int hy6) fun v6 w a hp7 hf => ?_)
           obtain ⟨hb6, hp7⟩ := hp7
           obtain rfl := VR_bool hp7
           have H := H.keep hb6
           refine pz 1 hf fun a hf => ?_
           obtain rfl := oi hGc10
           have hf := hf.pn [77, 1, 2, 7, 8, 10, 11, 12, 13]
           have H := H.lt_ [] [true, true] [] [2]
           exact wl_end ⟨hf, H⟩
          ·have hf := hf.lit 64 rfl hc8
           refine pz 13 hf fun a hf => ?_
           obtain rfl := oi hGc10
           have hf := hf.pn [77, 1, 2, 7, 8, 10, 11, 12, 13]
           have H := H.lt_ [] [true, true] [] [0]
           exact wl_end ⟨hf, H⟩
         ·have hf := hf.lit 58 rfl hc7
          refine pz 19 hf fun a hf => ?_
          obtain rfl := oi hGc10
          have hf := hf.pn [77, 1, 2, 7, 8, 10, 11, 12, 13]
          have H := H.lt_ [] [true, true] [] [0]
          exact wl_end ⟨hf, H⟩
       refine then_n (ib hR3 hf (fun hc9 hR3 => ?_) fun hc9 hR3 => ?_)
       ·refine reg (pz 2 hf fun a hf => ?_)
        refine wl0 rfl (bl hf H 3 ([b2] : List Int) [(.int .i64 b2)] (el1 (y := b2) (rfl)) fun A15 a w hf H => ?_)
        obtain ⟨l2, hl2_, hR3⟩ := bs_ hR3
        refine wl0 rfl (op_appR hf H Try.underlying31 TF.ai3 rfl (by decide) 1 0 rfl rfl rfl rfl (.inr rfl) hl2_ (by decide) fun E6 A16 c13 a w hf H => ?_)
        refine pz 1 hf fun a hf => ?_
        refine wl_end (blk_n (then_n (reg (pz 3 hf fun a hf => ?_))))
        refine wl_end ?_
        have hf := hf.pn [1, 2, 7, 8, 10, 11, 12, 13]
        have H := H.lt_ [] [false, true, true] [] [0]
        exact then_n ⟨(l2, w64 (b2 + 1)), hR3, A16, c13, E6, hf, H⟩
       ·refine wp_skip (blk_n (then_n (reg (pz 3 hf fun a hf => ?_))))
        refine wl_end ?_
        have hf := hf.pn [1, 2, 7, 8, 10, 11, 12, 13]
        have H := H.lt_ [] [true, true] [] [0]
        exact then_n ⟨(seen2, w64 (b2 + 1)), hR3, A12, c9, E5, hf, H⟩
      ·refine wp_exit (then_x (then_x (blk_e (?_))))
       have hf := hf.pn [1, 2, 7, 8, 10, 11, 12, 13]
       have H := H.lt_ [] [true, true] [] [0]
       exact ⟨(seen2, b2), (Option.some.inj hR3).symm, A12, c9, E5, hf, H⟩
     rintro a w ⟨⟨seen3, b3⟩, rfl, A17, c14, E7, hf, H⟩
     try dsimp only at hR2
     refine blk_n (then_n (reg (pz 3 hf fun a hf => ?_)))
     refine wl_end ?_
     have hf := hf.pn [1, 2, 7, 8, 10, 11, 12]
     have H := H.lt_ [] [true, true] [] [0]
     exact then_n ⟨(seen3, w64 (i + 1)), hR2, A17, c14, E7, hf, H⟩
    ·refine wp_exit (then_x (then_x (blk_e (?_))))
     have hf := hf.pn [1, 2, 7, 8, 10, 11, 12]
     have H := H.lt_ [] [true, true] [] [0]
     exact ⟨(seen, i), (Option.some.inj hR2).symm, A11, c8, E4, hf, H⟩
   rintro a w ⟨⟨seen4, i2⟩, rfl, A18, c15, E8, hf, H⟩
   try dsimp only at hR1
   refine then_n (sqz (pz 1 hf fun a hf => ?_))
   refine wl_end (then_n ?_)
   obtain ⟨out5, hB2, hR1⟩ := bs_ hR1
   have hf := hf.pn [1, 2, 7, 8, 10, 11, 14]
   have H := H.lt_ [] [true, true] [] [0]
   refine loopC (fun (s : Int) (a : Act) (w : World) => match s with | b4 => Fr a 101 [(1, (.slice A3 sites.length c3)), (2, (.int .i64 reach)), (7, (.int .i64 (n'.Nodes.length : Int))), (8, (.slice A9 far2.length c7)), (10, (.int .i64 a3)), (11, (.slice A18 seen4.length c15)), (14, (.int .i64 b4))] ∧ Mem ⟨w0, []⟩ S [] [⟨.sh true, E8, A18, c15, (seen4 : List Int)⟩, ⟨.sh true, E3, A9, c7, (far2 : List (List Int))⟩] [] [(false, MP.val [(.slice A3 sites.length c3)] (sites : List Int))] w) (fun k (s : Int) => spec_l19Connect_L5 fu n' far2 seen4 a3 k s = some out5) (fun s => out5 = Out.next s) 0 fu hB2 ⟨hf, H⟩ (fun s h => by cases h) ?_ ?_
   ·rintro fk b4 a w hR2 hI
    replace hR2 : spec_l19Connect_L5 fu n' far2 seen4 a3 (fk + 1) b4 = some out5 := hR2
    rw [spec_l19Connect_L5] at hR2
    obtain ⟨hf, H⟩ := hI
    refine sq (sqz (pz 3 hf fun a hf => ?_))
    refine wl_end (then_n (ib hR2 hf (fun hc10 hR2 => ?_) fun hc10 hR2 => ?_))
    ·refine wp_skip (then_n (sq (wp_block (sq ?_))))
     obtain ⟨c16, hGc16, hR2⟩ := bs_ hR2
     have fh2 := hf.prune [1, 2, 7, 8, 10, 11, 14] rfl
     have Hm2 := H.lt_ [] [true, true] [] [0]
     refine midF 100 (.bool c16) fh2 Hm2 ?_ fun a w hf H => ?_
     ·refine reg (pz 2 hf fun a hf => ?_)
      obtain ⟨e8, he8, hGc16⟩ := bs_ hGc16
      refine wl0 rfl (op_iaddrR hf H Try.underlying139 TF.sz31 1 rfl rfl rfl he8 (by decide) fun p8 o8 cs8 a hf hA6 hr8 hk6 => ?_)
      obtain ⟨A19, c17, rfl, hl7⟩ := list_cells hr8
      have H := H.pT hl7
      refine oq hf (rq_load1 hf TF.ls31 rfl (hk6 0 _ rfl)) fun a hf => ?_
      refine pz 1 hf fun a hf => ?_
      obtain ⟨e9, he9, hGc16⟩ := bs_ hGc16
      refine wl0 rfl (op_iaddr hf H Try.underlying31 TF.sz3 0 rfl rfl rfl he9 (by decide) fun p9 o9 cs9 a hf hr9 H => ?_)
      obtain rfl := hr9
      refine oq hf (rq_loadI hf H TF.ls3 0 0 rfl rfl rfl) fun a hf => ?_
      refine pz 2 hf fun a hf => ?_
      refine iteB hGc16 (fun hc11 hGc16 => ?_) fun hc11 hGc16 => ?_
      ·have hf := hf.lit 95 rfl hc11
       refine pz 2 hf fun a hf => ?_
       obtain ⟨y7, hy7, hGc16⟩ := bs_ hGc16
       refine wlg hf rfl rfl rfl (oC hf TF.cl65 (spec_l1Has_ok (S := TT) (mk_list (H.rowTrue 0 rfl)) mk_int hy7) fun v7 w a hp8 hf => ?_)
       obtain ⟨hb7, hp8⟩ := hp8
       obtain rfl := VR_bool hp8
       have H := H.keep hb7
       refine pz 2 hf fun a hf => ?_
       obtain rfl := oi hGc16
       have hf := hf.pn [100, 1, 2, 7, 8, 10, 11, 14]
       have H := H.lt_ [] [true, true] [] [2]
       exact wl_end ⟨hf, H⟩
      ·have hf := hf.lit 95 rfl hc11
       refine pz 5 hf fun a hf => ?_
       obtain rfl := oi hGc16
       have hf := hf.pn [100, 1, 2, 7, 8, 10, 11, 14]
       have H := H.lt_ [] [true, true] [] [2]
       exact wl_end ⟨hf, H⟩
     refine then_n (ib hR2 hf (fun hc12 hR2 => ?_) fun hc12 hR2 => ?_)
     ·refine sqz (pz 1 hf fun a hf => ?_)
      refine wl_end (then_n (wp_ret (blk_r (then_r (then_r (blk_r (then_r (blk_r (then_r (then_r (blk_r (then_r (then_r (?_))))))))))))))
      obtain rfl := oi hR2
      replace hR1 := on_ret hR1
      obtain rfl := oi hR1
      replace hF := on_ret hF
      obtain rfl := oi hF
      refine rT hf ?_
      exact ⟨_, rfl, H.bel, mk_bool⟩
     ·refine wp_skip (blk_n (then_n (reg (pz 3 hf fun a hf => ?_))))
      refine wl_end ?_
      have hf := hf.pn [1, 2, 7, 8, 10, 11, 14]
      have H := H.lt_ [] [true, true] [] [0]
      exact then_n ⟨w64 (b4 + 1), hR2, hf, H⟩
    ·refine wp_exit (then_x (then_x (blk_e (?_))))
     have hf := hf.pn [1, 2, 7, 8, 10, 11, 14]
     have H := H.lt_ [] [true, true] [] [0]
     exact ⟨b4, (Option.some.inj hR2).symm, hf, H⟩
   rintro a w ⟨b5, rfl, hf, H⟩
   replace hR1 := on_next hR1
   refine blk_n (then_n (reg (pz 3 hf fun a hf => ?_)))
   refine wl_end ?_
   have hf := hf.pn [1, 2, 7, 8, 10]
   have H := H.lt_ [] [false, true] [] [0]
   exact then_n ⟨w64 (a3 + 1), hR1, hf, H⟩
  ·refine wp_exit (then_x (then_x (blk_e (?_))))
   have hf := hf.pn [1, 2, 7, 8, 10]
   have H := H.lt_ [] [true] [] [0]
   exact ⟨a3, (Option.some.inj hR1).symm, hf, H⟩
 rintro a w ⟨a4, rfl, hf, H⟩
 replace hF := on_next hF
 refine then_n (sqz (pz 1 hf fun a hf => ?_))
 refine wer ?_
 obtain rfl := oi hF
 refine rT hf ?_
 exact ⟨_, rfl, H.bel, mk_bool⟩
theorem spec_l1Own_ok {S : Nat → Prop} {v0_ : Value} {l : List Int} {r : List Int} (h0 : VR w0 S v0_ l) (hF : spec_l1Own fu l = some r) :
    Calls Try.prog 66 [v0_].toArray w0 fun e w' => ∃ v, e = .returned v ∧ (Below w0.heap.size w0 w' ∧ ∃ F0, VO w' F0 v r ∧ New w0 w' F0) := by
 obtain ⟨A, c, rfl, hl⟩ := VR_list h0
 have H := Mem.start ⟨w0, []⟩ S
 have H := H.pA hl
 refine en Try.func66 fun a hf => ?_
 rw [spec_l1Own] at hF
 refine sqz (pz 1 hf fun a hf => ?_)
 refine wr (wl0 rfl (bl hf H 3 ([] : List Int) [] el0 fun A2 a w hf H => ?_))
 refine pz 1 hf fun a hf => ?_
 obtain ⟨l2, hl2_, hF⟩ := bs_ hF
 have H := H.rowWeak 0 rfl
 refine wl0 rfl (op_appI hf H Try.underlying31 TF.ai3 rfl (by decide) 0 0 rfl rfl rfl rfl (.inl rfl) hl2_ (by decide) fun E A3 c2 a w hf H => ?_)
 have H := H.rowOwn 0 rfl rfl
 have H := H.rowSh 0 rfl
 refine pz 1 hf fun a hf => ?_
 refine wer ?_
 have H := H.rowOwn 0 rfl rfl
 obtain ⟨F, H⟩ := H.freezeOwn 0 rfl
 have H := H.lend 0 rfl
 obtain rfl := oi hF
 refine rT hf ?_
 have hN := H.ends1
 exact ⟨_, rfl, H.bel, F, (mko_list (H.ownAt 0 rfl)), by first | exact hN | simpa using hN⟩
theorem spec_l19Choose_B_ok {fu : Nat} {rec_ : (Network) → (Int) → (List Int) → (Int) → (Int) → Option (List Int × Bool)} (ih : ∀ {w0 : World} {S : Nat → Prop} {v0_ : Value} {v1_ : Value} {v2_ : Value} {v3_ : Value} {v4_ : Value} {n' : Network} {reach : Int} {sites : List Int} {from' : Int} {k' : Int} {r : List Int × Bool} (h0 : VR w0 S v0_ n') (h1 : VR w0 S v1_ reach) (h2 : VR w0 S v2_ sites) (h3 : VR w0 S v3_ from') (h4 : VR w0 S v4_ k') (hF : rec_ n' reach sites from' k' = some r), Calls Try.prog 52 [v0_, v1_, v2_, v3_, v4_].toArray w0 fun e w' => ∃ v, e = .returned v ∧ (Below w0.heap.size w0 w' ∧ ∃ u0 u1, v = .tuple #[u0, u1] ∧ (VR w' (St ⟨w0, []⟩ S [] [] [] true) u0 r.1 ∨ (u0 = v2_ ∧ r.1 = sites)) ∧ VR w' (St ⟨w0, []⟩ S [] [] [] true) u1 r.2)) {w0 : World} {S : Nat → Prop} {v0_ : Value} {v1_ : Value} {v2_ : Value} {v3_ : Value} {v4_ : Value} {n' : Network} {reach : Int} {sites : List Int} {from' : Int} {k' : Int} {r : List Int × Bool} (h0 : VR w0 S v0_ n') (h1 : VR w0 S v1_ reach) (h2 : VR w0 S v2_ sites) (h3 : VR w0 S v3_ from') (h4 : VR w0 S v4_ k') (hF : spec_l19Choose_B fu rec_ n' reach sites from' k' = some r) :
    Calls Try.prog 52 [v0_, v1_, v2_, v3_, v4_].toArray w0 fun e w' => ∃ v, e = .returned v ∧ (Below w0.heap.size w0 w' ∧ ∃ u0 u1, v = .tuple #[u0, u1] ∧ (VR w' (St ⟨w0, []⟩ S [] [] [] true) u0 r.1 ∨ (u0 = v2_ ∧ r.1 = sites)) ∧ VR w' (St ⟨w0, []⟩ S [] [] [] true) u1 r.2) := by
 obtain ⟨A, c, A2, c2, rfl, hl, hl2⟩ := Network_open h0
 obtain rfl := VR_int h1
 obtain ⟨A3, c3, rfl, hl3⟩ := VR_list h2
 obtain rfl := VR_int h3
 obtain rfl := VR_int h4
 have H := Mem.start ⟨w0, []⟩ S
 have H := H.pA hl
 have H := H.pA hl2
 have H := H.pA hl3
 refine en Try.func52 fun a hf => ?_
 rw [spec_l19Choose_B] at hF
 refine bx hf H fun b' a w hf H => ?_
 refine pz 2 hf fun a hf => ?_
 refine we (sqz (pz 2 hf fun a hf => ?_))
 refine wl_end (then_n (ib hF hf (fun hc hF => ?_) fun hc hF => ?_))
 ·refine sqz (pz 1 hf fun a hf => ?_)
  refine lN 0 hf H TF.la27 fun a hf => ?_
  refine pz 2 hf fun a hf => ?_
  obtain ⟨y, hy, hF⟩ := bs_ hF
  refine oc hf TF.cl89 (spec_l19Connect_ok (S := TT) (Network_mkv (x := n') (H.rt 2 rfl) (H.rt 1 rfl)) (mk_list (H.rt 0 rfl)) mk_int hy) fun v w a hp hf => ?_
  obtain ⟨hb, hp⟩ := hp
  obtain rfl := VR_bool hp
  have H := H.keep hb
  refine pz 2 hf fun a hf => ?_
  have hf := hf.pn [10, 11]
  refine wl_end (then_n (wp_ret (then_r (?_))))
  obtain rfl := oi hF
  refine ret_2 hf rfl (rv_tmp hf rfl) (rv_tmp hf rfl) ?_
  exact ⟨_, rfl, H.bel, _, _, rfl, (.inr ⟨rfl, rfl⟩), mk_bool⟩
 ·refine wp_skip (then_n (sq (sqz (pz 2 hf fun a hf => ?_))))
  refine wl_end (then_n ?_)
  obtain ⟨out', hB1, hF⟩ := bs_ hF
  have hf := hf.pn [1, 2, 4, 5, 12]
  have H := H.lt_ [true] [] [] [0, 1, 2]
  refine loopC (fun (s : Int) (a : Act) (w : World) => match s with | i => Fr a 50 [(1, (.int .i64 reach)), (2, (.slice A3 sites.length c3)), (4, (.int .i64 k')), (5, (.pointer (some ⟨b', 0, none⟩))), (12, (.int .i64 i))] ∧ Mem ⟨w0, []⟩ S [⟨b', 27, [(.slice A n'.Nodes.length c), (.slice A2 n'.Fibers.length c2)]⟩] [] [] [(false, MP.val [(.slice A3 sites.length c3)] (sites : List Int)), (false, MP.val [(.slice A2 n'.Fibers.length c2)] (n'.Fibers : List Fiber)), (false, MP.val [(.slice A n'.Nodes.length c)] (n'.Nodes : List ByteArray))] w) (fun k (s : Int) => spec_l19Choose_L1 fu n' reach sites k' rec_ k s = some out') (fun s => out' = Out.next s) from' fu hB1 ⟨hf, H⟩ (fun s h => by cases h) ?_ ?_
  ·rintro fk i a w hR1 hI
   replace hR1 : spec_l19Choose_L1 fu n' reach sites k' rec_ (fk + 1) i = some out' := hR1
   rw [spec_l19Choose_L1] at hR1
   obtain ⟨hf, H⟩ := hI
   refine sq (sqz (pz 4 hf fun a hf => ?_))
   refine lB 0 hf H TF.ls24 fun a hf => ?_
   refine pz 2 hf fun a hf => ?_
   refine wl_end (then_n (ib hR1 hf (fun hc2 hR1 => ?_) fun hc2 hR1 => ?_))
   ·refine wp_skip (then_n (sq (wp_block (sq ?_))))
    obtain ⟨y2, hy2, hR1⟩ := bs_ hR1
    obtain ⟨l, hl_, hR1⟩ := bs_ hR1
    obtain ⟨y3, hy3, hR1⟩ := bs_ hR1
    refine mid (fun a w => ∃ (A7 : Option Addr) (c6 : Nat), Fr a 50 [(1, (.int .i64 reach)), (2, (.slice A3 sites.length c3)), (4, (.int .i64 k')), (5, (.pointer (some ⟨b', 0, none⟩))), (12, (.int .i64 i)), (13, (.slice A7 y3.1.length c6)), (14, (.bool y3.2))] ∧ Mem ⟨w0, []⟩ S [⟨b', 27, [(.slice A n'.Nodes.length c), (.slice A2 n'.Fibers.length c2)]⟩] [] [] [(true, MP.val [(.slice A7 y3.1.length c6)] (y3.1 : List Int)), (false, MP.val [(.slice A3 sites.length c3)] (sites : List Int)), (false, MP.val [(.slice A2 n'.Fibers.length c2)] (n'.Fibers : List Fiber)), (false, MP.val [(.slice A n'.Nodes.length c)] (n'.Nodes : List ByteArray))] w) ?_ ?_
    ·refine dw [] 17 fun w hb => ?_
     have H := H.keep hb
     refine strT (H.lt_ [true] [] [] []) (fun w H => trivial) fun hS => ?_
     refine zS 0 [] rfl rfl rfl rfl hf hS (fun w H => rq_loadBN hf H TF.la27 0 rfl rfl rfl rfl) fun a hf => ?_
     refine zp 1 hf hS fun a hf => ?_
     refine zp 2 hf hS fun a hf => ?_
     refine zp 4 hf hS fun a hf => ?_
     refine zp 7 hf hS fun a hf => ?_
     refine zp 8 hf hS fun a hf => ?_
     refine zp 9 hf hS fun a hf => ?_
     refine zp 10 hf hS fun a hf => ?_
     refine on2 (i := 3) (j := 5) (bi := [true, true, true, true, true, false, false, true, true, true, true, false, false, false, false, false, false]) (bj := [true, true, true, false, true, true, false, true, true, true, true, false, false, false, false, false, false]) (by kernel_rfl) rfl rfl rfl rfl rfl rfl ?_ ?_
     ·refine (oC hf TF.cl66 (spec_l1Own_ok (S := TT) (mk_list (H.rt 0 rfl)) hy2) fun v2 w a hp2 hf => ?_)
      obtain ⟨hb2, F, hp3, hN⟩ := hp2
      obtain ⟨A4, c4, rfl, hl4⟩ := VO_list hp3
      have H := H.aO1 hb2 hN hl4
      have H := H.lend 0 rfl
      have hS := H.lt_ [true] [] [false] []
      refine aS hS ?_
      refine nn 5 rfl (bl hf H 3 ([i] : List Int) [(.int .i64 i)] (el1 (y := i) (rfl)) fun A5 a w hf H => ?_)
      have hS := H.lt_ [true] [false] [false] []
      refine aS hS ?_
      obtain ⟨Fs, E, H, -⟩ := H.thaw rfl
      have H := H.rowSh 0 rfl
      have H := H.pA hl
      have H := H.pA hl2
      have H := H.pA hl3
      refine nn 6 rfl (op_appR hf H Try.underlying31 TF.ai3 rfl (by decide) 0 1 rfl rfl rfl rfl (.inr rfl) hl_ (by decide) fun E2 A6 c5 a w hf H => ?_)
      have hS := H.lt_ [true] [false, false] [] []
      refine aS hS ?_
      have H := H.freeze 0 rfl
      refine nn 11 rfl (oC hf TF.cl52 (ih (S := TT) (Network_mkv (x := n') (H.rt 3 rfl) (H.rt 2 rfl)) mk_int (mk_list (H.rt 0 rfl)) mk_int mk_int hy3) fun v3 w a hp4 hf => ?_)
      obtain ⟨hb3, v4, v5, rfl, hp5, hp6⟩ := hp4
      replace hp5 := H.thru hb3 0 rfl hp5
      obtain ⟨A7, c6, rfl, hl5⟩ := VR_list hp5
      obtain rfl := VR_bool hp6
      have H := H.keep hb3
      have H := H.pT hl5
      have hS := H.lt_ [true] [false] [] []
      refine aS hS ?_
      refine zp 12 hf hS fun a hf => ?_
      refine zp 13 hf hS fun a hf => ?_
      refine zp 14 hf hS fun a hf => ?_
      refine zp 15 hf hS fun a hf => ?_
      refine zp 16 hf hS fun a hf => ?_
      refine dk ?_
      have hf := hf.pn [1, 2, 4, 5, 12, 13, 14]
      have H := H.lt_ [true] [false] [] [0, 2, 3, 4]
      exact ⟨A7, c6, hf, H⟩
     ·refine (bl hf H 3 ([i] : List Int) [(.int .i64 i)] (el1 (y := i) (rfl)) fun A4 a w hf H => ?_)
      have hS := H.lt_ [true] [false] [] []
      refine aS hS ?_
      refine nn 3 rfl (oC hf TF.cl66 (spec_l1Own_ok (S := TT) (mk_list (H.rt 0 rfl)) hy2) fun v2 w a hp2 hf => ?_)
      obtain ⟨hb2, F, hp3, hN⟩ := hp2
      obtain ⟨A5, c4, rfl, hl4⟩ := VO_list hp3
      have H := H.aO1 hb2 hN hl4
      have H := H.lend 0 rfl
      have hS := H.lt_ [true] [false] [false] []
      refine aS hS ?_
      obtain ⟨Fs, E, H, -⟩ := H.thaw rfl
      have H := H.rowSh 0 rfl
      have H := H.pA hl
      have H := H.pA hl2
      have H := H.pA hl3
      refine nn 6 rfl (op_appR hf H Try.underlying31 TF.ai3 rfl (by decide) 0 1 rfl rfl rfl rfl (.inr rfl) hl_ (by decide) fun E2 A6 c5 a w hf H => ?_)
      have hS := H.lt_ [true] [false, false] [] []
      refine aS hS ?_
      have H := H.freeze 0 rfl
      refine nn 11 rfl (oC hf TF.cl52 (ih (S := TT) (Network_mkv (x := n') (H.rt 3 rfl) (H.rt 2 rfl)) mk_int (mk_list (H.rt 0 rfl)) mk_int mk_int hy3) fun v3 w a hp4 hf => ?_)
      obtain ⟨hb3, v4, v5, rfl, hp5, hp6⟩ := hp4
      replace hp5 := H.thru hb3 0 rfl hp5
      obtain ⟨A7, c6, rfl, hl5⟩ := VR_list hp5
      obtain rfl := VR_bool hp6
      have H := H.keep hb3
      have H := H.pT hl5
      have hS := H.lt_ [true] [false] [] []
      refine aS hS ?_
      refine zp 12 hf hS fun a hf => ?_
      refine zp 13 hf hS fun a hf => ?_
      refine zp 14 hf hS fun a hf => ?_
      refine zp 15 hf hS fun a hf => ?_
      refine zp 16 hf hS fun a hf => ?_
      refine dk ?_
      have hf := hf.pn [1, 2, 4, 5, 12, 13, 14]
      have H := H.lt_ [true] [false] [] [0, 2, 3, 4]
      exact ⟨A7, c6, hf, H⟩
    rintro a w ⟨A7, c6, hf, H⟩
    refine then_n (sqz (pz 1 hf fun a hf => ?_))
    refine wl_end (then_n (ib hR1 hf (fun hc3 hR1 => ?_) fun hc3 hR1 => ?_))
    ·refine sqz (pz 3 hf fun a hf => ?_)
     refine wl_end (then_n (wp_ret (blk_r (then_r (then_r (blk_r (then_r (then_r (?_)))))))))
     obtain rfl := oi hR1
     replace hF := on_ret hF
     obtain rfl := oi hF
     refine ret_2 hf rfl (rv_tmp hf rfl) (rv_tmp hf rfl) ?_
     exact ⟨_, rfl, H.bel, _, _, rfl, (.inl (mk_list (rep_end (α := List Int) (H.get 0 rfl)))), mk_bool⟩
    ·refine wp_skip (blk_n (then_n (reg (pz 3 hf fun a hf => ?_))))
     refine wl_end ?_
     have hf := hf.pn [1, 2, 4, 5, 12]
     have H := H.lt_ [true] [] [] [1, 2, 3]
     exact then_n ⟨w64 (i + 1), hR1, hf, H⟩
   ·refine wp_exit (then_x (then_x (blk_e (?_))))
    have hf := hf.pn [1, 2, 4, 5, 12]
    have H := H.lt_ [true] [] [] [0, 1, 2]
    exact ⟨i, (Option.some.inj hR1).symm, hf, H⟩
  rintro a w ⟨i2, rfl, hf, H⟩
  replace hF := on_next hF
  refine then_n (sq (reg (wl0 rfl (bl hf H 3 ([] : List Int) [] el0 fun A8 a w hf H => ?_))))
  refine pz 2 hf fun a hf => ?_
  refine wer ?_
  have H := H.freeze 0 rfl
  obtain rfl := oi hF
  refine ret_2 hf rfl (rv_tmp hf rfl) (rv_tmp hf rfl) ?_
  exact ⟨_, rfl, H.bel, _, _, rfl, (.inl (mk_list (rep_end (α := List Int) (H.get 0 rfl)))), mk_bool⟩
theorem spec_l19Choose_ok {fu : Nat} : ∀ {w0 : World} {S : Nat → Prop} {v0_ : Value} {v1_ : Value} {v2_ : Value} {v3_ : Value} {v4_ : Value} {n' : Network} {reach : Int} {sites : List Int} {from' : Int} {k' : Int} {r : List Int × Bool} (h0 : VR w0 S v0_ n') (h1 : VR w0 S v1_ reach) (h2 : VR w0 S v2_ sites) (h3 : VR w0 S v3_ from') (h4 : VR w0 S v4_ k') (hF : spec_l19Choose fu n' reach sites from' k' = some r), Calls Try.prog 52 [v0_, v1_, v2_, v3_, v4_].toArray w0 fun e w' => ∃ v, e = .returned v ∧ (Below w0.heap.size w0 w' ∧ ∃ u0 u1, v = .tuple #[u0, u1] ∧ (VR w' (St ⟨w0, []⟩ S [] [] [] true) u0 r.1 ∨ (u0 = v2_ ∧ r.1 = sites)) ∧ VR w' (St ⟨w0, []⟩ S [] [] [] true) u1 r.2) := by
  induction fu with
  | zero => intro w0 S v0_ v1_ v2_ v3_ v4_ n' reach sites from' k' r h0 h1 h2 h3 h4 hF; rw [spec_l19Choose] at hF; cases hF
  | succ fu ih => intro w0 S v0_ v1_ v2_ v3_ v4_ n' reach sites from' k' r h0 h1 h2 h3 h4 hF; rw [spec_l19Choose] at hF; exact spec_l19Choose_B_ok (rec_ := fun n' reach sites from' k' => spec_l19Choose fu n' reach sites from' k') (fun h0 h1 h2 h3 h4 hF => ih h0 h1 h2 h3 h4 hF) h0 h1 h2 h3 h4 hF
theorem spec_FewestSites_ok {S : Nat → Prop} {v0_ : Value} {v1_ : Value} {n' : Network} {reach : Int} {r : List Int × Bool × Bool} (h0 : VR w0 S v0_ n') (h1 : VR w0 S v1_ reach) (hF : spec_FewestSites fu n' reach = some r) :
    Calls Try.prog 20 [v0_, v1_].toArray w0 fun e w' => ∃ v, e = .returned v ∧ (Below w0.heap.size w0 w' ∧ ∃ u0 u1 u2, v = .tuple #[u0, u1, u2] ∧ VR w' (St ⟨w0, []⟩ S [] [] [] true) u0 r.1 ∧ VR w' (St ⟨w0, []⟩ S [] [] [] true) u1 r.2.1 ∧ VR w' (St ⟨w0, []⟩ S [] [] [] true) u2 r.2.2) := by
 obtain ⟨A, c, A2, c2, rfl, hl, hl2⟩ := Network_open h0
 obtain rfl := VR_int h1
 have H := Mem.start ⟨w0, []⟩ S
 have H := H.pA hl
 have H := H.pA hl2
 refine en Try.func20 fun a hf => ?_
 rw [spec_FewestSites] at hF
 refine bx hf H fun b' a w hf H => ?_
 refine pz 3 hf fun a hf => ?_
 refine wl_end (then_n (sq (sq ?_)))
 obtain ⟨c3, hGc3, hF⟩ := bs_ hF
 have fh := hf.prune [1, 2] rfl
 have Hm := H.lt_ [true] [] [] [0, 1]
 refine midF 17 (.bool c3) fh Hm ?_ fun a w hf H => ?_
 ·refine reg (lN 0 hf H TF.la27 fun a hf => ?_)
  obtain ⟨y, hy, hGc3⟩ := bs_ hGc3
  refine oc hf TF.cl51 (spec_l2Good_ok (S := TT) (Network_mkv (x := n') (H.rt 1 rfl) (H.rt 0 rfl)) hy) fun v w a hp hf => ?_
  obtain ⟨hb, hp⟩ := hp
  obtain rfl := VR_bool hp
  have H := H.keep hb
  refine pz 2 hf fun a hf => ?_
  refine iteB hGc3 (fun hc hGc3 => ?_) fun hc hGc3 => ?_
  ·have hf := hf.lit 13 rfl hc
   refine pz 4 hf fun a hf => ?_
   obtain rfl := oi hGc3
   have hf := hf.pn [17, 1, 2]
   have H := H.lt_ [true] [] [] [0, 1]
   exact wl_end ⟨hf, H⟩
  ·have hf := hf.lit 13 rfl hc
   refine pz 1 hf fun a hf => ?_
   obtain ⟨y2, hy2, hGc3⟩ := bs_ hGc3
   refine wlg hf rfl rfl rfl (oC hf TF.cl43 (spec_l1In_ok (S := TT) mk_int mk_int mk_int hy2) fun v2 w a hp2 hf => ?_)
   obtain ⟨hb2, hp2⟩ := hp2
   obtain rfl := VR_bool hp2
   have H := H.keep hb2
   refine pz 2 hf fun a hf => ?_
   obtain rfl := oi hGc3
   have hf := hf.pn [17, 1, 2]
   have H := H.lt_ [true] [] [] [0, 1]
   exact wl_end ⟨hf, H⟩
 refine then_n (ib hF hf (fun hc2 hF => ?_) fun hc2 hF => ?_)
 ·refine sq (reg (wl0 rfl (bl hf H 3 ([] : List Int) [] el0 fun A3 a w hf H => ?_)))
  refine pz 3 hf fun a hf => ?_
  refine wl_end (then_n (wp_ret (then_r (?_))))
  have H := H.freeze 0 rfl
  obtain rfl := oi hF
  refine ret_3 hf rfl (rv_tmp hf rfl) (rv_tmp hf rfl) (rv_tmp hf rfl) ?_
  exact ⟨_, rfl, H.bel, _, _, _, rfl, (mk_list (rep_end (α := List Int) (H.get 0 rfl))), mk_bool, mk_bool⟩
 ·refine wp_skip (then_n (sq (sqz (pz 1 hf fun a hf => ?_))))
  refine wl_end (then_n ?_)
  obtain ⟨out', hB1, hF⟩ := bs_ hF
  have hf := hf.pn [1, 2, 7]
  have H := H.lt_ [true] [] [] [0, 1]
  refine loopC (fun (s : Int) (a : Act) (w : World) => match s with | k' => Fr a 37 [(1, (.int .i64 reach)), (2, (.pointer (some ⟨b', 0, none⟩))), (7, (.int .i64 k'))] ∧ Mem ⟨w0, []⟩ S [⟨b', 27, [(.slice A n'.Nodes.length c), (.slice A2 n'.Fibers.length c2)]⟩] [] [] [(false, MP.val [(.slice A2 n'.Fibers.length c2)] (n'.Fibers : List Fiber)), (false, MP.val [(.slice A n'.Nodes.length c)] (n'.Nodes : List ByteArray))] w) (fun k (s : Int) => spec_FewestSites_L1 fu n' reach k s = some out') (fun s => out' = Out.next s) 0 fu hB1 ⟨hf, H⟩ (fun s h => by cases h) ?_ ?_
  ·rintro fk k' a w hR1 hI
   replace hR1 : spec_FewestSites_L1 fu n' reach (fk + 1) k' = some out' := hR1
   rw [spec_FewestSites_L1] at hR1
   obtain ⟨hf, H⟩ := hI
   refine sq (sqz (pz 2 hf fun a hf => ?_))
   refine lB 0 hf H TF.ls24 fun a hf => ?_
   refine pz 2 hf fun a hf => ?_
   refine wl_end (then_n (ib hR1 hf (fun hc3 hR1 => ?_) fun hc3 hR1 => ?_))
   ·refine ws (lN 0 hf H TF.la27 fun a hf => ?_)
    refine pz 1 hf fun a hf => ?_
    refine wl0 rfl (bl hf H 3 ([] : List Int) [] el0 fun A4 a w hf H => ?_)
    refine pz 1 hf fun a hf => ?_
    have H := H.freeze 0 rfl
    obtain ⟨y3, hy3, hR1⟩ := bs_ hR1
    refine oc hf TF.cl52 (spec_l19Choose_ok (S := TT) (Network_mkv (x := n') (H.rt 2 rfl) (H.rt 1 rfl)) mk_int (mk_list (H.rt 0 rfl)) mk_int mk_int hy3) fun v3 w a hp3 hf => ?_
    obtain ⟨hb3, v4, v5, rfl, hp4, hp5⟩ := hp3
    replace hp4 := H.thru hb3 0 rfl hp4
    obtain ⟨A5, c4, rfl, hl3⟩ := VR_list hp4
    obtain rfl := VR_bool hp5
    have H := H.keep hb3
    have H := H.pT hl3
    refine pz 5 hf fun a hf => ?_
    have hf := hf.pn [1, 2, 7, 8, 9]
    refine wr (pz 1 hf fun a hf => ?_)
    refine wl_end (then_n (ib hR1 hf (fun hc4 hR1 => ?_) fun hc4 hR1 => ?_))
    ·refine sqz (pz 4 hf fun a hf => ?_)
     refine wl_end (then_n (wp_ret (blk_r (then_r (then_r (blk_r (then_r (then_r (?_)))))))))
     obtain rfl := oi hR1
     replace hF := on_ret hF
     obtain rfl := oi hF
     refine ret_3 hf rfl (rv_tmp hf rfl) (rv_tmp hf rfl) (rv_tmp hf rfl) ?_
     exact ⟨_, rfl, H.bel, _, _, _, rfl, (mk_list (rep_end (α := List Int) (H.get 0 rfl))), mk_bool, mk_bool⟩
    ·refine wp_skip (blk_n (then_n (reg (pz 3 hf fun a hf => ?_))))
     refine wl_end ?_
     have hf := hf.pn [1, 2, 7]
     have H := H.lt_ [true] [] [] [2, 3]
     exact then_n ⟨w64 (k' + 1), hR1, hf, H⟩
   ·refine wp_exit (then_x (then_x (blk_e (?_))))
    have hf := hf.pn [1, 2, 7]
    have H := H.lt_ [true] [] [] [0, 1]
    exact ⟨k', (Option.some.inj hR1).symm, hf, H⟩
  rintro a w ⟨k2, rfl, hf, H⟩
  replace hF := on_next hF
  refine then_n (sq (reg (wl0 rfl (bl hf H 3 ([] : List Int) [] el0 fun A6 a w hf H => ?_))))
  refine pz 3 hf fun a hf => ?_
  refine wer ?_
  have H := H.freeze 0 rfl
  obtain rfl := oi hF
  refine ret_3 hf rfl (rv_tmp hf rfl) (rv_tmp hf rfl) (rv_tmp hf rfl) ?_
  exact ⟨_, rfl, H.bel, _, _, _, rfl, (mk_list (rep_end (α := List Int) (H.get 0 rfl))), mk_bool, mk_bool⟩
theorem impl_isSet_ok {S : Nat → Prop} {v0_ : Value} {v1_ : Value} {l : List Int} {n' : Int} {r : Bool} (h0 : VR w0 S v0_ l) (h1 : VR w0 S v1_ n') (hF : impl_isSet fu l n' = some r) :
    Calls Try.prog 35 [v0_, v1_].toArray w0 fun e w' => ∃ v, e = .returned v ∧ (Below w0.heap.size w0 w' ∧ VR w' (St ⟨w0, []⟩ S [] [] [] true) v r) := by
 obtain ⟨A, c, rfl, hl⟩ := VR_list h0
 obtain rfl := VR_int h1
 have H := Mem.start ⟨w0, []⟩ S
 have H := H.pA hl
 refine en Try.func35 fun a hf => ?_
 rw [impl_isSet] at hF
 refine sqz (pz 1 hf fun a hf => ?_)
 refine we (sqz (pz 3 hf fun a hf => ?_))
 refine wl_end (then_n ?_)
 obtain ⟨out', hB1, hF⟩ := bs_ hF
 have hf := hf.pn [0, 1, 7, 8, 9]
 have H := H.lt_ [] [] [] [0]
 refine loopC (fun (s : Int) (a : Act) (w : World) => match s with | i => Fr a 33 [(0, (.slice A l.length c)), (1, (.int .i64 n')), (7, (.slice A l.length c)), (8, (.int .i64 (l.length : Int))), (9, (.int .i64 i))] ∧ Mem ⟨w0, []⟩ S [] [] [] [(false, MP.val [(.slice A l.length c)] (l : List Int))] w) (fun k (s : Int) => impl_isSet_L1 fu l n' k s = some out') (fun s => out' = Out.next s) 0 fu hB1 ⟨hf, H⟩ (fun s h => by cases h) ?_ ?_
 ·rintro fk i a w hR1 hI
  replace hR1 : impl_isSet_L1 fu l n' (fk + 1) i = some out' := hR1
  rw [impl_isSet_L1] at hR1
  obtain ⟨hf, H⟩ := hI
  refine sqz (pz 1 hf fun a hf => ?_)
  refine wl_end (then_n (sq (ib hR1 hf (fun hc hR1 => ?_) fun hc hR1 => ?_)))
  ·refine ws (pz 1 hf fun a hf => ?_)
   obtain ⟨e, he, hR1⟩ := bs_ hR1
   refine wl0 rfl (op_iaddr hf H Try.underlying31 TF.sz3 0 rfl rfl rfl he (by decide) fun p o cs a hf hr H => ?_)
   obtain rfl := hr
   refine oq hf (rq_loadI hf H TF.ls3 0 0 rfl rfl rfl) fun a hf => ?_
   refine pz 2 hf fun a hf => ?_
   refine wl_end (then_n (sq ?_))
   obtain ⟨c2, hGc2, hR1⟩ := bs_ hR1
   have fh := hf.prune [0, 1, 7, 8, 9] rfl
   have Hm := H.lt_ [] [] [] [1]
   refine midF 31 (.bool c2) fh Hm ?_ fun a w hf H => ?_
   ·refine reg (pz 3 hf fun a hf => ?_)
    obtain ⟨y, hy, hGc2⟩ := bs_ hGc2
    refine oc hf TF.cl40 (impl_within_ok (S := TT) mk_int mk_int mk_int hy) fun v w a hp hf => ?_
    obtain ⟨hb, hp⟩ := hp
    obtain rfl := VR_bool hp
    have H := H.keep hb
    refine pz 2 hf fun a hf => ?_
    refine iteB hGc2 (fun hc2 hGc2 => ?_) fun hc2 hGc2 => ?_
    ·have hf := hf.lit 19 rfl hc2
     refine pz 3 hf fun a hf => ?_
     refine wlsu hf rfl rfl rfl rfl (by decide) fun a hf => ?_
     refine wlsu hf rfl rfl rfl rfl (by decide) fun a hf => ?_
     refine wlsu hf rfl rfl rfl rfl (by decide) fun a hf => ?_
     refine wlsu hf rfl rfl rfl rfl (by decide) fun a hf => ?_
     refine wlsu hf rfl rfl rfl rfl (by decide) fun a hf => ?_
     refine wlsu hf rfl rfl rfl rfl (by decide) fun a hf => ?_
     refine wlsu hf rfl rfl rfl rfl (by decide) fun a hf => ?_
     refine pz 2 hf fun a hf => ?_
     obtain rfl := oi hGc2
     have hf := hf.pn [31, 0, 1, 7, 8, 9]
     have H := H.lt_ [] [] [] [1]
     exact wl_end ⟨hf, H⟩
    ·have hf := hf.lit 19 rfl hc2
     refine pz 3 hf fun a hf => ?_
     refine iteB hGc2 (fun hc3 hGc2 => ?_) fun hc3 hGc2 => ?_
     ·have hf := hf.lit 22 rfl hc3
      refine pz 3 hf fun a hf => ?_
      obtain ⟨e2, he2, hGc2⟩ := bs_ hGc2
      refine wlg hf rfl rfl rfl (op_iaddr hf H Try.underlying31 TF.sz3 1 rfl rfl rfl he2 (by decide) fun p2 o2 cs2 a hf hr2 H => ?_)
      obtain rfl := hr2
      refine wlg hf rfl rfl rfl (op_q hf (rq_loadI hf H TF.ls3 0 0 rfl rfl rfl) rfl (by decide) fun a hf => ?_)
      refine pz 4 hf fun a hf => ?_
      obtain rfl := oi hGc2
      have hf := hf.pn [31, 0, 1, 7, 8, 9]
      have H := H.lt_ [] [] [] [2]
      exact wl_end ⟨hf, H⟩
     ·have hf := hf.lit 22 rfl hc3
      refine pz 9 hf fun a hf => ?_
      obtain rfl := oi hGc2
      have hf := hf.pn [31, 0, 1, 7, 8, 9]
      have H := H.lt_ [] [] [] [1]
      exact wl_end ⟨hf, H⟩
   refine then_n (ib hR1 hf (fun hc4 hR1 => ?_) fun hc4 hR1 => ?_)
   ·refine sqz (pz 1 hf fun a hf => ?_)
    refine wl_end (then_n (wp_ret (blk_r (then_r (then_r (blk_r (then_r (then_r (?_)))))))))
    obtain rfl := oi hR1
    replace hF := on_ret hF
    obtain rfl := oi hF
    refine rT hf ?_
    exact ⟨_, rfl, H.bel, mk_bool⟩
   ·refine wp_skip (blk_n (then_n (reg (pz 2 hf fun a hf => ?_))))
    refine wl_end ?_
    have hf := hf.pn [0, 1, 7, 8, 9]
    have H := H.lt_ [] [] [] [0]
    exact then_n ⟨w64 (i + 1), hR1, hf, H⟩
  ·refine wp_exit (then_x (then_x (blk_e (?_))))
   have hf := hf.pn [0, 1, 7, 8, 9]
   have H := H.lt_ [] [] [] [0]
   exact ⟨i, (Option.some.inj hR1).symm, hf, H⟩
 rintro a w ⟨i2, rfl, hf, H⟩
 replace hF := on_next hF
 refine then_n (sqz (pz 1 hf fun a hf => ?_))
 refine wer ?_
 obtain rfl := oi hF
 refine rT hf ?_
 exact ⟨_, rfl, H.bel, mk_bool⟩
theorem impl_SitesConnect_ok {S : Nat → Prop} {v0_ : Value} {v1_ : Value} {v2_ : Value} {n' : Network} {sites : List Int} {reach : Int} {r : Bool × Bool} (h0 : VR w0 S v0_ n') (h1 : VR w0 S v1_ sites) (h2 : VR w0 S v2_ reach) (hF : impl_SitesConnect fu n' sites reach = some r) :
    Calls Try.prog 21 [v0_, v1_, v2_].toArray w0 fun e w' => ∃ v, e = .returned v ∧ (Below w0.heap.size w0 w' ∧ ∃ u0 u1, v = .tuple #[u0, u1] ∧ VR w' (St ⟨w0, []⟩ S [] [] [] true) u0 r.1 ∧ VR w' (St ⟨w0, []⟩ S [] [] [] true) u1 r.2) := by
 obtain ⟨A, c, A2, c2, rfl, hl, hl2⟩ := Network_open h0
 obtain ⟨A3, c3, rfl, hl3⟩ := VR_list h1
 obtain rfl := VR_int h2
 have H := Mem.start ⟨w0, []⟩ S
 have H := H.pA hl
 have H := H.pA hl2
 have H := H.pA hl3
 refine en Try.func21 fun a hf => ?_
 rw [impl_SitesConnect] at hF
 refine bx hf H fun b' a w hf H => ?_
 refine pz 2 hf fun a hf => ?_
 refine wl_end (then_n (sq (sq ?_)))
 obtain ⟨c4, hGc4, hF⟩ := bs_ hF
 have fh := hf.prune [1, 2, 3] rfl
 have Hm := H.lt_ [true] [] [] [0, 1, 2]
 refine midF 23 (.bool c4) fh Hm ?_ fun a w hf H => ?_
 ·refine reg (lN 0 hf H TF.la27 fun a hf => ?_)
  obtain ⟨y, hy, hGc4⟩ := bs_ hGc4
  refine oc hf TF.cl47 (impl_IsValidNetwork_ok (S := TT) (Network_mkv (x := n') (H.rt 2 rfl) (H.rt 1 rfl)) hy) fun v w a hp hf => ?_
  obtain ⟨hb, hp⟩ := hp
  obtain rfl := VR_bool hp
  have H := H.keep hb
  refine pz 2 hf fun a hf => ?_
  refine iteB hGc4 (fun hc hGc4 => ?_) fun hc hGc4 => ?_
  ·have hf := hf.lit 11 rfl hc
   refine pz 12 hf fun a hf => ?_
   obtain rfl := oi hGc4
   have hf := hf.pn [23, 1, 2, 3]
   have H := H.lt_ [true] [] [] [0, 1, 2]
   exact wl_end ⟨hf, H⟩
  ·have hf := hf.lit 11 rfl hc
   refine pz 2 hf fun a hf => ?_
   refine wlg hf rfl rfl rfl (op_q hf (rq_loadB hf H TF.ls24 0 rfl rfl rfl) rfl (by decide) fun a hf => ?_)
   refine pz 1 hf fun a hf => ?_
   obtain ⟨y2, hy2, hGc4⟩ := bs_ hGc4
   refine wlg hf rfl rfl rfl (oC hf TF.cl35 (impl_isSet_ok (S := TT) (mk_list (H.rt 0 rfl)) mk_int hy2) fun v2 w a hp2 hf => ?_)
   obtain ⟨hb2, hp2⟩ := hp2
   obtain rfl := VR_bool hp2
   have H := H.keep hb2
   refine pz 3 hf fun a hf => ?_
   refine iteB hGc4 (fun hc2 hGc4 => ?_) fun hc2 hGc4 => ?_
   ·have hf := hf.lit 19 rfl hc2
    refine pz 4 hf fun a hf => ?_
    obtain rfl := oi hGc4
    have hf := hf.pn [23, 1, 2, 3]
    have H := H.lt_ [true] [] [] [0, 1, 2]
    exact wl_end ⟨hf, H⟩
   ·have hf := hf.lit 19 rfl hc2
    refine pz 1 hf fun a hf => ?_
    obtain ⟨y3, hy3, hGc4⟩ := bs_ hGc4
    refine wlg hf rfl rfl rfl (oC hf TF.cl40 (impl_within_ok (S := TT) mk_int mk_int mk_int hy3) fun v3 w a hp3 hf => ?_)
    obtain ⟨hb3, hp3⟩ := hp3
    obtain rfl := VR_bool hp3
    have H := H.keep hb3
    refine pz 2 hf fun a hf => ?_
    obtain rfl := oi hGc4
    have hf := hf.pn [23, 1, 2, 3]
    have H := H.lt_ [true] [] [] [0, 1, 2]
    exact wl_end ⟨hf, H⟩
 refine then_n (ib hF hf (fun hc3 hF => ?_) fun hc3 hF => ?_)
 ·refine sqz (pz 2 hf fun a hf => ?_)
  refine wl_end (then_n (wp_ret (then_r (?_))))
  obtain rfl := oi hF
  refine ret_2 hf rfl (rv_tmp hf rfl) (rv_tmp hf rfl) ?_
  exact ⟨_, rfl, H.bel, _, _, rfl, mk_bool, mk_bool⟩
 ·refine wp_skip (then_n (sq (reg (lN 0 hf H TF.la27 fun a hf => ?_))))
  refine pz 2 hf fun a hf => ?_
  obtain ⟨y4, hy4, hF⟩ := bs_ hF
  refine oc hf TF.cl50 (impl_sitesConnect_ok (S := TT) (Network_mkv (x := n') (H.rt 2 rfl) (H.rt 1 rfl)) (mk_list (H.rt 0 rfl)) mk_int hy4) fun v4 w a hp4 hf => ?_
  obtain ⟨hb4, hp4⟩ := hp4
  obtain rfl := VR_bool hp4
  have H := H.keep hb4
  refine pz 2 hf fun a hf => ?_
  refine wer ?_
  obtain rfl := oi hF
  refine ret_2 hf rfl (rv_tmp hf rfl) (rv_tmp hf rfl) ?_
  exact ⟨_, rfl, H.bel, _, _, rfl, mk_bool, mk_bool⟩
theorem laws_FnRegenerators_ok {S : Nat → Prop} {v0_ : Value} {code : List By} {r : Bool} (h0 : VR w0 S v0_ code) (hF : laws_FnRegenerators fu code = some r) :
    Calls Try.prog 4 [v0_].toArray w0 fun e w' => ∃ v, e = .returned v ∧ (Below w0.heap.size w0 w' ∧ VR w' (St ⟨w0, []⟩ S [] [] [] true) v r) := by
 obtain ⟨A, c, rfl, hl⟩ := VR_list h0
 have H := Mem.start ⟨w0, []⟩ S
 have H := H.pA hl
 refine en Try.func4 fun a hf => ?_
 rw [laws_FnRegenerators] at hF
 refine sqz (pz 1 hf fun a hf => ?_)
 refine we (sqz (pz 1 hf fun a hf => ?_))
 obtain ⟨y, hy, hF⟩ := bs_ hF
 refine oc hf TF.cl5 (laws_vBig_ok (S := TT) (mk_list (H.rt 0 rfl)) hy) fun v w a hp hf => ?_
 obtain ⟨hb, hp⟩ := hp
 obtain rfl := VR_bool hp
 have H := H.keep hb
 refine wl_end (then_n (ib hF hf (fun hc hF => ?_) fun hc hF => ?_))
 ·refine sqz (pz 1 hf fun a hf => ?_)
  refine wl_end (then_n (wp_ret (then_r (?_))))
  obtain rfl := oi hF
  refine rT hf ?_
  exact ⟨_, rfl, H.bel, mk_bool⟩
 ·refine wp_skip (then_n (sqz (pz 1 hf fun a hf => ?_)))
  obtain ⟨y2, hy2, hF⟩ := bs_ hF
  refine oc hf TF.cl12 (spec_DrawRegeneratorsFor_ok (S := TT) (mk_list (H.rt 0 rfl)) hy2) fun v2 w a hp2 hf => ?_
  obtain ⟨hb2, F, F2, v3, v4, v5, rfl, hp3, hp4, hp5, hN⟩ := hp2
  obtain ⟨A2, c2, F3, A3, c3, F4, rfl, rfl, hl2, hl3⟩ := Network_vo hp3
  obtain ⟨A4, c4, F5, rfl, rfl, hl4⟩ := Route_vo hp4
  obtain rfl := VR_int hp5
  have H := H.aO3 hb2 (by first | exact hN | simpa using hN) hl2 hl3 hl4
  have H := H.lend 0 rfl
  have H := H.lend 1 rfl
  have H := H.lend 2 rfl
  refine pz 4 hf fun a hf => ?_
  refine aL hf H TF.zv27 fun b' a w hf H => ?_
  refine aL hf H TF.zv40 fun b2 a w hf H => ?_
  refine sB 1 hf H TF.sz27 fun w H => ?_
  refine sB 0 hf H TF.sz40 fun w H => ?_
  refine pz 1 hf fun a hf => ?_
  refine wr (lN 1 hf H TF.la27 fun a hf => ?_)
  refine lN 0 hf H TF.la40 fun a hf => ?_
  refine pz 1 hf fun a hf => ?_
  obtain ⟨y3, hy3, hF⟩ := bs_ hF
  refine oc hf TF.cl13 (impl_RegeneratorsFor_ok (S := TT) (Network_mkv (x := y2.1) (H.rt 2 rfl) (H.rt 1 rfl)) (Route_mkv (x := y2.2.1) (H.rt 0 rfl)) mk_int hy3) fun v6 w a hp6 hf => ?_
  obtain ⟨hb3, F6, v7, v8, rfl, hp7, hp8, hN2⟩ := hp6
  obtain ⟨A5, c5, rfl, hl5⟩ := VO_list hp7
  obtain rfl := VR_bool hp8
  have H := H.aO1 hb3 hN2 hl5
  have H := H.lend 0 rfl
  refine pz 5 hf fun a hf => ?_
  have hf := hf.pn [0, 3, 4, 5, 6, 7]
  refine wr (lN 1 hf H TF.la27 fun a hf => ?_)
  refine lN 0 hf H TF.la40 fun a hf => ?_
  refine pz 1 hf fun a hf => ?_
  obtain ⟨y4, hy4, hF⟩ := bs_ hF
  refine oc hf TF.cl14 (spec_RegeneratorsFor_ok (S := TT) (Network_mkv (x := y2.1) (H.rt 3 rfl) (H.rt 2 rfl)) (Route_mkv (x := y2.2.1) (H.rt 1 rfl)) mk_int hy4) fun v9 w a hp9 hf => ?_
  obtain ⟨hb4, F8, v10, v11, rfl, hp10, hp11, hN3⟩ := hp9
  obtain ⟨A6, c6, rfl, hl6⟩ := VO_list hp10
  obtain rfl := VR_bool hp11
  have H := H.aO1 hb4 hN3 hl6
  have H := H.lend 0 rfl
  refine pz 5 hf fun a hf => ?_
  refine wl_end (then_n (sq (sq ?_)))
  obtain ⟨c7, hGc7, hF⟩ := bs_ hF
  have fh := hf.prune [0, 3, 4, 5, 6, 7] rfl
  have Hm := H.lt_ [true, true] [] [false, true, true, true, true] [1, 2, 3, 4, 5]
  refine midF 61 (.bool c7) fh Hm ?_ fun a w hf H => ?_
  ·refine reg (pz 4 hf fun a hf => ?_)
   refine iteB hGc7 (fun hc2 hGc7 => ?_) fun hc2 hGc7 => ?_
   ·have hf := hf.lit 56 rfl hc2
    refine pz 5 hf fun a hf => ?_
    obtain rfl := oi hGc7
    have hf := hf.pn [61, 0, 3, 4, 5, 6, 7]
    have H := H.lt_ [true, true] [] [false, true, true, true, true] [1, 2, 3, 4, 5]
    exact wl_end ⟨hf, H⟩
   ·have hf := hf.lit 56 rfl hc2
    refine pz 2 hf fun a hf => ?_
    obtain ⟨y5, hy5, hGc7⟩ := bs_ hGc7
    refine wlg hf rfl rfl rfl (oC hf TF.cl9 (laws_vInts_ok (S := TT) (mk_list (H.rt 1 rfl)) (mk_list (H.rt 0 rfl)) hy5) fun v12 w a hp12 hf => ?_)
    obtain ⟨hb5, hp12⟩ := hp12
    obtain rfl := VR_bool hp12
    have H := H.keep hb5
    refine pz 2 hf fun a hf => ?_
    obtain rfl := oi hGc7
    have hf := hf.pn [61, 0, 3, 4, 5, 6, 7]
    have H := H.lt_ [true, true] [] [false, true, true, true, true] [1, 2, 3, 4, 5]
    exact wl_end ⟨hf, H⟩
  refine then_n (ib hF hf (fun hc3 hF => ?_) fun hc3 hF => ?_)
  ·refine sqz (pz 1 hf fun a hf => ?_)
   refine wl_end (then_n (wp_ret (then_r (?_))))
   obtain rfl := oi hF
   refine rT hf ?_
   exact ⟨_, rfl, H.bel, mk_bool⟩
  ·refine wp_skip (then_n (sq (sqz (pz 1 hf fun a hf => ?_))))
   refine wl_end (then_n (ib hF hf (fun hc4 hF => ?_) fun hc4 hF => ?_))
   ·refine sq (reg (lN 1 hf H TF.la27 fun a hf => ?_))
    refine lN 0 hf H TF.la40 fun a hf => ?_
    refine pz 1 hf fun a hf => ?_
    obtain ⟨y6, hy6, hF⟩ := bs_ hF
    refine oc hf TF.cl15 (impl_SegmentLengths_ok (S := TT) (Network_mkv (x := y2.1) (H.rt 3 rfl) (H.rt 2 rfl)) (Route_mkv (x := y2.2.1) (H.rt 1 rfl)) (mk_list (H.rt 0 rfl)) hy6) fun v13 w a hp13 hf => ?_
    obtain ⟨hb6, F10, v14, v15, rfl, hp14, hp15, hN4⟩ := hp13
    obtain ⟨A7, c8, rfl, hl7⟩ := VO_list hp14
    obtain rfl := VR_bool hp15
    have H := H.aO1 hb6 hN4 hl7
    have H := H.lend 0 rfl
    refine pz 5 hf fun a hf => ?_
    refine wr (lN 1 hf H TF.la27 fun a hf => ?_)
    refine lN 0 hf H TF.la40 fun a hf => ?_
    obtain ⟨y7, hy7, hF⟩ := bs_ hF
    refine oc hf TF.cl16 (spec_RouteLength_ok (S := TT) (Network_mkv (x := y2.1) (H.rt 4 rfl) (H.rt 3 rfl)) (Route_mkv (x := y2.2.1) (H.rt 2 rfl)) hy7) fun v16 w a hp16 hf => ?_
    obtain ⟨hb7, v17, v18, rfl, hp17, hp18⟩ := hp16
    obtain rfl := VR_int hp17
    obtain rfl := VR_bool hp18
    have H := H.keep hb7
    refine pz 5 hf fun a hf => ?_
    have hf := hf.pn [0, 3, 4, 5, 6, 10, 11, 12]
    refine wl_end (then_n (sq (sq ?_)))
    obtain ⟨c9, hGc9, hF⟩ := bs_ hF
    have fh2 := hf.prune [0, 3, 4, 5, 6, 10, 12] rfl
    have Hm2 := H.lt_ [true, true] [] [true, true, true, true, true] [0, 1, 2, 3, 4, 5]
    refine midF 85 (.bool c9) fh2 Hm2 ?_ fun a w hf H => ?_
    ·refine reg (pz 3 hf fun a hf => ?_)
     refine iteB hGc9 (fun hc5 hGc9 => ?_) fun hc5 hGc9 => ?_
     ·have hf := hf.lit 78 rfl hc5
      refine pz 7 hf fun a hf => ?_
      obtain rfl := oi hGc9
      have hf := hf.pn [85, 0, 3, 4, 5, 6, 10, 12]
      have H := H.lt_ [true, true] [] [true, true, true, true, true] [0, 1, 2, 3, 4, 5]
      exact wl_end ⟨hf, H⟩
     ·have hf := hf.lit 78 rfl hc5
      refine pz 7 hf fun a hf => ?_
      obtain rfl := oi hGc9
      have hf := hf.pn [85, 0, 3, 4, 5, 6, 10, 12]
      have H := H.lt_ [true, true] [] [true, true, true, true, true] [0, 1, 2, 3, 4, 5]
      exact wl_end ⟨hf, H⟩
    refine then_n (ib hF hf (fun hc6 hF => ?_) fun hc6 hF => ?_)
    ·refine sqz (pz 1 hf fun a hf => ?_)
     refine wl_end (then_n (wp_ret (then_r (then_r (?_)))))
     obtain rfl := oi hF
     refine rT hf ?_
     exact ⟨_, rfl, H.bel, mk_bool⟩
    ·refine wp_skip (then_n (sqz (pz 1 hf fun a hf => ?_)))
     refine we (sqz (pz 1 hf fun a hf => ?_))
     refine wl_end (then_n ?_)
     obtain ⟨out', hB1, hF⟩ := bs_ hF
     have hf := hf.pn [0, 3, 4, 5, 6, 10, 12, 14, 15]
     have H := H.lt_ [true, true] [] [true, true, true, true, true] [0, 1, 2, 3, 4, 5]
     refine loopC (fun (s : Int × Int) (a : Act) (w : World) => match s with | (sum, i) => Fr a 223 [(0, (.slice A code.length c)), (3, (.pointer (some ⟨b', 0, none⟩))), (4, (.pointer (some ⟨b2, 0, none⟩))), (5, (.int .i64 y2.2.2)), (6, (.slice A5 y3.1.length c5)), (10, (.slice A7 y6.1.length c8)), (12, (.int .i64 y7.1)), (14, (.int .i64 sum)), (15, (.int .i64 i))] ∧ Mem ⟨w0, []⟩ S [⟨b2, 40, [(.int .i64 y2.2.1.Start), (.slice A4 y2.2.1.Fibers.length c4)]⟩, ⟨b', 27, [(.slice A2 y2.1.Nodes.length c2), (.slice A3 y2.1.Fibers.length c3)]⟩] [] [⟨F10, MP.own F10 [(.slice A7 y6.1.length c8)] (y6.1 : List Int)⟩, ⟨F6, MP.own F6 [(.slice A5 y3.1.length c5)] (y3.1 : List Int)⟩, ⟨F3, MP.own F3 [(.slice A2 y2.1.Nodes.length c2)] (y2.1.Nodes : List ByteArray)⟩, ⟨F4, MP.own F4 [(.slice A3 y2.1.Fibers.length c3)] (y2.1.Fibers : List Fiber)⟩, ⟨F5, MP.own F5 [(.slice A4 y2.2.1.Fibers.length c4)] (y2.2.1.Fibers : List Int)⟩] [(true, MP.val [(.slice A7 y6.1.length c8)] (y6.1 : List Int)), (true, MP.val [(.slice A5 y3.1.length c5)] (y3.1 : List Int)), (true, MP.val [(.slice A4 y2.2.1.Fibers.length c4)] (y2.2.1.Fibers : List Int)), (true, MP.val [(.slice A3 y2.1.Fibers.length c3)] (y2.1.Fibers : List Fiber)), (true, MP.val [(.slice A2 y2.1.Nodes.length c2)] (y2.1.Nodes : List ByteArray)), (false, MP.val [(.slice A code.length c)] (code : List By))] w) (fun k (s : Int × Int) => laws_FnRegenerators_L1 fu y2 y6 k s.1 s.2 = some out') (fun s => out' = Out.next s) (0, 0) fu hB1 ⟨hf, H⟩ (fun s h => by cases h) ?_ ?_
     ·rintro fk ⟨sum, i⟩ a w hR1 hI
      replace hR1 : laws_FnRegenerators_L1 fu y2 y6 (fk + 1) sum i = some out' := hR1
      rw [laws_FnRegenerators_L1] at hR1
      obtain ⟨hf, H⟩ := hI
      refine sq (sqz (pz 4 hf fun a hf => ?_))
      refine wl_end (then_n (ib hR1 hf (fun hc7 hR1 => ?_) fun hc7 hR1 => ?_))
      ·refine wp_skip (then_n (sq (wp_block (sq (sq ?_)))))
       obtain ⟨c10, hGc10, hR1⟩ := bs_ hR1
       have fh3 := hf.prune [0, 3, 4, 5, 6, 10, 12, 14, 15] rfl
       have Hm3 := H.lt_ [true, true] [] [true, true, true, true, true] [0, 1, 2, 3, 4, 5]
       refine midF 104 (.bool c10) fh3 Hm3 ?_ fun a w hf H => ?_
       ·refine reg (pz 2 hf fun a hf => ?_)
        obtain ⟨e, he, hGc10⟩ := bs_ hGc10
        refine wl0 rfl (op_iaddr hf H Try.underlying31 TF.sz3 0 rfl rfl rfl he (by decide) fun p o cs a hf hr H => ?_)
        obtain rfl := hr
        refine oq hf (rq_loadI hf H TF.ls3 0 0 rfl rfl rfl) fun a hf => ?_
        refine pz 3 hf fun a hf => ?_
        refine iteB hGc10 (fun hc8 hGc10 => ?_) fun hc8 hGc10 => ?_
        ·have hf := hf.lit 98 rfl hc8
         refine pz 6 hf fun a hf => ?_
         obtain rfl := oi hGc10
         have hf := hf.pn [104, 0, 3, 4, 5, 6, 10, 12, 14, 15]
         have H := H.lt_ [true, true] [] [true, true, true, true, true] [1, 2, 3, 4, 5, 6]
         exact wl_end ⟨hf, H⟩
        ·have hf := hf.lit 98 rfl hc8
         refine pz 2 hf fun a hf => ?_
         obtain ⟨e2, he2, hGc10⟩ := bs_ hGc10
         refine wlg hf rfl rfl rfl (op_iaddr hf H Try.underlying31 TF.sz3 1 rfl rfl rfl he2 (by decide) fun p2 o2 cs2 a hf hr2 H => ?_)
         obtain rfl := hr2
         refine wlg hf rfl rfl rfl (op_q hf (rq_loadI hf H TF.ls3 0 0 rfl rfl rfl) rfl (by decide) fun a hf => ?_)
         refine pz 2 hf fun a hf => ?_
         obtain rfl := oi hGc10
         have hf := hf.pn [104, 0, 3, 4, 5, 6, 10, 12, 14, 15]
         have H := H.lt_ [true, true] [] [true, true, true, true, true] [2, 3, 4, 5, 6, 7]
         exact wl_end ⟨hf, H⟩
       refine then_n (ib hR1 hf (fun hc9 hR1 => ?_) fun hc9 hR1 => ?_)
       ·refine sqz (pz 1 hf fun a hf => ?_)
        refine wl_end (then_n (wp_ret (then_r (blk_r (then_r (then_r (blk_r (then_r (then_r (then_r (?_)))))))))))
        obtain rfl := oi hR1
        replace hF := on_ret hF
        obtain rfl := oi hF
        refine rT hf ?_
        exact ⟨_, rfl, H.bel, mk_bool⟩
       ·refine wp_skip (then_n (reg (pz 3 hf fun a hf => ?_)))
        obtain ⟨e3, he3, hR1⟩ := bs_ hR1
        refine wl0 rfl (op_iaddr hf H Try.underlying31 TF.sz3 0 rfl rfl rfl he3 (by decide) fun p3 o3 cs3 a hf hr3 H => ?_)
        obtain rfl := hr3
        refine oq hf (rq_loadI hf H TF.ls3 0 0 rfl rfl rfl) fun a hf => ?_
        refine pz 2 hf fun a hf => ?_
        refine wl_end (blk_n (then_n (reg (pz 3 hf fun a hf => ?_))))
        refine wl_end ?_
        have hf := hf.pn [0, 3, 4, 5, 6, 10, 12, 14, 15]
        have H := H.lt_ [true, true] [] [true, true, true, true, true] [1, 2, 3, 4, 5, 6]
        exact then_n ⟨(w64 (sum + e3), w64 (i + 1)), hR1, hf, H⟩
      ·refine wp_exit (then_x (then_x (blk_e (?_))))
       have hf := hf.pn [0, 3, 4, 5, 6, 10, 12, 14, 15]
       have H := H.lt_ [true, true] [] [true, true, true, true, true] [0, 1, 2, 3, 4, 5]
       exact ⟨(sum, i), (Option.some.inj hR1).symm, hf, H⟩
     rintro a w ⟨⟨sum2, i2⟩, rfl, hf, H⟩
     replace hF := on_next hF
     try dsimp only at hF
     refine then_n (sq (sqz (pz 3 hf fun a hf => ?_)))
     refine wl_end (then_n (ib hF hf (fun hc10 hF => ?_) fun hc10 hF => ?_))
     ·refine sqz (pz 1 hf fun a hf => ?_)
      refine wl_end (then_n (wp_ret (then_r (then_r (?_)))))
      obtain rfl := oi hF
      refine rT hf ?_
      exact ⟨_, rfl, H.bel, mk_bool⟩
     ·refine wp_skip (then_n (sqz (pz 1 hf fun a hf => ?_)))
      refine wl_end (then_n ?_)
      obtain ⟨out2, hB1, hF⟩ := bs_ hF
      have hf := hf.pn [0, 3, 4, 5, 6, 16]
      have H := H.lt_ [true, true] [] [false, true, true, true, true] [1, 2, 3, 4, 5]
      refine loopC (fun (s : Int) (a : Act) (w : World) => match s with | i3 => Fr a 223 [(0, (.slice A code.length c)), (3, (.pointer (some ⟨b', 0, none⟩))), (4, (.pointer (some ⟨b2, 0, none⟩))), (5, (.int .i64 y2.2.2)), (6, (.slice A5 y3.1.length c5)), (16, (.int .i64 i3))] ∧ Mem ⟨w0, []⟩ S [⟨b2, 40, [(.int .i64 y2.2.1.Start), (.slice A4 y2.2.1.Fibers.length c4)]⟩, ⟨b', 27, [(.slice A2 y2.1.Nodes.length c2), (.slice A3 y2.1.Fibers.length c3)]⟩] [] [⟨F6, MP.own F6 [(.slice A5 y3.1.length c5)] (y3.1 : List Int)⟩, ⟨F3, MP.own F3 [(.slice A2 y2.1.Nodes.length c2)] (y2.1.Nodes : List ByteArray)⟩, ⟨F4, MP.own F4 [(.slice A3 y2.1.Fibers.length c3)] (y2.1.Fibers : List Fiber)⟩, ⟨F5, MP.own F5 [(.slice A4 y2.2.1.Fibers.length c4)] (y2.2.1.Fibers : List Int)⟩] [(true, MP.val [(.slice A5 y3.1.length c5)] (y3.1 : List Int)), (true, MP.val [(.slice A4 y2.2.1.Fibers.length c4)] (y2.2.1.Fibers : List Int)), (true, MP.val [(.slice A3 y2.1.Fibers.length c3)] (y2.1.Fibers : List Fiber)), (true, MP.val [(.slice A2 y2.1.Nodes.length c2)] (y2.1.Nodes : List ByteArray)), (false, MP.val [(.slice A code.length c)] (code : List By))] w) (fun k (s : Int) => laws_FnRegenerators_L2 fu y2 y3 k s = some out2) (fun s => out2 = Out.next s) 0 fu hB1 ⟨hf, H⟩ (fun s h => by cases h) ?_ ?_
      ·rintro fk i3 a w hR1 hI
       replace hR1 : laws_FnRegenerators_L2 fu y2 y3 (fk + 1) i3 = some out2 := hR1
       rw [laws_FnRegenerators_L2] at hR1
       obtain ⟨hf, H⟩ := hI
       refine sq (sqz (pz 4 hf fun a hf => ?_))
       refine wl_end (then_n (ib hR1 hf (fun hc11 hR1 => ?_) fun hc11 hR1 => ?_))
       ·refine wp_skip (then_n (sq (wp_block (sq (dw [] 11 fun w hb => ?_)))))
        have H := H.keep hb
        refine strT (H.lt_ [false, true] [] [false, false, false, false] []) (fun w H => trivial) fun hS => ?_
        refine zS 0 [] rfl rfl rfl rfl hf hS (fun w H => rq_loadBN hf H TF.la27 0 rfl rfl rfl rfl) fun a hf => ?_
        refine strT (H.lt_ [true, true] [] [false, false, false, false] []) (fun w H => H.lt_ [false, true] [] [] []) fun hS => ?_
        refine zS 1 [] rfl rfl rfl rfl hf hS (fun w H => rq_loadBN hf H TF.la40 0 rfl rfl rfl rfl) fun a hf => ?_
        refine zp 2 hf hS fun a hf => ?_
        refine zp 3 hf hS fun a hf => ?_
        obtain ⟨y8, hy8, hR1⟩ := bs_ hR1
        refine nn 4 rfl (oC hf TF.cl17 (laws_rWithout_ok (S := TT) (mk_list (H.rt 0 rfl)) mk_int hy8) fun v19 w a hp19 hf => ?_)
        obtain ⟨hb8, F12, hp20, hN5⟩ := hp19
        obtain ⟨A8, c11, rfl, hl8⟩ := VO_list hp20
        have H := H.aO1 hb8 hN5 hl8
        have H := H.lend 0 rfl
        have hS := H.lt_ [true, true] [] [false, false, false, false, false] []
        refine aS hS ?_
        obtain ⟨y9, hy9, hR1⟩ := bs_ hR1
        refine nn 5 rfl (oC hf TF.cl15 (impl_SegmentLengths_ok (S := TT) (Network_mkv (x := y2.1) (H.rt 4 rfl) (H.rt 3 rfl)) (Route_mkv (x := y2.2.1) (H.rt 2 rfl)) (mk_list (H.rt 0 rfl)) hy9) fun v20 w a hp21 hf => ?_)
        obtain ⟨hb9, F14, v21, v22, rfl, hp22, hp23, hN6⟩ := hp21
        obtain ⟨A9, c12, rfl, hl9⟩ := VO_list hp22
        obtain rfl := VR_bool hp23
        have H := H.aO1 hb9 hN6 hl9
        have H := H.lend 0 rfl
        have hS := H.lt_ [true, true] [] [false, false, false, false, false, false] []
        refine aS hS ?_
        refine zp 6 hf hS fun a hf => ?_
        refine zp 7 hf hS fun a hf => ?_
        refine zp 8 hf hS fun a hf => ?_
        refine zp 9 hf hS fun a hf => ?_
        refine zp 10 hf hS fun a hf => ?_
        refine dk ?_
        have hf := hf.pn [0, 3, 4, 5, 6, 16, 17, 18]
        refine then_n (sqz (pz 1 hf fun a hf => ?_))
        refine we (sqz (pz 1 hf fun a hf => ?_))
        refine wl_end (then_n ?_)
        obtain ⟨out3, hB2, hR1⟩ := bs_ hR1
        have hf := hf.pn [0, 3, 4, 5, 6, 16, 17, 18, 19, 20]
        have H := H.lt_ [true, true] [] [true, false, true, true, true, true] [0, 2, 3, 4, 5, 6]
        refine loopC (fun (s : Bool × Int) (a : Act) (w : World) => match s with | (far, k') => Fr a 223 [(0, (.slice A code.length c)), (3, (.pointer (some ⟨b', 0, none⟩))), (4, (.pointer (some ⟨b2, 0, none⟩))), (5, (.int .i64 y2.2.2)), (6, (.slice A5 y3.1.length c5)), (16, (.int .i64 i3)), (17, (.slice A9 y9.1.length c12)), (18, (.bool y9.2)), (19, (.bool far)), (20, (.int .i64 k'))] ∧ Mem ⟨w0, []⟩ S [⟨b2, 40, [(.int .i64 y2.2.1.Start), (.slice A4 y2.2.1.Fibers.length c4)]⟩, ⟨b', 27, [(.slice A2 y2.1.Nodes.length c2), (.slice A3 y2.1.Fibers.length c3)]⟩] [] [⟨F14, MP.own F14 [(.slice A9 y9.1.length c12)] (y9.1 : List Int)⟩, ⟨F6, MP.own F6 [(.slice A5 y3.1.length c5)] (y3.1 : List Int)⟩, ⟨F3, MP.own F3 [(.slice A2 y2.1.Nodes.length c2)] (y2.1.Nodes : List ByteArray)⟩, ⟨F4, MP.own F4 [(.slice A3 y2.1.Fibers.length c3)] (y2.1.Fibers : List Fiber)⟩, ⟨F5, MP.own F5 [(.slice A4 y2.2.1.Fibers.length c4)] (y2.2.1.Fibers : List Int)⟩] [(true, MP.val [(.slice A9 y9.1.length c12)] (y9.1 : List Int)), (true, MP.val [(.slice A5 y3.1.length c5)] (y3.1 : List Int)), (true, MP.val [(.slice A4 y2.2.1.Fibers.length c4)] (y2.2.1.Fibers : List Int)), (true, MP.val [(.slice A3 y2.1.Fibers.length c3)] (y2.1.Fibers : List Fiber)), (true, MP.val [(.slice A2 y2.1.Nodes.length c2)] (y2.1.Nodes : List ByteArray)), (false, MP.val [(.slice A code.length c)] (code : List By))] w) (fun k (s : Bool × Int) => laws_FnRegenerators_L3 fu y2 y9 k s.1 s.2 = some out3) (fun s => out3 = s) (false, 0) fu hB2 ⟨hf, H⟩ (fun s h => by cases h) ?_ ?_
        ·rintro fk ⟨far, k'⟩ a w hR2 hI
         replace hR2 : laws_FnRegenerators_L3 fu y2 y9 (fk + 1) far k' = some out3 := hR2
         rw [laws_FnRegenerators_L3] at hR2
         obtain ⟨hf, H⟩ := hI
         refine sq (sqz (pz 4 hf fun a hf => ?_))
         refine wl_end (then_n (ib hR2 hf (fun hc12 hR2 => ?_) fun hc12 hR2 => ?_))
         ·refine wp_skip (then_n (sq (wp_block ?_)))
          obtain ⟨c13, hGc13, hR2⟩ := bs_ hR2
          have fh4 := hf.prune [0, 3, 4, 5, 6, 16, 17, 18, 20] rfl
          have Hm4 := H.lt_ [true, true] [] [true, true, true, true, true] [0, 1, 2, 3, 4, 5]
          refine midF 19 (.bool c13) fh4 Hm4 ?_ fun a w hf H => ?_
          ·refine reg (pz 2 hf fun a hf => ?_)
           refine iteB hGc13 (fun hc13 hGc13 => ?_) fun hc13 hGc13 => ?_
           ·have hf := hf.lit 136 rfl hc13
            refine pz 8 hf fun a hf => ?_
            obtain rfl := oi hGc13
            have hf := hf.pn [19, 0, 3, 4, 5, 6, 16, 17, 18, 20]
            have H := H.lt_ [true, true] [] [true, true, true, true, true] [0, 1, 2, 3, 4, 5]
            exact wl_end ⟨hf, H⟩
           ·have hf := hf.lit 136 rfl hc13
            refine pz 2 hf fun a hf => ?_
            obtain ⟨e4, he4, hGc13⟩ := bs_ hGc13
            refine wlg hf rfl rfl rfl (op_iaddr hf H Try.underlying31 TF.sz3 0 rfl rfl rfl he4 (by decide) fun p4 o4 cs4 a hf hr4 H => ?_)
            obtain rfl := hr4
            refine wlg hf rfl rfl rfl (op_q hf (rq_loadI hf H TF.ls3 0 0 rfl rfl rfl) rfl (by decide) fun a hf => ?_)
            refine pz 4 hf fun a hf => ?_
            obtain rfl := oi hGc13
            have hf := hf.pn [19, 0, 3, 4, 5, 6, 16, 17, 18, 20]
            have H := H.lt_ [true, true] [] [true, true, true, true, true] [1, 2, 3, 4, 5, 6]
            exact wl_end ⟨hf, H⟩
          refine blk_n (then_n (reg (pz 3 hf fun a hf => ?_)))
          refine wl_end ?_
          have hf := hf.pn [0, 3, 4, 5, 6, 16, 17, 18, 19, 20]
          have H := H.lt_ [true, true] [] [true, true, true, true, true] [0, 1, 2, 3, 4, 5]
          exact then_n ⟨(c13, w64 (k' + 1)), hR2, hf, H⟩
         ·refine wp_exit (then_x (then_x (blk_e (?_))))
          have hf := hf.pn [0, 3, 4, 5, 6, 16, 17, 18, 19, 20]
          have H := H.lt_ [true, true] [] [true, true, true, true, true] [0, 1, 2, 3, 4, 5]
          exact ⟨(far, k'), (Option.some.inj hR2).symm, hf, H⟩
        rintro a w ⟨⟨far2, k2⟩, rfl, hf, H⟩
        try dsimp only at hR1
        refine then_n (sq ?_)
        obtain ⟨c14, hGc14, hR1⟩ := bs_ hR1
        have fh5 := hf.prune [0, 3, 4, 5, 6, 16] rfl
        have Hm5 := H.lt_ [true, true] [] [false, true, true, true, true] [1, 2, 3, 4, 5]
        refine midF 161 (.bool c14) fh5 Hm5 ?_ fun a w hf H => ?_
        ·refine reg (pz 3 hf fun a hf => ?_)
         refine iteB hGc14 (fun hc14 hGc14 => ?_) fun hc14 hGc14 => ?_
         ·have hf := hf.lit 146 rfl hc14
          refine pz 3 hf fun a hf => ?_
          refine wlsu hf rfl rfl rfl rfl (by decide) fun a hf => ?_
          refine wlsu hf rfl rfl rfl rfl (by decide) fun a hf => ?_
          refine wlsu hf rfl rfl rfl rfl (by decide) fun a hf => ?_
          refine wlsu hf rfl rfl rfl rfl (by decide) fun a hf => ?_
          refine wlsu hf rfl rfl rfl rfl (by decide) fun a hf => ?_
          refine pz 2 hf fun a hf => ?_
          refine wlsu hf rfl rfl rfl rfl (by decide) fun a hf => ?_
          refine wlsu hf rfl rfl rfl rfl (by decide) fun a hf => ?_
          refine wlsu hf rfl rfl rfl rfl (by decide) fun a hf => ?_
          refine pz 2 hf fun a hf => ?_
          obtain rfl := oi hGc14
          have hf := hf.pn [161, 0, 3, 4, 5, 6, 16]
          have H := H.lt_ [true, true] [] [false, true, true, true, true] [1, 2, 3, 4, 5]
          exact wl_end ⟨hf, H⟩
         ·have hf := hf.lit 146 rfl hc14
          refine pz 3 hf fun a hf => ?_
          refine iteB hGc14 (fun hc15 hGc14 => ?_) fun hc15 hGc14 => ?_
          ·have hf := hf.lit 149 rfl hc15
           refine pz 7 hf fun a hf => ?_
           refine iteB hGc14 (fun hc16 hGc14 => ?_) fun hc16 hGc14 => ?_
           ·have hf := hf.lit 156 rfl hc16
            refine pz 5 hf fun a hf => ?_
            obtain rfl := oi hGc14
            have hf := hf.pn [161, 0, 3, 4, 5, 6, 16]
            have H := H.lt_ [true, true] [] [false, true, true, true, true] [1, 2, 3, 4, 5]
            exact wl_end ⟨hf, H⟩
           ·have hf := hf.lit 156 rfl hc16
            refine pz 5 hf fun a hf => ?_
            obtain rfl := oi hGc14
            have hf := hf.pn [161, 0, 3, 4, 5, 6, 16]
            have H := H.lt_ [true, true] [] [false, true, true, true, true] [1, 2, 3, 4, 5]
            exact wl_end ⟨hf, H⟩
          ·have hf := hf.lit 149 rfl hc15
           refine pz 12 hf fun a hf => ?_
           obtain rfl := oi hGc14
           have hf := hf.pn [161, 0, 3, 4, 5, 6, 16]
           have H := H.lt_ [true, true] [] [false, true, true, true, true] [1, 2, 3, 4, 5]
           exact wl_end ⟨hf, H⟩
        refine then_n (ib hR1 hf (fun hc17 hR1 => ?_) fun hc17 hR1 => ?_)
        ·refine sqz (pz 1 hf fun a hf => ?_)
         refine wl_end (then_n (wp_ret (blk_r (then_r (then_r (blk_r (then_r (then_r (?_)))))))))
         obtain rfl := oi hR1
         replace hF := on_ret hF
         obtain rfl := oi hF
         refine rT hf ?_
         exact ⟨_, rfl, H.bel, mk_bool⟩
        ·refine wp_skip (blk_n (then_n (reg (pz 3 hf fun a hf => ?_))))
         refine wl_end ?_
         have hf := hf.pn [0, 3, 4, 5, 6, 16]
         have H := H.lt_ [true, true] [] [true, true, true, true] [0, 1, 2, 3, 4]
         exact then_n ⟨w64 (i3 + 1), hR1, hf, H⟩
       ·refine wp_exit (then_x (then_x (blk_e (?_))))
        have hf := hf.pn [0, 3, 4, 5, 6, 16]
        have H := H.lt_ [true, true] [] [true, true, true, true] [0, 1, 2, 3, 4]
        exact ⟨i3, (Option.some.inj hR1).symm, hf, H⟩
      rintro a w ⟨i4, rfl, hf, H⟩
      replace hF := on_next hF
      refine then_n (sqz (pz 1 hf fun a hf => ?_))
      obtain ⟨y10, hy10, hF⟩ := bs_ hF
      refine oc hf TF.cl18 (spec_DrawFewestSites_ok (S := TT) (mk_list (H.rt 4 rfl)) hy10) fun v23 w a hp24 hf => ?_
      obtain ⟨hb10, F16, v24, v25, rfl, hp25, hp26, hN7⟩ := hp24
      obtain ⟨A10, c15, F17, A11, c16, F18, rfl, rfl, hl10, hl11⟩ := Network_vo hp25
      obtain rfl := VR_int hp26
      have H := H.aO2 hb10 hN7 hl10 hl11
      have H := H.lend 0 rfl
      have H := H.lend 1 rfl
      refine pz 3 hf fun a hf => ?_
      refine aL hf H TF.zv27 fun b3 a w hf H => ?_
      refine sB 0 hf H TF.sz27 fun w H => ?_
      refine pz 1 hf fun a hf => ?_
      refine wr (lN 0 hf H TF.la27 fun a hf => ?_)
      refine pz 1 hf fun a hf => ?_
      obtain ⟨y11, hy11, hF⟩ := bs_ hF
      refine oc hf TF.cl19 (impl_FewestSites_ok (S := TT) (Network_mkv (x := y10.1) (H.rt 1 rfl) (H.rt 0 rfl)) mk_int hy11) fun v26 w a hp27 hf => ?_
      obtain ⟨hb11, F19, v27, v28, v29, rfl, hp28, hp29, hp30, hN8⟩ := hp27
      obtain ⟨A12, c17, rfl, hl12⟩ := VO_list hp28
      obtain rfl := VR_bool hp29
      obtain rfl := VR_bool hp30
      have H := H.aO1 hb11 hN8 hl12
      have H := H.lend 0 rfl
      refine pz 7 hf fun a hf => ?_
      have hf := hf.pn [21, 22, 23, 24, 25]
      refine wr (lN 0 hf H TF.la27 fun a hf => ?_)
      refine pz 1 hf fun a hf => ?_
      obtain ⟨y12, hy12, hF⟩ := bs_ hF
      refine oc hf TF.cl20 (spec_FewestSites_ok (S := TT) (Network_mkv (x := y10.1) (H.rt 2 rfl) (H.rt 1 rfl)) mk_int hy12) fun v30 w a hp31 hf => ?_
      obtain ⟨hb12, v31, v32, v33, rfl, hp32, hp33, hp34⟩ := hp31
      obtain ⟨A13, c18, rfl, hl13⟩ := VR_list hp32
      obtain rfl := VR_bool hp33
      obtain rfl := VR_bool hp34
      obtain ⟨F21, H⟩ := H.addRo hb12 (p := MP.val [(.slice A13 y12.1.length c18)] (y12.1 : List Int)) hl13
      have H := H.lendQ 0 (q := MP.val [(.slice A13 y12.1.length c18)] (y12.1 : List Int)) rfl fun _ _ h => h
      refine pz 7 hf fun a hf => ?_
      refine wl_end (then_n (sq (sq ?_)))
      obtain ⟨c19, hGc19, hF⟩ := bs_ hF
      have fh6 := hf.prune [21, 22, 23, 24, 25, 26, 27, 28] rfl
      have Hm6 := H.lt_ [true, false, false] [] [true, true, true, true, false, false, false, false] [0, 1, 2, 3]
      refine midF 198 (.bool c19) fh6 Hm6 ?_ fun a w hf H => ?_
      ·refine reg (pz 4 hf fun a hf => ?_)
       refine iteB hGc19 (fun hc18 hGc19 => ?_) fun hc18 hGc19 => ?_
       ·have hf := hf.lit 184 rfl hc18
        refine pz 14 hf fun a hf => ?_
        obtain rfl := oi hGc19
        have hf := hf.pn [198, 21, 22, 23, 24, 25, 26, 27, 28]
        have H := H.lt_ [true, false, false] [] [true, true, true, true, false, false, false, false] [0, 1, 2, 3]
        exact wl_end ⟨hf, H⟩
       ·have hf := hf.lit 184 rfl hc18
        refine pz 5 hf fun a hf => ?_
        refine iteB hGc19 (fun hc19 hGc19 => ?_) fun hc19 hGc19 => ?_
        ·have hf := hf.lit 189 rfl hc19
         refine pz 9 hf fun a hf => ?_
         obtain rfl := oi hGc19
         have hf := hf.pn [198, 21, 22, 23, 24, 25, 26, 27, 28]
         have H := H.lt_ [true, false, false] [] [true, true, true, true, false, false, false, false] [0, 1, 2, 3]
         exact wl_end ⟨hf, H⟩
        ·have hf := hf.lit 189 rfl hc19
         refine pz 2 hf fun a hf => ?_
         obtain ⟨y13, hy13, hGc19⟩ := bs_ hGc19
         refine wlg hf rfl rfl rfl (oC hf TF.cl9 (laws_vInts_ok (S := TT) (mk_list (H.rt 1 rfl)) (mk_list (H.rt 0 rfl)) hy13) fun v34 w a hp35 hf => ?_)
         obtain ⟨hb13, hp35⟩ := hp35
         obtain rfl := VR_bool hp35
         have H := H.keep hb13
         refine pz 3 hf fun a hf => ?_
         refine iteB hGc19 (fun hc20 hGc19 => ?_) fun hc20 hGc19 => ?_
         ·have hf := hf.lit 195 rfl hc20
          refine pz 3 hf fun a hf => ?_
          obtain rfl := oi hGc19
          have hf := hf.pn [198, 21, 22, 23, 24, 25, 26, 27, 28]
          have H := H.lt_ [true, false, false] [] [true, true, true, true, false, false, false, false] [0, 1, 2, 3]
          exact wl_end ⟨hf, H⟩
         ·have hf := hf.lit 195 rfl hc20
          refine pz 3 hf fun a hf => ?_
          obtain rfl := oi hGc19
          have hf := hf.pn [198, 21, 22, 23, 24, 25, 26, 27, 28]
          have H := H.lt_ [true, false, false] [] [true, true, true, true, false, false, false, false] [0, 1, 2, 3]
          exact wl_end ⟨hf, H⟩
      refine then_n (ib hF hf (fun hc21 hF => ?_) fun hc21 hF => ?_)
      ·refine sq ?_
       obtain ⟨c20, hGc20, hF⟩ := bs_ hF
       have fh7 := hf.prune [] rfl
       have Hm7 := H.lt_ [false] [] [false, false, false, false] []
       refine midF 2 (.bool c20) fh7 Hm7 ?_ fun a w hf H => ?_
       ·refine reg (pz 4 hf fun a hf => ?_)
        refine iteB hGc20 (fun hc22 hGc20 => ?_) fun hc22 hGc20 => ?_
        ·have hf := hf.lit 202 rfl hc22
         refine pz 5 hf fun a hf => ?_
         refine iteB hGc20 (fun hc23 hGc20 => ?_) fun hc23 hGc20 => ?_
         ·have hf := hf.lit 207 rfl hc23
          refine pz 2 hf fun a hf => ?_
          obtain ⟨y14, hy14, hGc20⟩ := bs_ hGc20
          refine wlg hf rfl rfl rfl (oC hf TF.cl9 (laws_vInts_ok (S := TT) (mk_list (H.rt 1 rfl)) (mk_list (H.rt 0 rfl)) hy14) fun v35 w a hp36 hf => ?_)
          obtain ⟨hb14, hp36⟩ := hp36
          obtain rfl := VR_bool hp36
          have H := H.keep hb14
          refine pz 2 hf fun a hf => ?_
          obtain rfl := oi hGc20
          have hf := hf.pn [2]
          have H := H.lt_ [false] [] [false, false, false, false] []
          exact wl_end ⟨hf, H⟩
         ·have hf := hf.lit 207 rfl hc23
          refine pz 5 hf fun a hf => ?_
          obtain rfl := oi hGc20
          have hf := hf.pn [2]
          have H := H.lt_ [false] [] [false, false, false, false] []
          exact wl_end ⟨hf, H⟩
        ·have hf := hf.lit 202 rfl hc22
         refine pz 10 hf fun a hf => ?_
         obtain rfl := oi hGc20
         have hf := hf.pn [2]
         have H := H.lt_ [false] [] [false, false, false, false] []
         exact wl_end ⟨hf, H⟩
       refine then_n (wp_ret (then_r (?_)))
       obtain rfl := oi hF
       refine rT hf ?_
       exact ⟨_, rfl, H.bel, mk_bool⟩
      ·refine wp_skip (then_n (sq (reg (lN 0 hf H TF.la27 fun a hf => ?_))))
       refine pz 2 hf fun a hf => ?_
       obtain ⟨y15, hy15, hF⟩ := bs_ hF
       refine oc hf TF.cl21 (impl_SitesConnect_ok (S := TT) (Network_mkv (x := y10.1) (H.rt 3 rfl) (H.rt 2 rfl)) (mk_list (H.rt 1 rfl)) mk_int hy15) fun v36 w a hp37 hf => ?_
       obtain ⟨hb15, v37, v38, rfl, hp38, hp39⟩ := hp37
       obtain rfl := VR_bool hp38
       obtain rfl := VR_bool hp39
       have H := H.keep hb15
       refine pz 5 hf fun a hf => ?_
       have hf := hf.pn [29, 30]
       refine wl_end (then_n (sq ?_))
       obtain ⟨c21, hGc21, hF⟩ := bs_ hF
       have fh8 := hf.prune [] rfl
       have Hm8 := H.lt_ [false] [] [false, false, false, false] []
       refine midF 2 (.bool c21) fh8 Hm8 ?_ fun a w hf H => ?_
       ·refine reg (pz 2 hf fun a hf => ?_)
        refine iteB hGc21 (fun hc24 hGc21 => ?_) fun hc24 hGc21 => ?_
        ·have hf := hf.lit 220 rfl hc24
         refine pz 3 hf fun a hf => ?_
         obtain rfl := oi hGc21
         have hf := hf.pn [2]
         have H := H.lt_ [false] [] [false, false, false, false] []
         exact wl_end ⟨hf, H⟩
        ·have hf := hf.lit 220 rfl hc24
         refine pz 3 hf fun a hf => ?_
         obtain rfl := oi hGc21
         have hf := hf.pn [2]
         have H := H.lt_ [false] [] [false, false, false, false] []
         exact wl_end ⟨hf, H⟩
       refine then_n (wp_ret (?_))
       obtain rfl := oi hF
       refine rT hf ?_
       exact ⟨_, rfl, H.bel, mk_bool⟩
   ·refine wp_skip (then_n (sqz (pz 1 hf fun a hf => ?_)))
    obtain ⟨y16, hy16, hF⟩ := bs_ hF
    refine oc hf TF.cl18 (spec_DrawFewestSites_ok (S := TT) (mk_list (H.rt 4 rfl)) hy16) fun v39 w a hp40 hf => ?_
    obtain ⟨hb16, F22, v40, v41, rfl, hp41, hp42, hN9⟩ := hp40
    obtain ⟨A14, c22, F23, A15, c23, F24, rfl, rfl, hl14, hl15⟩ := Network_vo hp41
    obtain rfl := VR_int hp42
    have H := H.aO2 hb16 hN9 hl14 hl15
    have H := H.lend 0 rfl
    have H := H.lend 1 rfl
    refine pz 3 hf fun a hf => ?_
    refine aL hf H TF.zv27 fun b4 a w hf H => ?_
    refine sB 0 hf H TF.sz27 fun w H => ?_
    refine pz 1 hf fun a hf => ?_
    have hf := hf.pn [21, 22]
    refine wr (lN 0 hf H TF.la27 fun a hf => ?_)
    refine pz 1 hf fun a hf => ?_
    obtain ⟨y17, hy17, hF⟩ := bs_ hF
    refine oc hf TF.cl19 (impl_FewestSites_ok (S := TT) (Network_mkv (x := y16.1) (H.rt 1 rfl) (H.rt 0 rfl)) mk_int hy17) fun v42 w a hp43 hf => ?_
    obtain ⟨hb17, F25, v43, v44, v45, rfl, hp44, hp45, hp46, hN10⟩ := hp43
    obtain ⟨A16, c24, rfl, hl16⟩ := VO_list hp44
    obtain rfl := VR_bool hp45
    obtain rfl := VR_bool hp46
    have H := H.aO1 hb17 hN10 hl16
    have H := H.lend 0 rfl
    refine pz 7 hf fun a hf => ?_
    refine wr (lN 0 hf H TF.la27 fun a hf => ?_)
    refine pz 1 hf fun a hf => ?_
    obtain ⟨y18, hy18, hF⟩ := bs_ hF
    refine oc hf TF.cl20 (spec_FewestSites_ok (S := TT) (Network_mkv (x := y16.1) (H.rt 2 rfl) (H.rt 1 rfl)) mk_int hy18) fun v46 w a hp47 hf => ?_
    obtain ⟨hb18, v47, v48, v49, rfl, hp48, hp49, hp50⟩ := hp47
    obtain ⟨A17, c25, rfl, hl17⟩ := VR_list hp48
    obtain rfl := VR_bool hp49
    obtain rfl := VR_bool hp50
    obtain ⟨F27, H⟩ := H.addRo hb18 (p := MP.val [(.slice A17 y18.1.length c25)] (y18.1 : List Int)) hl17
    have H := H.lendQ 0 (q := MP.val [(.slice A17 y18.1.length c25)] (y18.1 : List Int)) rfl fun _ _ h => h
    refine pz 7 hf fun a hf => ?_
    have hf := hf.pn [21, 22, 23, 24, 25, 26, 27, 28]
    refine wl_end (then_n (sq (sq ?_)))
    obtain ⟨c26, hGc26, hF⟩ := bs_ hF
    have fh9 := hf.prune [21, 22, 23, 24, 25, 26, 27, 28] rfl
    have Hm9 := H.lt_ [true, false, false] [] [true, true, true, true, false, false, false, false] [0, 1, 2, 3]
    refine midF 198 (.bool c26) fh9 Hm9 ?_ fun a w hf H => ?_
    ·refine reg (pz 4 hf fun a hf => ?_)
     refine iteB hGc26 (fun hc25 hGc26 => ?_) fun hc25 hGc26 => ?_
     ·have hf := hf.lit 184 rfl hc25
      refine pz 14 hf fun a hf => ?_
      obtain rfl := oi hGc26
      have hf := hf.pn [198, 21, 22, 23, 24, 25, 26, 27, 28]
      have H := H.lt_ [true, false, false] [] [true, true, true, true, false, false, false, false] [0, 1, 2, 3]
      exact wl_end ⟨hf, H⟩
     ·have hf := hf.lit 184 rfl hc25
      refine pz 5 hf fun a hf => ?_
      refine iteB hGc26 (fun hc26 hGc26 => ?_) fun hc26 hGc26 => ?_
      ·have hf := hf.lit 189 rfl hc26
       refine pz 9 hf fun a hf => ?_
       obtain rfl := oi hGc26
       have hf := hf.pn [198, 21, 22, 23, 24, 25, 26, 27, 28]
       have H := H.lt_ [true, false, false] [] [true, true, true, true, false, false, false, false] [0, 1, 2, 3]
       exact wl_end ⟨hf, H⟩
      ·have hf := hf.lit 189 rfl hc26
       refine pz 2 hf fun a hf => ?_
       obtain ⟨y19, hy19, hGc26⟩ := bs_ hGc26
       refine wlg hf rfl rfl rfl (oC hf TF.cl9 (laws_vInts_ok (S := TT) (mk_list (H.rt 1 rfl)) (mk_list (H.rt 0 rfl)) hy19) fun v50 w a hp51 hf => ?_)
       obtain ⟨hb19, hp51⟩ := hp51
       obtain rfl := VR_bool hp51
       have H := H.keep hb19
       refine pz 3 hf fun a hf => ?_
       refine iteB hGc26 (fun hc27 hGc26 => ?_) fun hc27 hGc26 => ?_
       ·have hf := hf.lit 195 rfl hc27
        refine pz 3 hf fun a hf => ?_
        obtain rfl := oi hGc26
        have hf := hf.pn [198, 21, 22, 23, 24, 25, 26, 27, 28]
        have H := H.lt_ [true, false, false] [] [true, true, true, true, false, false, false, false] [0, 1, 2, 3]
        exact wl_end ⟨hf, H⟩
       ·have hf := hf.lit 195 rfl hc27
        refine pz 3 hf fun a hf => ?_
        obtain rfl := oi hGc26
        have hf := hf.pn [198, 21, 22, 23, 24, 25, 26, 27, 28]
        have H := H.lt_ [true, false, false] [] [true, true, true, true, false, false, false, false] [0, 1, 2, 3]
        exact wl_end ⟨hf, H⟩
    refine then_n (ib hF hf (fun hc28 hF => ?_) fun hc28 hF => ?_)
    ·refine sq ?_
     obtain ⟨c27, hGc27, hF⟩ := bs_ hF
     have fh10 := hf.prune [] rfl
     have Hm10 := H.lt_ [false] [] [false, false, false, false] []
     refine midF 2 (.bool c27) fh10 Hm10 ?_ fun a w hf H => ?_
     ·refine reg (pz 4 hf fun a hf => ?_)
      refine iteB hGc27 (fun hc29 hGc27 => ?_) fun hc29 hGc27 => ?_
      ·have hf := hf.lit 202 rfl hc29
       refine pz 5 hf fun a hf => ?_
       refine iteB hGc27 (fun hc30 hGc27 => ?_) fun hc30 hGc27 => ?_
       ·have hf := hf.lit 207 rfl hc30
        refine pz 2 hf fun a hf => ?_
        obtain ⟨y20, hy20, hGc27⟩ := bs_ hGc27
        refine wlg hf rfl rfl rfl (oC hf TF.cl9 (laws_vInts_ok (S := TT) (mk_list (H.rt 1 rfl)) (mk_list (H.rt 0 rfl)) hy20) fun v51 w a hp52 hf => ?_)
        obtain ⟨hb20, hp52⟩ := hp52
        obtain rfl := VR_bool hp52
        have H := H.keep hb20
        refine pz 2 hf fun a hf => ?_
        obtain rfl := oi hGc27
        have hf := hf.pn [2]
        have H := H.lt_ [false] [] [false, false, false, false] []
        exact wl_end ⟨hf, H⟩
       ·have hf := hf.lit 207 rfl hc30
        refine pz 5 hf fun a hf => ?_
        obtain rfl := oi hGc27
        have hf := hf.pn [2]
        have H := H.lt_ [false] [] [false, false, false, false] []
        exact wl_end ⟨hf, H⟩
      ·have hf := hf.lit 202 rfl hc29
       refine pz 10 hf fun a hf => ?_
       obtain rfl := oi hGc27
       have hf := hf.pn [2]
       have H := H.lt_ [false] [] [false, false, false, false] []
       exact wl_end ⟨hf, H⟩
     refine then_n (wp_ret (then_r (?_)))
     obtain rfl := oi hF
     refine rT hf ?_
     exact ⟨_, rfl, H.bel, mk_bool⟩
    ·refine wp_skip (then_n (sq (reg (lN 0 hf H TF.la27 fun a hf => ?_))))
     refine pz 2 hf fun a hf => ?_
     obtain ⟨y21, hy21, hF⟩ := bs_ hF
     refine oc hf TF.cl21 (impl_SitesConnect_ok (S := TT) (Network_mkv (x := y16.1) (H.rt 3 rfl) (H.rt 2 rfl)) (mk_list (H.rt 1 rfl)) mk_int hy21) fun v52 w a hp53 hf => ?_
     obtain ⟨hb21, v53, v54, rfl, hp54, hp55⟩ := hp53
     obtain rfl := VR_bool hp54
     obtain rfl := VR_bool hp55
     have H := H.keep hb21
     refine pz 5 hf fun a hf => ?_
     have hf := hf.pn [29, 30]
     refine wl_end (then_n (sq ?_))
     obtain ⟨c28, hGc28, hF⟩ := bs_ hF
     have fh11 := hf.prune [] rfl
     have Hm11 := H.lt_ [false] [] [false, false, false, false] []
     refine midF 2 (.bool c28) fh11 Hm11 ?_ fun a w hf H => ?_
     ·refine reg (pz 2 hf fun a hf => ?_)
      refine iteB hGc28 (fun hc31 hGc28 => ?_) fun hc31 hGc28 => ?_
      ·have hf := hf.lit 220 rfl hc31
       refine pz 3 hf fun a hf => ?_
       obtain rfl := oi hGc28
       have hf := hf.pn [2]
       have H := H.lt_ [false] [] [false, false, false, false] []
       exact wl_end ⟨hf, H⟩
      ·have hf := hf.lit 220 rfl hc31
       refine pz 3 hf fun a hf => ?_
       obtain rfl := oi hGc28
       have hf := hf.pn [2]
       have H := H.lt_ [false] [] [false, false, false, false] []
       exact wl_end ⟨hf, H⟩
     refine then_n (wp_ret (?_))
     obtain rfl := oi hF
     refine rT hf ?_
     exact ⟨_, rfl, H.bel, mk_bool⟩
end AT
