/- The Go functions do what is told of them, by program (gen.py). -/
import Derived.Test.YtmokfdffnijbbaaGreatWFnExact1
set_option linter.unusedVariables false
set_option linter.unusedSimpArgs false
set_option maxRecDepth 100000
set_option maxHeartbeats 1000000
namespace AT
open Go Go.RowKit Go.Proofs
variable {fu : Nat} {w0 : World}
theorem impl_greedy_ok {S : Nat → Prop} {v0_ : Value} {v1_ : Value} {list : List Request} {order : List Int} {r : List Block × Bool} (h0 : VR w0 S v0_ list) (h1 : VR w0 S v1_ order) (hF : impl_greedy fu list order = some r) :
    Calls Tryz.prog 78 [v0_, v1_].toArray w0 fun e w' => ∃ v, e = .returned v ∧ (Below w0.heap.size w0 w' ∧ ∃ F0, ∃ u0 u1, v = .tuple #[u0, u1] ∧ VO w' F0 u0 r.1 ∧ VR w' (St ⟨w0, []⟩ S [] [] [] true) u1 r.2 ∧ New w0 w' F0) := by
 obtain ⟨A, c, rfl, hl⟩ := VR_list h0
 obtain ⟨A2, c2, rfl, hl2⟩ := VR_list h1
 have H := Mem.start ⟨w0, []⟩ S
 have H := H.pA hl
 have H := H.pA hl2
 refine en Tryz.func78 fun a hf => ?_
 rw [impl_greedy] at hF
 refine sqz (pz 2 hf fun a hf => ?_)
 refine wl_end (then_n (sq ?_))
 obtain ⟨l, hl_, hF⟩ := bs_ hF
 obtain ⟨l2, hl2_, hF⟩ := bs_ hF
 refine mid (fun a w => ∃ (b' : Nat) (A4 : Option Addr) (c4 : Nat) (A3 : Option Addr) (c3 : Nat), Fr a 56 [(0, (.slice A list.length c)), (1, (.slice A2 order.length c2)), (6, (.slice A3 l.length c3)), (7, (.pointer (some ⟨b', 0, none⟩)))] ∧ Mem ⟨w0, []⟩ S [⟨b', 131, [(.slice A4 l2.length c4)]⟩] [⟨.sh true, 4, A4, c4, (l2 : List Bool)⟩, ⟨.sh true, 71, A3, c3, (l : List Block)⟩] [] [(false, MP.val [(.slice A2 order.length c2)] (order : List Int)), (false, MP.val [(.slice A list.length c)] (list : List Request))] w) ?_ ?_
 ·refine dw [8] 9 fun w hb => ?_
  have H := H.keep hb
  refine zp 0 hf trivial fun a hf => ?_
  refine zp 1 hf trivial fun a hf => ?_
  refine zp 3 hf trivial fun a hf => ?_
  refine zp 4 hf trivial fun a hf => ?_
  refine on3 (i := 2) (j := 5) (k := 6) (bi := [true, true, true, true, true, false, false, false, false]) (bj := [true, true, false, true, true, true, false, false, false]) (bk := [true, true, false, true, true, false, true, false, false]) (by kernel_rfl) rfl rfl rfl rfl rfl rfl rfl rfl rfl ?_ ?_ ?_
  ·refine (op_make (z0 := (({ First := 0, Count := 0 } : Block) : Block)) hf H Tryz.underlying50 TF.ai71 rfl (by decide) rfl rfl (Block_mk (x := ({ First := 0, Count := 0 } : Block))) hl_ (by decide) fun A3 c3 a w hf H => ?_)
   refine ⟨fun _ => trivial, ?_⟩
   refine on2 (i := 5) (j := 6) (bi := [true, true, true, true, true, true, false, false, false]) (bj := [true, true, true, true, true, false, true, false, false]) (by kernel_rfl) rfl rfl rfl rfl rfl rfl ?_ ?_
   ·refine (op_make (z0 := (false : Bool)) hf H Tryz.underlying131 TF.ai4 rfl (by decide) rfl rfl rfl hl2_ (by decide) fun A4 c4 a w hf H => ?_)
    refine ⟨fun _ => trivial, ?_⟩
    refine nn 6 rfl (op_alloc hf H TF.zv131 rfl (by decide) fun b' a w hf H => ?_)
    refine ⟨fun _ => trivial, ?_⟩
    refine zp 7 hf trivial fun a hf => ?_
    refine nn 8 rfl (op_storeB hf H 0 TF.sz131 rfl rfl rfl rfl rfl rfl (nle rfl) fun w H => ?_)
    refine ⟨fun _ => trivial, ?_⟩
    refine dk ?_
    have hf := hf.pn [0, 1, 6, 7]
    have H := H.lt_ [true] [true, true] [] [0, 1]
    exact ⟨b', A4, c4, A3, c3, hf, H⟩
   ·refine (op_alloc hf H TF.zv131 rfl (by decide) fun b' a w hf H => ?_)
    refine ⟨fun _ => trivial, ?_⟩
    refine zp 7 hf trivial fun a hf => ?_
    refine nn 5 rfl (op_make (z0 := (false : Bool)) hf H Tryz.underlying131 TF.ai4 rfl (by decide) rfl rfl rfl hl2_ (by decide) fun A4 c4 a w hf H => ?_)
    refine ⟨fun _ => trivial, ?_⟩
    refine nn 8 rfl (op_storeB hf H 0 TF.sz131 rfl rfl rfl rfl rfl rfl (nle rfl) fun w H => ?_)
    refine ⟨fun _ => trivial, ?_⟩
    refine dk ?_
    have hf := hf.pn [0, 1, 6, 7]
    have H := H.lt_ [true] [true, true] [] [0, 1]
    exact ⟨b', A4, c4, A3, c3, hf, H⟩
  ·refine (op_make (z0 := (false : Bool)) hf H Tryz.underlying131 TF.ai4 rfl (by decide) rfl rfl rfl hl2_ (by decide) fun A3 c3 a w hf H => ?_)
   refine ⟨fun _ => trivial, ?_⟩
   refine on2 (i := 2) (j := 6) (bi := [true, true, true, true, true, true, false, false, false]) (bj := [true, true, false, true, true, true, true, false, false]) (by kernel_rfl) rfl rfl rfl rfl rfl rfl ?_ ?_
   ·refine (op_make (z0 := (({ First := 0, Count := 0 } : Block) : Block)) hf H Tryz.underlying50 TF.ai71 rfl (by decide) rfl rfl (Block_mk (x := ({ First := 0, Count := 0 } : Block))) hl_ (by decide) fun A4 c4 a w hf H => ?_)
    refine ⟨fun _ => trivial, ?_⟩
    refine nn 6 rfl (op_alloc hf H TF.zv131 rfl (by decide) fun b' a w hf H => ?_)
    refine ⟨fun _ => trivial, ?_⟩
    refine zp 7 hf trivial fun a hf => ?_
    refine nn 8 rfl (op_storeB hf H 0 TF.sz131 rfl rfl rfl rfl rfl rfl (nle rfl) fun w H => ?_)
    refine ⟨fun _ => trivial, ?_⟩
    refine dk ?_
    have H := H.frontR 1 rfl
    have hf := hf.pn [0, 1, 6, 7]
    have H := H.lt_ [true] [true, true] [] [0, 1]
    exact ⟨b', A3, c3, A4, c4, hf, H⟩
   ·refine (op_alloc hf H TF.zv131 rfl (by decide) fun b' a w hf H => ?_)
    refine ⟨fun _ => trivial, ?_⟩
    refine nn 2 rfl (op_make (z0 := (({ First := 0, Count := 0 } : Block) : Block)) hf H Tryz.underlying50 TF.ai71 rfl (by decide) rfl rfl (Block_mk (x := ({ First := 0, Count := 0 } : Block))) hl_ (by decide) fun A4 c4 a w hf H => ?_)
    refine ⟨fun _ => trivial, ?_⟩
    refine zp 7 hf trivial fun a hf => ?_
    refine nn 8 rfl (op_storeB hf H 0 TF.sz131 rfl rfl rfl rfl rfl rfl (nle rfl) fun w H => ?_)
    refine ⟨fun _ => trivial, ?_⟩
    refine dk ?_
    have H := H.frontR 1 rfl
    have hf := hf.pn [0, 1, 6, 7]
    have H := H.lt_ [true] [true, true] [] [0, 1]
    exact ⟨b', A3, c3, A4, c4, hf, H⟩
  ·refine (op_alloc hf H TF.zv131 rfl (by decide) fun b' a w hf H => ?_)
   refine ⟨fun _ => trivial, ?_⟩
   refine on2 (i := 2) (j := 5) (bi := [true, true, true, true, true, false, true, false, false]) (bj := [true, true, false, true, true, true, true, false, false]) (by kernel_rfl) rfl rfl rfl rfl rfl rfl ?_ ?_
   ·refine (op_make (z0 := (({ First := 0, Count := 0 } : Block) : Block)) hf H Tryz.underlying50 TF.ai71 rfl (by decide) rfl rfl (Block_mk (x := ({ First := 0, Count := 0 } : Block))) hl_ (by decide) fun A3 c3 a w hf H => ?_)
    refine ⟨fun _ => trivial, ?_⟩
    refine zp 7 hf trivial fun a hf => ?_
    refine nn 5 rfl (op_make (z0 := (false : Bool)) hf H Tryz.underlying131 TF.ai4 rfl (by decide) rfl rfl rfl hl2_ (by decide) fun A4 c4 a w hf H => ?_)
    refine ⟨fun _ => trivial, ?_⟩
    refine nn 8 rfl (op_storeB hf H 0 TF.sz131 rfl rfl rfl rfl rfl rfl (nle rfl) fun w H => ?_)
    refine ⟨fun _ => trivial, ?_⟩
    refine dk ?_
    have hf := hf.pn [0, 1, 6, 7]
    have H := H.lt_ [true] [true, true] [] [0, 1]
    exact ⟨b', A4, c4, A3, c3, hf, H⟩
   ·refine (op_make (z0 := (false : Bool)) hf H Tryz.underlying131 TF.ai4 rfl (by decide) rfl rfl rfl hl2_ (by decide) fun A3 c3 a w hf H => ?_)
    refine ⟨fun _ => trivial, ?_⟩
    refine nn 2 rfl (op_make (z0 := (({ First := 0, Count := 0 } : Block) : Block)) hf H Tryz.underlying50 TF.ai71 rfl (by decide) rfl rfl (Block_mk (x := ({ First := 0, Count := 0 } : Block))) hl_ (by decide) fun A4 c4 a w hf H => ?_)
    refine ⟨fun _ => trivial, ?_⟩
    refine zp 7 hf trivial fun a hf => ?_
    refine nn 8 rfl (op_storeB hf H 0 TF.sz131 rfl rfl rfl rfl rfl rfl (nle rfl) fun w H => ?_)
    refine ⟨fun _ => trivial, ?_⟩
    refine dk ?_
    have H := H.frontR 1 rfl
    have hf := hf.pn [0, 1, 6, 7]
    have H := H.lt_ [true] [true, true] [] [0, 1]
    exact ⟨b', A3, c3, A4, c4, hf, H⟩
 rintro a w ⟨b', A4, c4, A3, c3, hf, H⟩
 refine then_n (sq (sqz (pz 3 hf fun a hf => ?_)))
 refine wl_end (then_n ?_)
 obtain ⟨out', hB1, hF⟩ := bs_ hF
 have hf := hf.pn [0, 6, 7, 18, 19, 20]
 have H := H.lt_ [true] [true, true] [] [0, 1]
 refine loopC (fun (s : List Block × Int × List Bool) (a : Act) (w : World) => match s with | (blocks, i, m) => ∃ (A5 : Option Addr) (c5 : Nat) (E : Go.TypeId) (A6 : Option Addr) (c6 : Nat) (E2 : Go.TypeId), Fr a 56 [(0, (.slice A list.length c)), (6, (.slice A5 blocks.length c5)), (7, (.pointer (some ⟨b', 0, none⟩))), (18, (.slice A2 order.length c2)), (19, (.int .i64 (order.length : Int))), (20, (.int .i64 i))] ∧ Mem ⟨w0, []⟩ S [⟨b', 131, [(.slice A6 m.length c6)]⟩] [⟨.sh true, E2, A6, c6, (m : List Bool)⟩, ⟨.sh true, E, A5, c5, (blocks : List Block)⟩] [] [(false, MP.val [(.slice A2 order.length c2)] (order : List Int)), (false, MP.val [(.slice A list.length c)] (list : List Request))] w) (fun k (s : List Block × Int × List Bool) => impl_greedy_L1 fu list order k s.1 s.2.1 s.2.2 = some out') (fun s => out' = Out.next s) (l, 0, l2) fu hB1 ⟨A3, c3, 71, A4, c4, 4, hf, H⟩ (fun s h => by cases h) ?_ ?_
 ·rintro fk ⟨blocks, i, m⟩ a w hR1 hI
  replace hR1 : impl_greedy_L1 fu list order (fk + 1) blocks i m = some out' := hR1
  rw [impl_greedy_L1] at hR1
  obtain ⟨A5, c5, E, A6, c6, E2, hf, H⟩ := hI
  refine sqz (pz 1 hf fun a hf => ?_)
  refine wl_end (then_n (sq (ib hR1 hf (fun hc hR1 => ?_) fun hc hR1 => ?_)))
  ·refine wp_skip (then_n (sq (wp_block (sq (reg ?_)))))
   obtain ⟨e, he, hR1⟩ := bs_ hR1
   refine wl0 rfl (op_iaddr hf H Tryz.underlying47 TF.sz3 0 rfl rfl rfl he (by decide) fun p o cs a hf hr H => ?_)
   obtain rfl := hr
   refine oq hf (rq_loadI hf H TF.ls3 0 0 rfl rfl rfl) fun a hf => ?_
   refine pz 1 hf fun a hf => ?_
   refine wr (pz 1 hf fun a hf => ?_)
   refine wl_end (then_n ?_)
   obtain ⟨out2, hB2, hR1⟩ := bs_ hR1
   have hf := hf.pn [0, 6, 7, 9, 10, 18, 19, 20]
   have H := H.lt_ [true] [true, true] [] [1, 2]
   refine loopC (fun (s : List Block × Int × List Bool) (a : Act) (w : World) => match s with | (blocks2, first, m2) => ∃ (A7 : Option Addr) (c7 : Nat) (E3 : Go.TypeId) (A8 : Option Addr) (c8 : Nat) (E4 : Go.TypeId), Fr a 56 [(0, (.slice A list.length c)), (6, (.slice A7 blocks2.length c7)), (7, (.pointer (some ⟨b', 0, none⟩))), (9, (.int .i64 e)), (10, (.int .i64 first)), (18, (.slice A2 order.length c2)), (19, (.int .i64 (order.length : Int))), (20, (.int .i64 i))] ∧ Mem ⟨w0, []⟩ S [⟨b', 131, [(.slice A8 m2.length c8)]⟩] [⟨.sh true, E4, A8, c8, (m2 : List Bool)⟩, ⟨.sh true, E3, A7, c7, (blocks2 : List Block)⟩] [] [(false, MP.val [(.slice A2 order.length c2)] (order : List Int)), (false, MP.val [(.slice A list.length c)] (list : List Request))] w) (fun k (s : List Block × Int × List Bool) => impl_greedy_L2 fu list e k s.1 s.2.1 s.2.2 = some out2) (fun s => out2 = Out.next s) (blocks, 0, m) fu hB2 ⟨A5, c5, E, A6, c6, E2, hf, H⟩ (fun s h => by cases h) ?_ ?_
   ·rintro fk ⟨blocks2, first, m2⟩ a w hR2 hI
    replace hR2 : impl_greedy_L2 fu list e (fk + 1) blocks2 first m2 = some out2 := hR2
    rw [impl_greedy_L2] at hR2
    obtain ⟨A7, c7, E3, A8, c8, E4, hf, H⟩ := hI
    refine sq (sq (reg (lB 0 hf H TF.ls131 fun a hf => ?_)))
    refine pz 1 hf fun a hf => ?_
    obtain ⟨e2, he2, hR2⟩ := bs_ hR2
    refine wl0 rfl (op_iaddrR hf H Tryz.underlying131 TF.sz4 0 rfl rfl rfl he2 (by decide) fun p2 o2 cs2 a hf hA hr2 hk => ?_)
    obtain rfl := hr2
    refine oq hf (rq_load1 hf TF.ls4 rfl (hk 0 _ rfl)) fun a hf => ?_
    refine pz 1 hf fun a hf => ?_
    refine wl_end (then_n (ib hR2 hf (fun hc2 hR2 => ?_) fun hc2 hR2 => ?_))
    ·refine ws (pz 3 hf fun a hf => ?_)
     obtain ⟨e3, he3, hR2⟩ := bs_ hR2
     refine wl0 rfl (op_iaddr hf H Tryz.underlying46 TF.sz61 1 rfl rfl rfl he3 (by decide) fun p3 o3 cs3 a hf hr3 H => ?_)
     obtain ⟨A9, c9, rfl, hl3⟩ := Request_cells hr3
     have H := H.pF hl3
     refine pz 1 hf fun a hf => ?_
     refine oq hf (rq_loadI hf H TF.ls3 1 2 rfl rfl rfl) fun a hf => ?_
     refine oq hf (rq_build hf (cs := [(.int .i64 first), (.int .i64 e3.Count)]) rfl (fun w => by kernel_rfl)) fun a hf => ?_
     refine aL hf H TF.zv71 fun b2 a w hf H => ?_
     refine sB 0 hf H TF.sz71 fun w H => ?_
     refine wl_end (then_n (sq (sq (reg (lN 0 hf H TF.la71 fun a hf => ?_)))))
     obtain ⟨y, hy, hR2⟩ := bs_ hR2
     refine oc hf TF.cl71 (impl_IsValidBlock_ok (S := TT) Block_mkv hy) fun v w a hp hf => ?_
     obtain ⟨hb, hp⟩ := hp
     obtain rfl := VR_bool hp
     have H := H.keep hb
     refine pz 1 hf fun a hf => ?_
     have hf := hf.pn [0, 6, 7, 9, 10, 11, 18, 19, 20, 40]
     refine wl_end (then_n (ib hR2 hf (fun hc3 hR2 => ?_) fun hc3 hR2 => ?_))
     ·refine sqz (pz 2 hf fun a hf => ?_)
      refine wl_end (then_n (wp_ret (then_r (blk_r (then_r (then_r (blk_r (then_r (blk_r (then_r (then_r (blk_r (then_r (then_r (?_)))))))))))))))
      have H := H.ownNil (Block)
      have H := H.lend 0 rfl
      obtain rfl := oi hR2
      replace hR1 := on_ret hR1
      obtain rfl := oi hR1
      replace hF := on_ret hF
      obtain rfl := oi hF
      refine ret_2 hf rfl (rv_tmp hf rfl) (rv_tmp hf rfl) ?_
      have hN := H.ends1
      exact ⟨_, rfl, H.bel, [], _, _, rfl, (mko_list (H.ownAt 0 rfl)), mk_bool, by first | exact hN | simpa using hN⟩
     ·refine wp_skip (then_n (sqz (pz 3 hf fun a hf => ?_)))
      refine lN 0 hf H TF.la71 fun a hf => ?_
      refine oq hf (rq_makeFunc hf rfl) fun a hf => ?_
      obtain ⟨y2, hy2, hR2⟩ := bs_ hR2
      refine oc hf TF.cl72 (impl_isFree_of_greedy_c1_ok (S := TT) (mk_list (H.rt 3 rfl)) (mk_list (H.rowTrue 1 rfl)) mk_int Block_mkv (H.boxTrue 1 rfl) (H.rowTrue 0 rfl) hy2) fun v2 w a hp2 hf => ?_
      obtain ⟨hb2, hp2⟩ := hp2
      obtain rfl := VR_bool hp2
      have H := H.keep hb2
      refine wl_end (then_n (ib hR2 hf (fun hc4 hR2 => ?_) fun hc4 hR2 => ?_))
      ·obtain ⟨e4, he4, hR2⟩ := bs_ hR2
       obtain ⟨e5, he5, hR2⟩ := bs_ hR2
       refine mid (fun a w => Fr a 56 [(0, (.slice A list.length c)), (6, (.slice A7 (blocks2.set (e : Int).toNat ({ First := first, Count := e3.Count } : Block)).length c7)), (7, (.pointer (some ⟨b', 0, none⟩))), (9, (.int .i64 e)), (10, (.int .i64 first)), (18, (.slice A2 order.length c2)), (19, (.int .i64 (order.length : Int))), (20, (.int .i64 i))] ∧ Mem ⟨w0, []⟩ S [⟨b', 131, [(.slice A8 (m2.set (e : Int).toNat true).length c8)]⟩] [⟨.sh true, E4, A8, c8, (m2.set (e : Int).toNat true : List Bool)⟩, ⟨.sh true, E3, A7, c7, (blocks2.set (e : Int).toNat ({ First := first, Count := e3.Count } : Block) : List Block)⟩] [] [(false, MP.val [(.slice A2 order.length c2)] (order : List Int)), (false, MP.val [(.slice A list.length c)] (list : List Request))] w) ?_ ?_
       ·refine dw [6, 8] 9 fun w hb => ?_
        have H := H.keep hb
        refine zp 0 hf trivial fun a hf => ?_
        refine zp 1 hf trivial fun a hf => ?_
        refine zp 3 hf trivial fun a hf => ?_
        refine strT (H.lt_ [true, false] [false, false] [] []) (fun w H => trivial) fun hS => ?_
        refine zS 4 [4, 5, 6, 7, 8] rfl rfl rfl rfl hf hS (fun w H => rq_loadBN hf H TF.la71 0 rfl rfl rfl rfl) fun a hf => ?_
        obtain ⟨p4, o4, hA2, hx⟩ := pre_iaddrR H Tryz.underlying50 TF.sz71 1 rfl he4
        refine zP 5 rfl rfl rfl rfl hf hS (fun w => rq_iaddrE hf rfl rfl rfl hx w) fun a hf => ?_
        refine on2 (i := 2) (j := 6) (bi := [true, true, true, true, true, true, false, false, false]) (bj := [true, true, false, true, true, true, true, false, false]) (by kernel_rfl) rfl rfl rfl rfl rfl rfl ?_ ?_
        ·refine (op_q hf (rq_loadB hf H TF.ls131 1 rfl rfl rfl) rfl (by decide) fun a hf => ?_)
         have hS := H.lt_ [true, false] [false, false] [] []
         refine aS hS ?_
         refine nn 6 rfl (op_storeR (e' := ({ First := first, Count := e3.Count } : Block)) (o := o4) (off := 0) hf H TF.sz71 1 rfl rfl rfl rfl rfl (nle rfl) rfl hA2 he4 (st_full (Block_mk (x := ({ First := first, Count := e3.Count } : Block)))) fun w H => ?_)
         replace hf : Fr a 56 [(0, (.slice A list.length c)), (6, (.slice A7 blocks2.length c7)), (7, (.pointer (some ⟨b', 0, none⟩))), (9, (.int .i64 e)), (10, (.int .i64 first)), (11, (.pointer (some ⟨b2, 0, none⟩))), (18, (.slice A2 order.length c2)), (19, (.int .i64 (order.length : Int))), (20, (.int .i64 i)), (47, (.slice A7 blocks2.length c7)), (48, (.int .i64 e)), (49, (.slice A8 m2.length c8)), (50, (.int .i64 e)), (51, (.agg #[(.int .i64 first), (.int .i64 e3.Count)])), (52, (.pointer (some ⟨p4, o4 + 0, none⟩)))] := hf.prune [0, 6, 7, 9, 10, 11, 18, 19, 20, 47, 48, 49, 50, 51, 52] rfl
         replace hf : Fr a 56 [(0, (.slice A list.length c)), (6, (.slice A7 (blocks2.set (e : Int).toNat ({ First := first, Count := e3.Count } : Block)).length c7)), (7, (.pointer (some ⟨b', 0, none⟩))), (9, (.int .i64 e)), (10, (.int .i64 first)), (11, (.pointer (some ⟨b2, 0, none⟩))), (18, (.slice A2 order.length c2)), (19, (.int .i64 (order.length : Int))), (20, (.int .i64 i)), (47, (.slice A7 (blocks2.set (e : Int).toNat ({ First := first, Count := e3.Count } : Block)).length c7)), (48, (.int .i64 e)), (49, (.slice A8 m2.length c8)), (50, (.int .i64 e)), (51, (.agg #[(.int .i64 first), (.int .i64 e3.Count)])), (52, (.pointer (some ⟨p4, o4 + 0, none⟩)))] := by simpa only [List.length_set, Nat.add_zero] using hf
         refine ⟨fun h => absurd h (by decide), ?_⟩
         refine nn 7 rfl (op_iaddrR hf H Tryz.underlying131 TF.sz4 0 rfl rfl rfl he5 (by decide) fun p5 o5 cs4 a hf hA3 hr4 hk2 => ?_)
         obtain rfl := hr4
         refine ⟨fun h => absurd h (by decide), ?_⟩
         refine nn 8 rfl (op_storeR (e' := true) (o := o5) (off := 0) hf H TF.sz4 0 rfl rfl rfl rfl rfl (nle rfl) rfl hA3 he5 (st_full rfl) fun w H => ?_)
         replace hf : Fr a 56 [(0, (.slice A list.length c)), (6, (.slice A7 (blocks2.set (e : Int).toNat ({ First := first, Count := e3.Count } : Block)).length c7)), (7, (.pointer (some ⟨b', 0, none⟩))), (9, (.int .i64 e)), (10, (.int .i64 first)), (11, (.pointer (some ⟨b2, 0, none⟩))), (18, (.slice A2 order.length c2)), (19, (.int .i64 (order.length : Int))), (20, (.int .i64 i)), (47, (.slice A7 (blocks2.set (e : Int).toNat ({ First := first, Count := e3.Count } : Block)).length c7)), (48, (.int .i64 e)), (49, (.slice A8 m2.length c8)), (50, (.int .i64 e)), (51, (.agg #[(.int .i64 first), (.int .i64 e3.Count)])), (52, (.pointer (some ⟨p4, o4 + 0, none⟩))), (53, (.pointer (some ⟨p5, o5 + 0, none⟩)))] := hf.prune [0, 6, 7, 9, 10, 11, 18, 19, 20, 47, 48, 49, 50, 51, 52, 53] rfl
         replace hf : Fr a 56 [(0, (.slice A list.length c)), (6, (.slice A7 (blocks2.set (e : Int).toNat ({ First := first, Count := e3.Count } : Block)).length c7)), (7, (.pointer (some ⟨b', 0, none⟩))), (9, (.int .i64 e)), (10, (.int .i64 first)), (11, (.pointer (some ⟨b2, 0, none⟩))), (18, (.slice A2 order.length c2)), (19, (.int .i64 (order.length : Int))), (20, (.int .i64 i)), (47, (.slice A7 (blocks2.set (e : Int).toNat ({ First := first, Count := e3.Count } : Block)).length c7)), (48, (.int .i64 e)), (49, (.slice A8 (m2.set (e : Int).toNat true).length c8)), (50, (.int .i64 e)), (51, (.agg #[(.int .i64 first), (.int .i64 e3.Count)])), (52, (.pointer (some ⟨p4, o4 + 0, none⟩))), (53, (.pointer (some ⟨p5, o5 + 0, none⟩)))] := by simpa only [List.length_set, Nat.add_zero] using hf
         replace H : Mem ⟨w0, []⟩ S [⟨b2, 71, [(.int .i64 first), (.int .i64 e3.Count)]⟩, ⟨b', 131, [(.slice A8 (m2.set (e : Int).toNat true).length c8)]⟩] [⟨.sh true, E4, A8, c8, (m2.set (e : Int).toNat true : List Bool)⟩, ⟨.sh true, E3, A7, c7, (blocks2.set (e : Int).toNat ({ First := first, Count := e3.Count } : Block) : List Block)⟩] [] [(false, MP.val [(.slice A9 e3.Route.Fibers.length c9)] (e3.Route.Fibers : List Int)), (false, MP.cells ⟨p3, o3, none⟩ [(.int .i64 e3.Route.Start), (.slice A9 e3.Route.Fibers.length c9), (.int .i64 e3.Count)]), (false, MP.val [(.slice A2 order.length c2)] (order : List Int)), (false, MP.val [(.slice A list.length c)] (list : List Request))] w := by first | (simp only [List.length_set]; exact H) | (simp only [List.length_set] at H ⊢; exact H)
         refine ⟨fun h => absurd h (by decide), ?_⟩
         refine dk ?_
         have hf := hf.pn [0, 6, 7, 9, 10, 18, 19, 20]
         have H := H.lt_ [false, true] [true, true] [] [2, 3]
         exact ⟨hf, H⟩
        ·refine (op_storeR (e' := ({ First := first, Count := e3.Count } : Block)) (o := o4) (off := 0) hf H TF.sz71 1 rfl rfl rfl rfl rfl (nle rfl) rfl hA2 he4 (st_full (Block_mk (x := ({ First := first, Count := e3.Count } : Block)))) fun w H => ?_)
         replace hf : Fr a 56 [(0, (.slice A list.length c)), (6, (.slice A7 blocks2.length c7)), (7, (.pointer (some ⟨b', 0, none⟩))), (9, (.int .i64 e)), (10, (.int .i64 first)), (11, (.pointer (some ⟨b2, 0, none⟩))), (18, (.slice A2 order.length c2)), (19, (.int .i64 (order.length : Int))), (20, (.int .i64 i)), (47, (.slice A7 blocks2.length c7)), (48, (.int .i64 e)), (50, (.int .i64 e)), (51, (.agg #[(.int .i64 first), (.int .i64 e3.Count)])), (52, (.pointer (some ⟨p4, o4 + 0, none⟩)))] := hf.prune [0, 6, 7, 9, 10, 11, 18, 19, 20, 47, 48, 50, 51, 52] rfl
         replace hf : Fr a 56 [(0, (.slice A list.length c)), (6, (.slice A7 (blocks2.set (e : Int).toNat ({ First := first, Count := e3.Count } : Block)).length c7)), (7, (.pointer (some ⟨b', 0, none⟩))), (9, (.int .i64 e)), (10, (.int .i64 first)), (11, (.pointer (some ⟨b2, 0, none⟩))), (18, (.slice A2 order.length c2)), (19, (.int .i64 (order.length : Int))), (20, (.int .i64 i)), (47, (.slice A7 (blocks2.set (e : Int).toNat ({ First := first, Count := e3.Count } : Block)).length c7)), (48, (.int .i64 e)), (50, (.int .i64 e)), (51, (.agg #[(.int .i64 first), (.int .i64 e3.Count)])), (52, (.pointer (some ⟨p4, o4 + 0, none⟩)))] := by simpa only [List.length_set, Nat.add_zero] using hf
         refine ⟨fun h => absurd h (by decide), ?_⟩
         refine nn 2 rfl (op_q hf (rq_loadB hf H TF.ls131 1 rfl rfl rfl) rfl (by decide) fun a hf => ?_)
         refine ⟨fun h => absurd h (by decide), ?_⟩
         refine nn 7 rfl (op_iaddrR hf H Tryz.underlying131 TF.sz4 0 rfl rfl rfl he5 (by decide) fun p5 o5 cs4 a hf hA3 hr4 hk2 => ?_)
         obtain rfl := hr4
         refine ⟨fun h => absurd h (by decide), ?_⟩
         refine nn 8 rfl (op_storeR (e' := true) (o := o5) (off := 0) hf H TF.sz4 0 rfl rfl rfl rfl rfl (nle rfl) rfl hA3 he5 (st_full rfl) fun w H => ?_)
         replace hf : Fr a 56 [(0, (.slice A list.length c)), (6, (.slice A7 (blocks2.set (e : Int).toNat ({ First := first, Count := e3.Count } : Block)).length c7)), (7, (.pointer (some ⟨b', 0, none⟩))), (9, (.int .i64 e)), (10, (.int .i64 first)), (11, (.pointer (some ⟨b2, 0, none⟩))), (18, (.slice A2 order.length c2)), (19, (.int .i64 (order.length : Int))), (20, (.int .i64 i)), (47, (.slice A7 (blocks2.set (e : Int).toNat ({ First := first, Count := e3.Count } : Block)).length c7)), (48, (.int .i64 e)), (49, (.slice A8 m2.length c8)), (50, (.int .i64 e)), (51, (.agg #[(.int .i64 first), (.int .i64 e3.Count)])), (52, (.pointer (some ⟨p4, o4 + 0, none⟩))), (53, (.pointer (some ⟨p5, o5 + 0, none⟩)))] := hf.prune [0, 6, 7, 9, 10, 11, 18, 19, 20, 47, 48, 49, 50, 51, 52, 53] rfl
         replace hf : Fr a 56 [(0, (.slice A list.length c)), (6, (.slice A7 (blocks2.set (e : Int).toNat ({ First := first, Count := e3.Count } : Block)).length c7)), (7, (.pointer (some ⟨b', 0, none⟩))), (9, (.int .i64 e)), (10, (.int .i64 first)), (11, (.pointer (some ⟨b2, 0, none⟩))), (18, (.slice A2 order.length c2)), (19, (.int .i64 (order.length : Int))), (20, (.int .i64 i)), (47, (.slice A7 (blocks2.set (e : Int).toNat ({ First := first, Count := e3.Count } : Block)).length c7)), (48, (.int .i64 e)), (49, (.slice A8 (m2.set (e : Int).toNat true).length c8)), (50, (.int .i64 e)), (51, (.agg #[(.int .i64 first), (.int .i64 e3.Count)])), (52, (.pointer (some ⟨p4, o4 + 0, none⟩))), (53, (.pointer (some ⟨p5, o5 + 0, none⟩)))] := by simpa only [List.length_set, Nat.add_zero] using hf
         replace H : Mem ⟨w0, []⟩ S [⟨b2, 71, [(.int .i64 first), (.int .i64 e3.Count)]⟩, ⟨b', 131, [(.slice A8 (m2.set (e : Int).toNat true).length c8)]⟩] [⟨.sh true, E4, A8, c8, (m2.set (e : Int).toNat true : List Bool)⟩, ⟨.sh true, E3, A7, c7, (blocks2.set (e : Int).toNat ({ First := first, Count := e3.Count } : Block) : List Block)⟩] [] [(false, MP.val [(.slice A9 e3.Route.Fibers.length c9)] (e3.Route.Fibers : List Int)), (false, MP.cells ⟨p3, o3, none⟩ [(.int .i64 e3.Route.Start), (.slice A9 e3.Route.Fibers.length c9), (.int .i64 e3.Count)]), (false, MP.val [(.slice A2 order.length c2)] (order : List Int)), (false, MP.val [(.slice A list.length c)] (list : List Request))] w := by first | (simp only [List.length_set]; exact H) | (simp only [List.length_set] at H ⊢; exact H)
         refine ⟨fun h => absurd h (by decide), ?_⟩
         refine dk ?_
         have hf := hf.pn [0, 6, 7, 9, 10, 18, 19, 20]
         have H := H.lt_ [false, true] [true, true] [] [2, 3]
         exact ⟨hf, H⟩
       rintro a w ⟨hf, H⟩
       refine blk_n (then_n (reg (pz 3 hf fun a hf => ?_)))
       refine wl_end ?_
       have hf := hf.pn [0, 6, 7, 9, 10, 18, 19, 20]
       have H := H.lt_ [true] [true, true] [] [0, 1]
       exact then_n ⟨(blocks2.set (e : Int).toNat ({ First := first, Count := e3.Count } : Block), w64 (first + 1), m2.set (e : Int).toNat true), hR2, A7, c7, E3, A8, c8, E4, hf, H⟩
      ·refine wp_skip (blk_n (then_n (reg (pz 3 hf fun a hf => ?_))))
       refine wl_end ?_
       have hf := hf.pn [0, 6, 7, 9, 10, 18, 19, 20]
       have H := H.lt_ [false, true] [true, true] [] [2, 3]
       exact then_n ⟨(blocks2, w64 (first + 1), m2), hR2, A7, c7, E3, A8, c8, E4, hf, H⟩
    ·refine wp_exit (then_x (then_x (blk_e (?_))))
     have hf := hf.pn [0, 6, 7, 9, 10, 18, 19, 20]
     have H := H.lt_ [true] [true, true] [] [0, 1]
     exact ⟨(blocks2, first, m2), (Option.some.inj hR2).symm, A7, c7, E3, A8, c8, E4, hf, H⟩
   rintro a w ⟨⟨blocks3, first2, m3⟩, rfl, A10, c10, E5, A11, c11, E6, hf, H⟩
   replace hR1 := on_next hR1
   try dsimp only at hR1
   refine blk_n (then_n (reg (pz 2 hf fun a hf => ?_)))
   refine wl_end ?_
   have hf := hf.pn [0, 6, 7, 18, 19, 20]
   have H := H.lt_ [true] [true, true] [] [0, 1]
   exact then_n ⟨(blocks3, w64 (i + 1), m3), hR1, A10, c10, E5, A11, c11, E6, hf, H⟩
  ·refine wp_exit (then_x (then_x (blk_e (?_))))
   have hf := hf.pn [0, 6, 7, 18, 19, 20]
   have H := H.lt_ [true] [true, true] [] [0, 1]
   exact ⟨(blocks, i, m), (Option.some.inj hR1).symm, A5, c5, E, A6, c6, E2, hf, H⟩
 rintro a w ⟨⟨blocks4, i2, m4⟩, rfl, A12, c12, E7, A13, c13, E8, hf, H⟩
 replace hF := on_next hF
 try dsimp only at hF
 refine then_n (sqz (pz 3 hf fun a hf => ?_))
 refine wer ?_
 have H := H.rowOwn 1 rfl rfl
 obtain ⟨F, H⟩ := H.freezeOwn 1 rfl
 have H := H.lend 0 rfl
 obtain rfl := oi hF
 refine ret_2 hf rfl (rv_tmp hf rfl) (rv_tmp hf rfl) ?_
 have hN := H.ends1
 exact ⟨_, rfl, H.bel, F, _, _, rfl, (mko_list (H.ownAt 0 rfl)), mk_bool, by first | exact hN | simpa using hN⟩
theorem impl_AssignGreedy_ok {S : Nat → Prop} {v0_ : Value} {v1_ : Value} {v2_ : Value} {n' : Network} {list : List Request} {order : List Int} {r : List Block × Int × Bool} (h0 : VR w0 S v0_ n') (h1 : VR w0 S v1_ list) (h2 : VR w0 S v2_ order) (hF : impl_AssignGreedy fu n' list order = some r) :
    Calls Tryz.prog 27 [v0_, v1_, v2_].toArray w0 fun e w' => ∃ v, e = .returned v ∧ (Below w0.heap.size w0 w' ∧ ∃ F0, ∃ u0 u1 u2, v = .tuple #[u0, u1, u2] ∧ VO w' F0 u0 r.1 ∧ VR w' (St ⟨w0, []⟩ S [] [] [] true) u1 r.2.1 ∧ VR w' (St ⟨w0, []⟩ S [] [] [] true) u2 r.2.2 ∧ New w0 w' F0) := by
 obtain ⟨A, c, A2, c2, rfl, hl, hl2⟩ := Network_open h0
 obtain ⟨A3, c3, rfl, hl3⟩ := VR_list h1
 obtain ⟨A4, c4, rfl, hl4⟩ := VR_list h2
 have H := Mem.start ⟨w0, []⟩ S
 have H := H.pA hl
 have H := H.pA hl2
 have H := H.pA hl3
 have H := H.pA hl4
 refine en Tryz.func27 fun a hf => ?_
 rw [impl_AssignGreedy] at hF
 refine bx hf H fun b' a w hf H => ?_
 refine pz 3 hf fun a hf => ?_
 refine wr (pz 1 hf fun a hf => ?_)
 obtain ⟨y, hy, hF⟩ := bs_ hF
 refine oc hf TF.cl75 (slices_Clone_int_int_ok (S := TT) (mk_list (H.rt 0 rfl)) hy) fun v w a hp hf => ?_
 obtain ⟨hb, F, hp2, hN⟩ := hp
 obtain ⟨A5, c5, rfl, hl5⟩ := VO_list hp2
 have H := H.aO1 hb hN hl5
 have H := H.lend 0 rfl
 refine pz 1 hf fun a hf => ?_
 refine wr (pz 1 hf fun a hf => ?_)
 obtain ⟨y2, hy2, hF⟩ := bs_ hF
 refine oc hf TF.cl76 (slices_Sort_int_int_ok (S := TT) (F := F) (cs := [(.slice A5 y.length c5)]) (H.ownAt 0 rfl) H.diNd.1 hy2) fun v2 w a hp3 hf => ?_
 obtain ⟨hch, hv, F3, ho, hbk⟩ := hp3
 subst hv
 have H := H.wrote rfl hch ho hbk
 have H := H.pA hl
 have H := H.pA hl2
 have H := H.pA hl3
 have H := H.pA hl4
 have H := H.lend 0 rfl
 refine wl_end (then_n (sq (sq ?_)))
 obtain ⟨c6, hGc6, hF⟩ := bs_ hF
 have fh := hf.prune [1, 2] rfl
 have Hm := H.lt_ [false] [] [false] [1, 2]
 refine midF 33 (.bool c6) fh Hm ?_ fun a w hf H => ?_
 ·refine reg (lN 0 hf H TF.la34 fun a hf => ?_)
  refine pz 1 hf fun a hf => ?_
  obtain ⟨y3, hy3, hGc6⟩ := bs_ hGc6
  refine oc hf TF.cl65 (impl_IsValidRequests_ok (S := TT) (Network_mkv (x := n') (H.rt 4 rfl) (H.rt 3 rfl)) (mk_list (H.rt 2 rfl)) hy3) fun v3 w a hp4 hf => ?_
  obtain ⟨hb2, hp4⟩ := hp4
  obtain rfl := VR_bool hp4
  have H := H.keep hb2
  refine pz 2 hf fun a hf => ?_
  refine iteB hGc6 (fun hc hGc6 => ?_) fun hc hGc6 => ?_
  ·have hf := hf.lit 20 rfl hc
   refine pz 13 hf fun a hf => ?_
   obtain rfl := oi hGc6
   have hf := hf.pn [33, 1, 2]
   have H := H.lt_ [false] [] [false] [1, 2]
   exact wl_end ⟨hf, H⟩
  ·have hf := hf.lit 20 rfl hc
   refine pz 7 hf fun a hf => ?_
   refine iteB hGc6 (fun hc2 hGc6 => ?_) fun hc2 hGc6 => ?_
   ·have hf := hf.lit 27 rfl hc2
    refine pz 6 hf fun a hf => ?_
    obtain rfl := oi hGc6
    have hf := hf.pn [33, 1, 2]
    have H := H.lt_ [false] [] [false] [1, 2]
    exact wl_end ⟨hf, H⟩
   ·have hf := hf.lit 27 rfl hc2
    refine pz 3 hf fun a hf => ?_
    obtain ⟨y4, hy4, hGc6⟩ := bs_ hGc6
    refine wlg hf rfl rfl rfl (oC hf TF.cl77 (impl_isSet_ok (S := TT) (mk_list (H.rt 0 rfl)) mk_int hy4) fun v4 w a hp5 hf => ?_)
    obtain ⟨hb3, hp5⟩ := hp5
    obtain rfl := VR_bool hp5
    have H := H.keep hb3
    refine pz 2 hf fun a hf => ?_
    obtain rfl := oi hGc6
    have hf := hf.pn [33, 1, 2]
    have H := H.lt_ [false] [] [false] [1, 2]
    exact wl_end ⟨hf, H⟩
 refine then_n (ib hF hf (fun hc3 hF => ?_) fun hc3 hF => ?_)
 ·refine sqz (pz 3 hf fun a hf => ?_)
  refine wl_end (then_n (wp_ret (then_r (?_))))
  have H := H.ownNil (Block)
  have H := H.lend 0 rfl
  obtain rfl := oi hF
  refine ret_3 hf rfl (rv_tmp hf rfl) (rv_tmp hf rfl) (rv_tmp hf rfl) ?_
  have hN := H.ends1
  exact ⟨_, rfl, H.bel, [], _, _, _, rfl, (mko_list (H.ownAt 0 rfl)), mk_int, mk_bool, by first | exact hN | simpa using hN⟩
 ·refine wp_skip (then_n (sqz (pz 2 hf fun a hf => ?_)))
  obtain ⟨y5, hy5, hF⟩ := bs_ hF
  refine oc hf TF.cl78 (impl_greedy_ok (S := TT) (mk_list (H.rt 1 rfl)) (mk_list (H.rt 0 rfl)) hy5) fun v5 w a hp6 hf => ?_
  obtain ⟨hb4, F4, v6, v7, rfl, hp7, hp8, hN2⟩ := hp6
  obtain ⟨A6, c7, rfl, hl6⟩ := VO_list hp7
  obtain rfl := VR_bool hp8
  have H := H.aO1 hb4 hN2 hl6
  have H := H.lend 0 rfl
  refine pz 5 hf fun a hf => ?_
  refine we (sqz (pz 2 hf fun a hf => ?_))
  refine wl_end (then_n (ib hF hf (fun hc4 hF => ?_) fun hc4 hF => ?_))
  ·refine sqz (pz 3 hf fun a hf => ?_)
   have hf := hf.pn [6, 7, 8]
   refine wl_end (then_n (wp_ret (then_r (?_))))
   have H := H.ownNil (Block)
   have H := H.lend 0 rfl
   obtain rfl := oi hF
   refine ret_3 hf rfl (rv_tmp hf rfl) (rv_tmp hf rfl) (rv_tmp hf rfl) ?_
   have hN := H.ends1
   exact ⟨_, rfl, H.bel, [], _, _, _, rfl, (mko_list (H.ownAt 0 rfl)), mk_int, mk_bool, by first | exact hN | simpa using hN⟩
  ·refine wp_skip (then_n (sqz (pz 2 hf fun a hf => ?_)))
   obtain ⟨y6, hy6, hF⟩ := bs_ hF
   refine oc hf TF.cl74 (impl_heightOf_ok (S := TT) (mk_list (H.rt 0 rfl)) hy6) fun v8 w a hp9 hf => ?_
   obtain ⟨hb5, hp9⟩ := hp9
   obtain rfl := VR_int hp9
   have H := H.keep hb5
   refine pz 3 hf fun a hf => ?_
   have hf := hf.pn [6, 7, 8]
   refine wer ?_
   obtain rfl := oi hF
   refine ret_3 hf rfl (rv_tmp hf rfl) (rv_tmp hf rfl) (rv_tmp hf rfl) ?_
   have hN := H.ends1
   exact ⟨_, rfl, H.bel, F4, _, _, _, rfl, (mko_list (H.ownAt 0 rfl)), mk_int, mk_bool, by first | exact hN | simpa using hN⟩
theorem spec_l12Order_ok {S : Nat → Prop} {v0_ : Value} {v1_ : Value} {order : List Int} {k' : Int} {r : Bool} (h0 : VR w0 S v0_ order) (h1 : VR w0 S v1_ k') (hF : spec_l12Order fu order k' = some r) :
    Calls Tryz.prog 79 [v0_, v1_].toArray w0 fun e w' => ∃ v, e = .returned v ∧ (Below w0.heap.size w0 w' ∧ VR w' (St ⟨w0, []⟩ S [] [] [] true) v r) := by
 obtain ⟨A, c, rfl, hl⟩ := VR_list h0
 obtain rfl := VR_int h1
 have H := Mem.start ⟨w0, []⟩ S
 have H := H.pA hl
 refine en Tryz.func79 fun a hf => ?_
 rw [spec_l12Order] at hF
 refine sqz (pz 1 hf fun a hf => ?_)
 refine we (sqz (pz 1 hf fun a hf => ?_))
 refine wl_end (then_n ?_)
 obtain ⟨out', hB1, hF⟩ := bs_ hF
 have hf := hf.pn [0, 1, 5]
 have H := H.lt_ [] [] [] [0]
 refine loopC (fun (s : Int) (a : Act) (w : World) => match s with | i => Fr a 34 [(0, (.slice A order.length c)), (1, (.int .i64 k')), (5, (.int .i64 i))] ∧ Mem ⟨w0, []⟩ S [] [] [] [(false, MP.val [(.slice A order.length c)] (order : List Int))] w) (fun k (s : Int) => spec_l12Order_L1 fu order k' k s = some out') (fun s => out' = Out.next s) 0 fu hB1 ⟨hf, H⟩ (fun s h => by cases h) ?_ ?_
 ·rintro fk i a w hR1 hI
  replace hR1 : spec_l12Order_L1 fu order k' (fk + 1) i = some out' := hR1
  rw [spec_l12Order_L1] at hR1
  obtain ⟨hf, H⟩ := hI
  refine sq (sqz (pz 4 hf fun a hf => ?_))
  refine wl_end (then_n (ib hR1 hf (fun hc hR1 => ?_) fun hc hR1 => ?_))
  ·refine wp_skip (then_n (sq (wp_block (sq ?_))))
   obtain ⟨c2, hGc2, hR1⟩ := bs_ hR1
   have fh := hf.prune [0, 1, 5] rfl
   have Hm := H.lt_ [] [] [] [0]
   refine midF 29 (.bool c2) fh Hm ?_ fun a w hf H => ?_
   ·refine dw [] 18 fun w hb => ?_
    have H := H.keep hb
    refine zp 0 hf trivial fun a hf => ?_
    refine zp 1 hf trivial fun a hf => ?_
    obtain ⟨e, he, hGc2⟩ := bs_ hGc2
    obtain ⟨p, o, cs, hx, hr, H⟩ := pre_iaddr H Tryz.underlying47 TF.sz3 0 rfl he
    refine tP 2 rfl rfl rfl rfl hf (by kernel_rfl) (fun _ => trivial) (fun w => rq_iaddrE hf rfl rfl rfl hx w) fun a hf => ?_
    obtain rfl := hr
    refine strT (H.lt_ [] [] [] [0]) (fun w H => trivial) fun hS => ?_
    refine zS 3 [] rfl rfl rfl rfl hf hS (fun w H => rq_loadI hf H TF.ls3 0 0 rfl rfl rfl) fun a hf => ?_
    refine zp 4 hf hS fun a hf => ?_
    refine zp 5 hf hS fun a hf => ?_
    obtain ⟨y, hy, hGc2⟩ := bs_ hGc2
    refine nn 6 rfl (oC hf TF.cl86 (spec_l1In_ok (S := TT) mk_int mk_int mk_int hy) fun v w a hp hf => ?_)
    obtain ⟨hb, hp⟩ := hp
    obtain rfl := VR_bool hp
    have H := H.keep hb
    have hS := H.lt_ [] [] [] [0]
    refine aS hS ?_
    refine zp 7 hf hS fun a hf => ?_
    refine zp 8 hf hS fun a hf => ?_
    refine iteB hGc2 (fun hc2 hGc2 => ?_) fun hc2 hGc2 => ?_
    ·have hf := hf.lit 20 rfl hc2
     refine zU 9 hf hS fun a hf => ?_
     refine zU 10 hf hS fun a hf => ?_
     refine zU 11 hf hS fun a hf => ?_
     refine zU 12 hf hS fun a hf => ?_
     refine zU 13 hf hS fun a hf => ?_
     refine zU 14 hf hS fun a hf => ?_
     refine zU 15 hf hS fun a hf => ?_
     refine zU 16 hf hS fun a hf => ?_
     refine zp 17 hf hS fun a hf => ?_
     refine dk ?_
     obtain rfl := oi hGc2
     have hf := hf.pn [29, 0, 1, 5]
     have H := H.lt_ [] [] [] [1]
     exact ⟨hf, H⟩
    ·have hf := hf.lit 20 rfl hc2
     refine zg 9 hf hS fun a hf => ?_
     refine zg 10 hf hS fun a hf => ?_
     obtain ⟨l, hl_, hGc2⟩ := bs_ hGc2
     obtain ⟨A2, c3, hx2, H⟩ := pre_slice H Tryz.underlying47 TF.sz3 1 (lov := none) (hiv := some (.int .i64 i)) (.inl ⟨rfl, rfl⟩) (.inr rfl) rfl hl_
     refine tPg 11 rfl rfl rfl rfl rfl rfl hf (by kernel_rfl) (fun _ => hS) (fun w => rq_sliceE hf rfl rfl rfl hx2 w) fun a hf => ?_
     refine zg 12 hf hS fun a hf => ?_
     refine zg 13 hf hS fun a hf => ?_
     obtain ⟨e2, he2, hGc2⟩ := bs_ hGc2
     obtain ⟨p2, o2, cs2, hx3, hr2, H⟩ := pre_iaddr H Tryz.underlying47 TF.sz3 2 rfl he2
     refine tPg 14 rfl rfl rfl rfl rfl rfl hf (by kernel_rfl) (fun _ => hS) (fun w => rq_iaddrE hf rfl rfl rfl hx3 w) fun a hf => ?_
     obtain rfl := hr2
     refine strT (H.lt_ [] [] [] [0, 2]) (fun w H => H.lt_ [] [] [] [1]) fun hS => ?_
     refine tSg 15 [] rfl rfl rfl rfl rfl rfl hf (by kernel_rfl) (by kernel_rfl) hS (fun w H => rq_loadI hf H TF.ls3 0 0 rfl rfl rfl) fun a hf => ?_
     obtain ⟨y2, hy2, hGc2⟩ := bs_ hGc2
     refine n1g 16 (by kernel_rfl) rfl rfl rfl rfl hf (oC hf TF.cl148 (spec_l1Has_ok (S := TT) (mk_list (H.rt 1 rfl)) mk_int hy2) fun v2 w a hp2 hf => ?_)
     obtain ⟨hb2, hp2⟩ := hp2
     obtain rfl := VR_bool hp2
     have H := H.keep hb2
     have hS := H.lt_ [] [] [] [0, 2]
     refine aS hS ?_
     refine zp 17 hf hS fun a hf => ?_
     refine dk ?_
     obtain rfl := oi hGc2
     have hf := hf.pn [29, 0, 1, 5]
     have H := H.lt_ [] [] [] [3]
     exact ⟨hf, H⟩
   refine then_n (ib hR1 hf (fun hc3 hR1 => ?_) fun hc3 hR1 => ?_)
   ·refine sqz (pz 1 hf fun a hf => ?_)
    refine wl_end (then_n (wp_ret (blk_r (then_r (then_r (blk_r (then_r (then_r (?_)))))))))
    obtain rfl := oi hR1
    replace hF := on_ret hF
    obtain rfl := oi hF
    refine rT hf ?_
    exact ⟨_, rfl, H.bel, mk_bool⟩
   ·refine wp_skip (blk_n (then_n (reg (pz 3 hf fun a hf => ?_))))
    refine wl_end ?_
    have hf := hf.pn [0, 1, 5]
    have H := H.lt_ [] [] [] [0]
    exact then_n ⟨w64 (i + 1), hR1, hf, H⟩
  ·refine wp_exit (then_x (then_x (blk_e (?_))))
   have hf := hf.pn [0, 1, 5]
   have H := H.lt_ [] [] [] [0]
   exact ⟨i, (Option.some.inj hR1).symm, hf, H⟩
 rintro a w ⟨i2, rfl, hf, H⟩
 replace hF := on_next hF
 refine then_n (sqz (pz 5 hf fun a hf => ?_))
 refine wer ?_
 obtain rfl := oi hF
 refine rT hf ?_
 exact ⟨_, rfl, H.bel, mk_bool⟩
theorem spec_l12Height_ok {S : Nat → Prop} {v0_ : Value} {blocks : List Block} {r : Int} (h0 : VR w0 S v0_ blocks) (hF : spec_l12Height fu blocks = some r) :
    Calls Tryz.prog 151 [v0_].toArray w0 fun e w' => ∃ v, e = .returned v ∧ (Below w0.heap.size w0 w' ∧ VR w' (St ⟨w0, []⟩ S [] [] [] true) v r) := by
 obtain ⟨A, c, rfl, hl⟩ := VR_list h0
 have H := Mem.start ⟨w0, []⟩ S
 have H := H.pA hl
 refine en Tryz.func151 fun a hf => ?_
 rw [spec_l12Height] at hF
 refine sqz (pz 1 hf fun a hf => ?_)
 refine wr (pz 1 hf fun a hf => ?_)
 refine we (sqz (pz 1 hf fun a hf => ?_))
 refine wl_end (then_n ?_)
 obtain ⟨out2, hB1, hF⟩ := bs_ hF
 have hf := hf.pn [0, 3, 4]
 have H := H.lt_ [] [] [] [0]
 refine loopC (fun (s : Int × Int) (a : Act) (w : World) => match s with | (out', i) => Fr a 25 [(0, (.slice A blocks.length c)), (3, (.int .i64 out')), (4, (.int .i64 i))] ∧ Mem ⟨w0, []⟩ S [] [] [] [(false, MP.val [(.slice A blocks.length c)] (blocks : List Block))] w) (fun k (s : Int × Int) => spec_l12Height_L1 fu blocks k s.1 s.2 = some out2) (fun s => out2 = s) (0, 0) fu hB1 ⟨hf, H⟩ (fun s h => by cases h) ?_ ?_
 ·rintro fk ⟨out', i⟩ a w hR1 hI
  replace hR1 : spec_l12Height_L1 fu blocks (fk + 1) out' i = some out2 := hR1
  rw [spec_l12Height_L1] at hR1
  obtain ⟨hf, H⟩ := hI
  refine sq (sqz (pz 4 hf fun a hf => ?_))
  refine wl_end (then_n (ib hR1 hf (fun hc hR1 => ?_) fun hc hR1 => ?_))
  ·refine wp_skip (then_n (sq (wp_block (dw [] 14 fun w hb => ?_))))
   have H := H.keep hb
   refine zp 0 hf trivial fun a hf => ?_
   refine zp 1 hf trivial fun a hf => ?_
   refine zp 2 hf trivial fun a hf => ?_
   obtain ⟨e, he, hR1⟩ := bs_ hR1
   obtain ⟨p, o, cs, hx, hr, H⟩ := pre_iaddr H Tryz.underlying50 TF.sz71 0 rfl he
   refine tP 3 rfl rfl rfl rfl hf (by kernel_rfl) (fun _ => trivial) (fun w => rq_iaddrE hf rfl rfl rfl hx w) fun a hf => ?_
   obtain rfl := Block_cells hr
   refine zp 4 hf trivial fun a hf => ?_
   refine strT (H.lt_ [] [] [] [0]) (fun w H => trivial) fun hS => ?_
   refine zS 5 [] rfl rfl rfl rfl hf hS (fun w H => rq_loadI hf H TF.ls3 0 0 rfl rfl rfl) fun a hf => ?_
   refine zp 6 hf hS fun a hf => ?_
   refine zp 7 hf hS fun a hf => ?_
   obtain ⟨e2, he2, hR1⟩ := bs_ hR1
   obtain ⟨p2, o2, cs2, hx2, hr2, H⟩ := pre_iaddr H Tryz.underlying50 TF.sz71 1 rfl he2
   refine zP 8 rfl rfl rfl rfl hf hS (fun w => rq_iaddrE hf rfl rfl rfl hx2 w) fun a hf => ?_
   obtain rfl := Block_cells hr2
   refine zp 9 hf hS fun a hf => ?_
   refine strT (H.lt_ [] [] [] [0, 1]) (fun w H => H.lt_ [] [] [] [1]) fun hS => ?_
   refine zS 10 [] rfl rfl rfl rfl hf hS (fun w H => rq_loadI hf H TF.ls3 0 1 rfl rfl rfl) fun a hf => ?_
   refine zp 11 hf hS fun a hf => ?_
   obtain ⟨y, hy, hR1⟩ := bs_ hR1
   refine nn 12 rfl (oC hf TF.cl211 (spec_l1Most_ok (S := TT) mk_int mk_int hy) fun v w a hp hf => ?_)
   obtain ⟨hb, hp⟩ := hp
   obtain rfl := VR_int hp
   have H := H.keep hb
   have hS := H.lt_ [] [] [] [0, 1]
   refine aS hS ?_
   refine zp 13 hf hS fun a hf => ?_
   refine dk ?_
   have hf := hf.pn [0, 3, 4]
   refine blk_n (then_n (reg (pz 3 hf fun a hf => ?_)))
   refine wl_end ?_
   have hf := hf.pn [0, 3, 4]
   have H := H.lt_ [] [] [] [2]
   exact then_n ⟨(y, w64 (i + 1)), hR1, hf, H⟩
  ·refine wp_exit (then_x (then_x (blk_e (?_))))
   have hf := hf.pn [0, 3, 4]
   have H := H.lt_ [] [] [] [0]
   exact ⟨(out', i), (Option.some.inj hR1).symm, hf, H⟩
 rintro a w ⟨⟨out3, i2⟩, rfl, hf, H⟩
 try dsimp only at hF
 refine then_n (sqz (pz 2 hf fun a hf => ?_))
 refine wer ?_
 obtain rfl := oi hF
 refine rT hf ?_
 exact ⟨_, rfl, H.bel, mk_int⟩
theorem spec_l12Greedy_ok {S : Nat → Prop} {v0_ : Value} {v1_ : Value} {list : List Request} {order : List Int} {r : List Block × Int × Bool} (h0 : VR w0 S v0_ list) (h1 : VR w0 S v1_ order) (hF : spec_l12Greedy fu list order = some r) :
    Calls Tryz.prog 80 [v0_, v1_].toArray w0 fun e w' => ∃ v, e = .returned v ∧ (Below w0.heap.size w0 w' ∧ ∃ F0, ∃ u0 u1 u2, v = .tuple #[u0, u1, u2] ∧ VO w' F0 u0 r.1 ∧ VR w' (St ⟨w0, []⟩ S [] [] [] true) u1 r.2.1 ∧ VR w' (St ⟨w0, []⟩ S [] [] [] true) u2 r.2.2 ∧ New w0 w' F0) := by
 obtain ⟨A, c, rfl, hl⟩ := VR_list h0
 obtain ⟨A2, c2, rfl, hl2⟩ := VR_list h1
 have H := Mem.start ⟨w0, []⟩ S
 have H := H.pA hl
 have H := H.pA hl2
 refine en Tryz.func80 fun a hf => ?_
 rw [spec_l12Greedy] at hF
 refine sqz (pz 3 hf fun a hf => ?_)
 refine wr (pz 2 hf fun a hf => ?_)
 obtain ⟨l, hl_, hF⟩ := bs_ hF
 refine wl0 rfl (op_make (z0 := (({ First := 0, Count := 0 } : Block) : Block)) hf H Tryz.underlying50 TF.ai71 rfl (by decide) rfl rfl (Block_mk (x := ({ First := 0, Count := 0 } : Block))) hl_ (by decide) fun A3 c3 a w hf H => ?_)
 refine pz 1 hf fun a hf => ?_
 refine we (sqz (pz 1 hf fun a hf => ?_))
 refine wl_end (then_n ?_)
 obtain ⟨out', hB1, hF⟩ := bs_ hF
 have hf := hf.pn [0, 1, 7, 8]
 have H := H.lt_ [] [true] [] [0, 1]
 refine loopC (fun (s : List Block × Int) (a : Act) (w : World) => match s with | (blocks, m) => ∃ (A4 : Option Addr) (c4 : Nat) (E : Go.TypeId), Fr a 53 [(0, (.slice A list.length c)), (1, (.slice A2 order.length c2)), (7, (.slice A4 blocks.length c4)), (8, (.int .i64 m))] ∧ Mem ⟨w0, []⟩ S [] [⟨.sh true, E, A4, c4, (blocks : List Block)⟩] [] [(false, MP.val [(.slice A2 order.length c2)] (order : List Int)), (false, MP.val [(.slice A list.length c)] (list : List Request))] w) (fun k (s : List Block × Int) => spec_l12Greedy_L1 fu list order k s.1 s.2 = some out') (fun s => out' = Out.next s) (l, 0) fu hB1 ⟨A3, c3, 71, hf, H⟩ (fun s h => by cases h) ?_ ?_
 ·rintro fk ⟨blocks, m⟩ a w hR1 hI
  replace hR1 : spec_l12Greedy_L1 fu list order (fk + 1) blocks m = some out' := hR1
  rw [spec_l12Greedy_L1] at hR1
  obtain ⟨A4, c4, E, hf, H⟩ := hI
  refine sq (sqz (pz 4 hf fun a hf => ?_))
  refine wl_end (then_n (ib hR1 hf (fun hc hR1 => ?_) fun hc hR1 => ?_))
  ·refine ws (pz 2 hf fun a hf => ?_)
   obtain ⟨e, he, hR1⟩ := bs_ hR1
   refine wl0 rfl (op_iaddr hf H Tryz.underlying47 TF.sz3 0 rfl rfl rfl he (by decide) fun p o cs a hf hr H => ?_)
   obtain rfl := hr
   refine oq hf (rq_loadI hf H TF.ls3 0 0 rfl rfl rfl) fun a hf => ?_
   refine pz 1 hf fun a hf => ?_
   refine wl_end (then_n (sq (dw [] 11 fun w hb => ?_)))
   have H := H.keep hb
   refine zp 0 hf trivial fun a hf => ?_
   refine zp 1 hf trivial fun a hf => ?_
   refine zp 2 hf trivial fun a hf => ?_
   refine zp 4 hf trivial fun a hf => ?_
   refine zp 5 hf trivial fun a hf => ?_
   obtain ⟨e2, he2, hR1⟩ := bs_ hR1
   obtain ⟨p2, o2, cs2, hx, hr2, H⟩ := pre_iaddr H Tryz.underlying46 TF.sz61 2 rfl he2
   refine tP 6 rfl rfl rfl rfl hf (by kernel_rfl) (fun _ => trivial) (fun w => rq_iaddrE hf rfl rfl rfl hx w) fun a hf => ?_
   obtain ⟨A5, c5, rfl, hl3⟩ := Request_cells hr2
   have H := H.pF hl3
   refine zp 7 hf trivial fun a hf => ?_
   refine strT (H.lt_ [] [false] [] [1]) (fun w H => trivial) fun hS => ?_
   refine zS 8 [] rfl rfl rfl rfl hf hS (fun w H => rq_loadI hf H TF.ls3 0 2 rfl rfl rfl) fun a hf => ?_
   obtain ⟨y, hy, hR1⟩ := bs_ hR1
   refine nn 3 rfl (oC hf TF.cl150 (spec_l12Taken_ok (S := TT) (mk_list (H.rt 4 rfl)) (mk_list (H.rowTrue 0 rfl)) mk_int hy) fun v w a hp hf => ?_)
   obtain ⟨hb, hp⟩ := hp
   obtain rfl := VR_int hp
   have H := H.keep hb
   have hS := H.lt_ [] [false] [] [1]
   refine aS hS ?_
   obtain ⟨y2, hy2, hR1⟩ := bs_ hR1
   refine nn 9 rfl (oC hf TF.cl149 (spec_l8Fits_ok (S := TT) mk_int mk_int hy2) fun v2 w a hp2 hf => ?_)
   obtain ⟨hb2, F, hp3, hN⟩ := hp2
   obtain ⟨A6, c6, rfl, hl4⟩ := VO_list hp3
   have H := H.aO1 hb2 hN hl4
   have H := H.lend 0 rfl
   have hS := H.lt_ [] [false] [false] [2]
   refine aS hS ?_
   refine zp 10 hf hS fun a hf => ?_
   refine dk ?_
   have hf := hf.pn [0, 1, 7, 8, 9, 10]
   refine then_n (sq (sqz (pz 3 hf fun a hf => ?_)))
   refine wl_end (then_n (ib hR1 hf (fun hc2 hR1 => ?_) fun hc2 hR1 => ?_))
   ·refine sq (reg (wl0 rfl (bl hf H 71 ([] : List Block) [] el0 fun A7 a w hf H => ?_)))
    refine pz 3 hf fun a hf => ?_
    refine wl_end (then_n (wp_ret (then_r (blk_r (then_r (then_r (blk_r (then_r (then_r (?_))))))))))
    have H := H.rowOwn 0 rfl rfl
    obtain ⟨F3, H⟩ := H.freezeOwn 0 rfl
    have H := H.lend 0 rfl
    obtain rfl := oi hR1
    replace hF := on_ret hF
    obtain rfl := oi hF
    refine ret_3 hf rfl (rv_tmp hf rfl) (rv_tmp hf rfl) (rv_tmp hf rfl) ?_
    have hN := H.ends1
    exact ⟨_, rfl, H.bel, F3, _, _, _, rfl, (mko_list (H.ownAt 0 rfl)), mk_int, mk_bool, by first | exact hN | simpa using hN⟩
   ·refine wp_skip (then_n (dw [12] 13 fun w hb => ?_))
    have H := H.keep hb
    refine zp 0 hf trivial fun a hf => ?_
    refine zp 1 hf trivial fun a hf => ?_
    refine zp 2 hf trivial fun a hf => ?_
    obtain ⟨e3, he3, hR1⟩ := bs_ hR1
    obtain ⟨p3, o3, cs3, hx2, hr3, H⟩ := pre_iaddr H Tryz.underlying47 TF.sz3 0 rfl he3
    refine tP 3 rfl rfl rfl rfl hf (by kernel_rfl) (fun _ => trivial) (fun w => rq_iaddrE hf rfl rfl rfl hx2 w) fun a hf => ?_
    obtain rfl := hr3
    refine strT (H.lt_ [] [false] [false] [0]) (fun w H => trivial) fun hS => ?_
    refine zS 4 [4, 10, 11, 12] rfl rfl rfl rfl hf hS (fun w H => rq_loadI hf H TF.ls3 0 0 rfl rfl rfl) fun a hf => ?_
    refine zp 5 hf hS fun a hf => ?_
    refine zp 6 hf hS fun a hf => ?_
    obtain ⟨e4, he4, hR1⟩ := bs_ hR1
    obtain ⟨p4, o4, cs4, hx3, hr4, H⟩ := pre_iaddr H Tryz.underlying46 TF.sz61 6 rfl he4
    refine zP 7 rfl rfl rfl rfl hf hS (fun w => rq_iaddrE hf rfl rfl rfl hx3 w) fun a hf => ?_
    obtain ⟨A8, c7, rfl, hl5⟩ := Request_cells hr4
    have H := H.pF hl5
    refine zp 8 hf hS fun a hf => ?_
    refine strT (H.lt_ [] [false] [false] [1, 2]) (fun w H => H.lt_ [] [] [] [1]) fun hS => ?_
    refine zS 9 [9, 10, 11, 12] rfl rfl rfl rfl hf hS (fun w H => rq_loadI hf H TF.ls3 0 2 rfl rfl rfl) fun a hf => ?_
    refine zP 10 rfl rfl rfl rfl hf hS (fun w => rq_build hf (cs := [(.int .i64 e3), (.int .i64 e4.Count)]) rfl (fun w => by kernel_rfl)) fun a hf => ?_
    obtain ⟨e5, he5, hR1⟩ := bs_ hR1
    refine nn 11 rfl (op_iaddrR hf H Tryz.underlying50 TF.sz71 0 rfl rfl rfl he5 (by decide) fun p5 o5 cs5 a hf hA hr5 hk => ?_)
    obtain rfl := Block_cells hr5
    have hS := H.lt_ [] [false] [false] [1, 2]
    refine aS hS ?_
    refine nn 12 rfl (op_storeR (e' := ({ First := e3, Count := e4.Count } : Block)) (o := o5) (off := 0) hf H TF.sz71 0 rfl rfl rfl rfl rfl (nle rfl) rfl hA he5 (st_full (Block_mk (x := ({ First := e3, Count := e4.Count } : Block)))) fun w H => ?_)
    replace hf : Fr a 53 [(0, (.slice A list.length c)), (1, (.slice A2 order.length c2)), (7, (.slice A4 blocks.length c4)), (8, (.int .i64 m)), (9, (.int .i64 e)), (10, (.slice A6 y2.length c6)), (38, (.slice A4 blocks.length c4)), (39, (.int .i64 e)), (40, (.slice A6 y2.length c6)), (41, (.pointer (some ⟨p3, o3 + 0, none⟩))), (42, (.int .i64 e3)), (43, (.slice A list.length c)), (44, (.int .i64 e)), (45, (.pointer (some ⟨p4, o4 + 0, none⟩))), (46, (.pointer (some ⟨p4, o4 + 2, none⟩))), (47, (.int .i64 e4.Count)), (48, (.agg #[(.int .i64 e3), (.int .i64 e4.Count)])), (49, (.pointer (some ⟨p5, o5 + 0, none⟩)))] := hf.prune [0, 1, 7, 8, 9, 10, 38, 39, 40, 41, 42, 43, 44, 45, 46, 47, 48, 49] rfl
    replace hf : Fr a 53 [(0, (.slice A list.length c)), (1, (.slice A2 order.length c2)), (7, (.slice A4 (blocks.set (e : Int).toNat ({ First := e3, Count := e4.Count } : Block)).length c4)), (8, (.int .i64 m)), (9, (.int .i64 e)), (10, (.slice A6 y2.length c6)), (38, (.slice A4 (blocks.set (e : Int).toNat ({ First := e3, Count := e4.Count } : Block)).length c4)), (39, (.int .i64 e)), (40, (.slice A6 y2.length c6)), (41, (.pointer (some ⟨p3, o3 + 0, none⟩))), (42, (.int .i64 e3)), (43, (.slice A list.length c)), (44, (.int .i64 e)), (45, (.pointer (some ⟨p4, o4 + 0, none⟩))), (46, (.pointer (some ⟨p4, o4 + 2, none⟩))), (47, (.int .i64 e4.Count)), (48, (.agg #[(.int .i64 e3), (.int .i64 e4.Count)])), (49, (.pointer (some ⟨p5, o5 + 0, none⟩)))] := by simpa only [List.length_set, Nat.add_zero] using hf
    refine ⟨fun h => absurd h (by decide), ?_⟩
    refine dk ?_
    have hf := hf.pn [0, 1, 7, 8]
    refine blk_n (then_n (reg (pz 3 hf fun a hf => ?_)))
    refine wl_end ?_
    have hf := hf.pn [0, 1, 7, 8]
    have H := H.lt_ [] [true] [false] [7, 8]
    exact then_n ⟨(blocks.set (e : Int).toNat ({ First := e3, Count := e4.Count } : Block), w64 (m + 1)), hR1, A4, c4, E, hf, H⟩
  ·refine wp_exit (then_x (then_x (blk_e (?_))))
   have hf := hf.pn [0, 1, 7, 8]
   have H := H.lt_ [] [true] [] [0, 1]
   exact ⟨(blocks, m), (Option.some.inj hR1).symm, A4, c4, E, hf, H⟩
 rintro a w ⟨⟨blocks2, m2⟩, rfl, A9, c8, E2, hf, H⟩
 replace hF := on_next hF
 try dsimp only at hF
 refine then_n (sqz (pz 2 hf fun a hf => ?_))
 obtain ⟨y3, hy3, hF⟩ := bs_ hF
 refine oc hf TF.cl151 (spec_l12Height_ok (S := TT) (mk_list (H.rowTrue 0 rfl)) hy3) fun v3 w a hp4 hf => ?_
 obtain ⟨hb3, hp4⟩ := hp4
 obtain rfl := VR_int hp4
 have H := H.keep hb3
 refine pz 3 hf fun a hf => ?_
 refine wer ?_
 have H := H.rowOwn 0 rfl rfl
 obtain ⟨F4, H⟩ := H.freezeOwn 0 rfl
 have H := H.lend 0 rfl
 obtain rfl := oi hF
 refine ret_3 hf rfl (rv_tmp hf rfl) (rv_tmp hf rfl) (rv_tmp hf rfl) ?_
 have hN := H.ends1
 exact ⟨_, rfl, H.bel, F4, _, _, _, rfl, (mko_list (H.ownAt 0 rfl)), mk_int, mk_bool, by first | exact hN | simpa using hN⟩
theorem spec_AssignGreedy_ok {S : Nat → Prop} {v0_ : Value} {v1_ : Value} {v2_ : Value} {n' : Network} {list : List Request} {order : List Int} {r : List Block × Int × Bool} (h0 : VR w0 S v0_ n') (h1 : VR w0 S v1_ list) (h2 : VR w0 S v2_ order) (hF : spec_AssignGreedy fu n' list order = some r) :
    Calls Tryz.prog 28 [v0_, v1_, v2_].toArray w0 fun e w' => ∃ v, e = .returned v ∧ (Below w0.heap.size w0 w' ∧ ∃ F0, ∃ u0 u1 u2, v = .tuple #[u0, u1, u2] ∧ VO w' F0 u0 r.1 ∧ VR w' (St ⟨w0, []⟩ S [] [] [] true) u1 r.2.1 ∧ VR w' (St ⟨w0, []⟩ S [] [] [] true) u2 r.2.2 ∧ New w0 w' F0) := by
 obtain ⟨A, c, A2, c2, rfl, hl, hl2⟩ := Network_open h0
 obtain ⟨A3, c3, rfl, hl3⟩ := VR_list h1
 obtain ⟨A4, c4, rfl, hl4⟩ := VR_list h2
 have H := Mem.start ⟨w0, []⟩ S
 have H := H.pA hl
 have H := H.pA hl2
 have H := H.pA hl3
 have H := H.pA hl4
 refine en Tryz.func28 fun a hf => ?_
 rw [spec_AssignGreedy] at hF
 refine bx hf H fun b' a w hf H => ?_
 refine pz 3 hf fun a hf => ?_
 refine wl_end (then_n (sq (sq ?_)))
 obtain ⟨c5, hGc5, hF⟩ := bs_ hF
 have fh := hf.prune [1, 2] rfl
 have Hm := H.lt_ [false] [] [] [0, 1]
 refine midF 19 (.bool c5) fh Hm ?_ fun a w hf H => ?_
 ·refine reg (lN 0 hf H TF.la34 fun a hf => ?_)
  refine pz 1 hf fun a hf => ?_
  obtain ⟨y, hy, hGc5⟩ := bs_ hGc5
  refine oc hf TF.cl68 (spec_l12Good_ok (S := TT) (Network_mkv (x := n') (H.rt 3 rfl) (H.rt 2 rfl)) (mk_list (H.rt 1 rfl)) hy) fun v w a hp hf => ?_
  obtain ⟨hb, hp⟩ := hp
  obtain rfl := VR_bool hp
  have H := H.keep hb
  refine pz 2 hf fun a hf => ?_
  refine iteB hGc5 (fun hc hGc5 => ?_) fun hc hGc5 => ?_
  ·have hf := hf.lit 13 rfl hc
   refine pz 6 hf fun a hf => ?_
   obtain rfl := oi hGc5
   have hf := hf.pn [19, 1, 2]
   have H := H.lt_ [false] [] [] [0, 1]
   exact wl_end ⟨hf, H⟩
  ·have hf := hf.lit 13 rfl hc
   refine pz 3 hf fun a hf => ?_
   obtain ⟨y2, hy2, hGc5⟩ := bs_ hGc5
   refine wlg hf rfl rfl rfl (oC hf TF.cl79 (spec_l12Order_ok (S := TT) (mk_list (H.rt 0 rfl)) mk_int hy2) fun v2 w a hp2 hf => ?_)
   obtain ⟨hb2, hp2⟩ := hp2
   obtain rfl := VR_bool hp2
   have H := H.keep hb2
   refine pz 2 hf fun a hf => ?_
   obtain rfl := oi hGc5
   have hf := hf.pn [19, 1, 2]
   have H := H.lt_ [false] [] [] [0, 1]
   exact wl_end ⟨hf, H⟩
 refine then_n (ib hF hf (fun hc2 hF => ?_) fun hc2 hF => ?_)
 ·refine sq (reg (wl0 rfl (bl hf H 71 ([] : List Block) [] el0 fun A5 a w hf H => ?_)))
  refine pz 3 hf fun a hf => ?_
  refine wl_end (then_n (wp_ret (then_r (?_))))
  have H := H.rowOwn 0 rfl rfl
  obtain ⟨F, H⟩ := H.freezeOwn 0 rfl
  have H := H.lend 0 rfl
  obtain rfl := oi hF
  refine ret_3 hf rfl (rv_tmp hf rfl) (rv_tmp hf rfl) (rv_tmp hf rfl) ?_
  have hN := H.ends1
  exact ⟨_, rfl, H.bel, F, _, _, _, rfl, (mko_list (H.ownAt 0 rfl)), mk_int, mk_bool, by first | exact hN | simpa using hN⟩
 ·refine wp_skip (then_n (sqz (pz 2 hf fun a hf => ?_)))
  obtain ⟨y3, hy3, hF⟩ := bs_ hF
  refine oc hf TF.cl80 (spec_l12Greedy_ok (S := TT) (mk_list (H.rt 1 rfl)) (mk_list (H.rt 0 rfl)) hy3) fun v3 w a hp3 hf => ?_
  obtain ⟨hb3, F2, v4, v5, v6, rfl, hp4, hp5, hp6, hN⟩ := hp3
  obtain ⟨A6, c6, rfl, hl5⟩ := VO_list hp4
  obtain rfl := VR_int hp5
  obtain rfl := VR_bool hp6
  have H := H.aO1 hb3 hN hl5
  have H := H.lend 0 rfl
  refine pz 6 hf fun a hf => ?_
  refine wer ?_
  obtain rfl := oi hF
  refine ret_3 hf rfl (rv_tmp hf rfl) (rv_tmp hf rfl) (rv_tmp hf rfl) ?_
  have hN := H.ends1
  exact ⟨_, rfl, H.bel, F2, _, _, _, rfl, (mko_list (H.ownAt 0 rfl)), mk_int, mk_bool, by first | exact hN | simpa using hN⟩
theorem laws_FnExact_ok {S : Nat → Prop} {v0_ : Value} {code : List By} {r : Bool} (h0 : VR w0 S v0_ code) (hF : laws_FnExact fu code = some r) :
    Calls Tryz.prog 5 [v0_].toArray w0 fun e w' => ∃ v, e = .returned v ∧ (Below w0.heap.size w0 w' ∧ VR w' (St ⟨w0, []⟩ S [] [] [] true) v r) := by
 obtain ⟨A, c, rfl, hl⟩ := VR_list h0
 have H := Mem.start ⟨w0, []⟩ S
 have H := H.pA hl
 refine en Tryz.func5 fun a hf => ?_
 rw [laws_FnExact] at hF
 refine sqz (pz 1 hf fun a hf => ?_)
 refine we (sqz (pz 1 hf fun a hf => ?_))
 obtain ⟨y, hy, hF⟩ := bs_ hF
 refine oc hf TF.cl18 (laws_vBig_ok (S := TT) (mk_list (H.rt 0 rfl)) hy) fun v w a hp hf => ?_
 obtain ⟨hb, hp⟩ := hp
 obtain rfl := VR_bool hp
 have H := H.keep hb
 refine wl_end (then_n (ib hF hf (fun hc hF => ?_) fun hc hF => ?_))
 ·refine sqz (pz 1 hf fun a hf => ?_)
  refine wl_end (then_n (wp_ret (then_r (?_))))
  obtain rfl := oi hF
  refine rT hf ?_
  exact ⟨_, rfl, H.bel, mk_bool⟩
 ·refine wp_skip (then_n (sqz (pz 1 hf fun a hf => ?_)))
  obtain ⟨y2, hy2, hF⟩ := bs_ hF
  refine oc hf TF.cl19 (spec_DrawAssignGreedy_ok (S := TT) (mk_list (H.rt 0 rfl)) hy2) fun v2 w a hp2 hf => ?_
  obtain ⟨A2, c2, A3, c3, A4, c4, A5, c5, F, rfl, Hc⟩ := hp2
  have H := H.comp Hc (.inl rfl)
  have H := H.lend 0 rfl
  refine pz 4 hf fun a hf => ?_
  refine aL hf H TF.zv34 fun b' a w hf H => ?_
  refine sB 0 hf H TF.sz34 fun w H => ?_
  refine pz 2 hf fun a hf => ?_
  refine wr (lN 0 hf H TF.la34 fun a hf => ?_)
  refine pz 1 hf fun a hf => ?_
  obtain ⟨y3, hy3, hF⟩ := bs_ hF
  refine oc hf TF.cl20 (impl_AssignExact_ok (S := TT) (Network_mkv (x := y2.1) (H.rt 1 rfl) (H.rt 2 rfl)) (mk_list (H.rt 3 rfl)) hy3) fun v3 w a hp3 hf => ?_
  obtain ⟨hb2, F2, v4, v5, v6, rfl, hp4, hp5, hp6, hN⟩ := hp3
  obtain ⟨A6, c6, rfl, hl2⟩ := VO_list hp4
  obtain rfl := VR_int hp5
  obtain rfl := VR_bool hp6
  have H := H.aO1 hb2 hN hl2
  have H := H.lend 0 rfl
  refine pz 7 hf fun a hf => ?_
  have hf := hf.pn [3, 4, 5, 6, 7, 8]
  refine wl_end (then_n (sq (sq (reg (lN 0 hf H TF.la34 fun a hf => ?_)))))
  refine pz 1 hf fun a hf => ?_
  obtain ⟨y4, hy4, hF⟩ := bs_ hF
  refine oc hf TF.cl21 (spec_AssignExact_ok (S := TT) (Network_mkv (x := y2.1) (H.rt 2 rfl) (H.rt 3 rfl)) (mk_list (H.rt 4 rfl)) hy4) fun v7 w a hp7 hf => ?_
  obtain ⟨hb3, F4, v8, v9, v10, rfl, hp8, hp9, hp10, hN2⟩ := hp7
  obtain ⟨A7, c7, rfl, hl3⟩ := VO_list hp8
  obtain rfl := VR_int hp9
  obtain rfl := VR_bool hp10
  have H := H.aO1 hb3 hN2 hl3
  have H := H.lend 0 rfl
  refine pz 7 hf fun a hf => ?_
  refine wl_end (then_n (sq ?_))
  obtain ⟨c8, hGc8, hF⟩ := bs_ hF
  have fh := hf.prune [3, 4, 5, 6, 7, 8] rfl
  have Hm := H.lt_ [true] [] [false, true, true] [1, 2, 3, 4, 5]
  refine midF 61 (.bool c8) fh Hm ?_ fun a w hf H => ?_
  ·refine reg (pz 4 hf fun a hf => ?_)
   refine iteB hGc8 (fun hc2 hGc8 => ?_) fun hc2 hGc8 => ?_
   ·have hf := hf.lit 57 rfl hc2
    refine pz 4 hf fun a hf => ?_
    obtain rfl := oi hGc8
    have hf := hf.pn [61, 3, 4, 5, 6, 7, 8]
    have H := H.lt_ [true] [] [false, true, true] [1, 2, 3, 4, 5]
    exact wl_end ⟨hf, H⟩
   ·have hf := hf.lit 57 rfl hc2
    refine pz 4 hf fun a hf => ?_
    obtain rfl := oi hGc8
    have hf := hf.pn [61, 3, 4, 5, 6, 7, 8]
    have H := H.lt_ [true] [] [false, true, true] [1, 2, 3, 4, 5]
    exact wl_end ⟨hf, H⟩
  refine then_n (ib hF hf (fun hc3 hF => ?_) fun hc3 hF => ?_)
  ·refine sqz (pz 1 hf fun a hf => ?_)
   refine wl_end (then_n (wp_ret (then_r (?_))))
   obtain rfl := oi hF
   refine rT hf ?_
   exact ⟨_, rfl, H.bel, mk_bool⟩
  ·refine wp_skip (then_n (sq (reg (lN 0 hf H TF.la34 fun a hf => ?_))))
   refine pz 1 hf fun a hf => ?_
   obtain ⟨y5, hy5, hF⟩ := bs_ hF
   refine oc hf TF.cl22 (impl_CliqueBound_ok (S := TT) (Network_mkv (x := y2.1) (H.rt 2 rfl) (H.rt 3 rfl)) (mk_list (H.rt 4 rfl)) hy5) fun v11 w a hp11 hf => ?_
   obtain ⟨hb4, F6, v12, v13, v14, rfl, hp12, hp13, hp14, hN3⟩ := hp11
   obtain rfl := VR_int hp12
   obtain ⟨A8, c9, rfl, hl4⟩ := VO_list hp13
   obtain rfl := VR_bool hp14
   have H := H.aO1 hb4 hN3 hl4
   have H := H.lend 0 rfl
   refine pz 7 hf fun a hf => ?_
   refine wr (lN 0 hf H TF.la34 fun a hf => ?_)
   refine pz 1 hf fun a hf => ?_
   obtain ⟨y6, hy6, hF⟩ := bs_ hF
   refine oc hf TF.cl23 (impl_FiberBound_ok (S := TT) (Network_mkv (x := y2.1) (H.rt 3 rfl) (H.rt 4 rfl)) (mk_list (H.rt 5 rfl)) hy6) fun v15 w a hp15 hf => ?_
   obtain ⟨hb5, v16, v17, v18, rfl, hp16, hp17, hp18⟩ := hp15
   obtain rfl := VR_int hp16
   obtain rfl := VR_int hp17
   obtain rfl := VR_bool hp18
   have H := H.keep hb5
   refine pz 7 hf fun a hf => ?_
   have hf := hf.pn [3, 4, 5, 6, 7, 8, 12, 13, 14, 15, 17]
   refine wl_end (then_n (sq (sq ?_)))
   obtain ⟨c10, hGc10, hF⟩ := bs_ hF
   have fh2 := hf.prune [3, 4, 5, 6, 7, 8, 12, 13] rfl
   have Hm2 := H.lt_ [true] [] [true, true, true] [0, 1, 2, 3, 4, 5]
   refine midF 90 (.bool c10) fh2 Hm2 ?_ fun a w hf H => ?_
   ·refine reg (pz 1 hf fun a hf => ?_)
    refine lN 0 hf H TF.la34 fun a hf => ?_
    refine pz 1 hf fun a hf => ?_
    obtain ⟨y7, hy7, hGc10⟩ := bs_ hGc10
    refine oc hf TF.cl24 (spec_IsValidRequests_ok (S := TT) (Network_mkv (x := y2.1) (H.rt 3 rfl) (H.rt 4 rfl)) (mk_list (H.rt 5 rfl)) hy7) fun v19 w a hp19 hf => ?_
    obtain ⟨hb6, hp19⟩ := hp19
    obtain rfl := VR_bool hp19
    have H := H.keep hb6
    refine pz 2 hf fun a hf => ?_
    refine iteB hGc10 (fun hc4 hGc10 => ?_) fun hc4 hGc10 => ?_
    ·have hf := hf.lit 81 rfl hc4
     refine pz 9 hf fun a hf => ?_
     obtain rfl := oi hGc10
     have hf := hf.pn [90, 3, 4, 5, 6, 7, 8, 12, 13]
     have H := H.lt_ [true] [] [true, true, true] [0, 1, 2, 3, 4, 5]
     exact wl_end ⟨hf, H⟩
    ·have hf := hf.lit 81 rfl hc4
     refine pz 5 hf fun a hf => ?_
     refine iteB hGc10 (fun hc5 hGc10 => ?_) fun hc5 hGc10 => ?_
     ·have hf := hf.lit 86 rfl hc5
      refine pz 4 hf fun a hf => ?_
      obtain rfl := oi hGc10
      have hf := hf.pn [90, 3, 4, 5, 6, 7, 8, 12, 13]
      have H := H.lt_ [true] [] [true, true, true] [0, 1, 2, 3, 4, 5]
      exact wl_end ⟨hf, H⟩
     ·have hf := hf.lit 86 rfl hc5
      refine pz 4 hf fun a hf => ?_
      obtain rfl := oi hGc10
      have hf := hf.pn [90, 3, 4, 5, 6, 7, 8, 12, 13]
      have H := H.lt_ [true] [] [true, true, true] [0, 1, 2, 3, 4, 5]
      exact wl_end ⟨hf, H⟩
   refine then_n (ib hF hf (fun hc6 hF => ?_) fun hc6 hF => ?_)
   ·refine sqz (pz 1 hf fun a hf => ?_)
    refine wl_end (then_n (wp_ret (then_r (?_))))
    obtain rfl := oi hF
    refine rT hf ?_
    exact ⟨_, rfl, H.bel, mk_bool⟩
   ·refine wp_skip (then_n (sqz (pz 1 hf fun a hf => ?_)))
    refine we (sqz (pz 1 hf fun a hf => ?_))
    refine wl_end (then_n ?_)
    obtain ⟨out', hB1, hF⟩ := bs_ hF
    have hf := hf.pn [3, 4, 5, 6, 7, 8, 12, 13, 18, 19]
    have H := H.lt_ [true] [] [true, true, true] [0, 1, 2, 3, 4, 5]
    refine loopC (fun (s : Int × Int) (a : Act) (w : World) => match s with | (sum, i) => Fr a 197 [(3, (.pointer (some ⟨b', 0, none⟩))), (4, (.slice A4 y2.2.1.length c4)), (5, (.slice A5 y2.2.2.length c5)), (6, (.slice A6 y3.1.length c6)), (7, (.int .i64 y3.2.1)), (8, (.bool y3.2.2)), (12, (.int .i64 y5.1)), (13, (.slice A8 y5.2.1.length c9)), (18, (.int .i64 sum)), (19, (.int .i64 i))] ∧ Mem ⟨w0, []⟩ S [⟨b', 34, [(.slice A2 y2.1.Nodes.length c2), (.slice A3 y2.1.Fibers.length c3)]⟩] [] [⟨F6, MP.own F6 [(.slice A8 y5.2.1.length c9)] (y5.2.1 : List Int)⟩, ⟨F2, MP.own F2 [(.slice A6 y3.1.length c6)] (y3.1 : List Block)⟩, ⟨F, MP.own F [(.slice A5 y2.2.2.length c5)] (y2.2.2 : List Int)⟩] [(true, MP.val [(.slice A8 y5.2.1.length c9)] (y5.2.1 : List Int)), (true, MP.val [(.slice A6 y3.1.length c6)] (y3.1 : List Block)), (true, MP.val [(.slice A5 y2.2.2.length c5)] (y2.2.2 : List Int)), (true, MP.val [(.slice A2 y2.1.Nodes.length c2)] (y2.1.Nodes : List ByteArray)), (true, MP.val [(.slice A3 y2.1.Fibers.length c3)] (y2.1.Fibers : List Fiber)), (true, MP.val [(.slice A4 y2.2.1.length c4)] (y2.2.1 : List Request))] w) (fun k (s : Int × Int) => laws_FnExact_L1 fu y2 y5 k s.1 s.2 = some out') (fun s => out' = s) (0, 0) fu hB1 ⟨hf, H⟩ (fun s h => by cases h) ?_ ?_
    ·rintro fk ⟨sum, i⟩ a w hR1 hI
     replace hR1 : laws_FnExact_L1 fu y2 y5 (fk + 1) sum i = some out' := hR1
     rw [laws_FnExact_L1] at hR1
     obtain ⟨hf, H⟩ := hI
     refine sq (sqz (pz 4 hf fun a hf => ?_))
     refine wl_end (then_n (ib hR1 hf (fun hc7 hR1 => ?_) fun hc7 hR1 => ?_))
     ·refine wp_skip (then_n (sq (wp_block (reg (pz 4 hf fun a hf => ?_)))))
      obtain ⟨e, he, hR1⟩ := bs_ hR1
      refine wl0 rfl (op_iaddr hf H Tryz.underlying47 TF.sz3 0 rfl rfl rfl he (by decide) fun p o cs a hf hr H => ?_)
      obtain rfl := hr
      refine oq hf (rq_loadI hf H TF.ls3 0 0 rfl rfl rfl) fun a hf => ?_
      obtain ⟨e2, he2, hR1⟩ := bs_ hR1
      refine wl0 rfl (op_iaddr hf H Tryz.underlying46 TF.sz61 6 rfl rfl rfl he2 (by decide) fun p2 o2 cs2 a hf hr2 H => ?_)
      obtain ⟨A9, c11, rfl, hl5⟩ := Request_cells hr2
      have H := H.pT hl5
      refine pz 1 hf fun a hf => ?_
      refine oq hf (rq_loadI hf H TF.ls3 1 2 rfl rfl rfl) fun a hf => ?_
      refine pz 2 hf fun a hf => ?_
      have hf := hf.pn [3, 4, 5, 6, 7, 8, 12, 13, 18, 19]
      refine wl_end (blk_n (then_n (reg (pz 3 hf fun a hf => ?_))))
      refine wl_end ?_
      have hf := hf.pn [3, 4, 5, 6, 7, 8, 12, 13, 18, 19]
      have H := H.lt_ [true] [] [true, true, true] [3, 4, 5, 6, 7, 8]
      exact then_n ⟨(w64 (sum + e2.Count), w64 (i + 1)), hR1, hf, H⟩
     ·refine wp_exit (then_x (then_x (blk_e (?_))))
      have hf := hf.pn [3, 4, 5, 6, 7, 8, 12, 13, 18, 19]
      have H := H.lt_ [true] [] [true, true, true] [0, 1, 2, 3, 4, 5]
      exact ⟨(sum, i), (Option.some.inj hR1).symm, hf, H⟩
    rintro a w ⟨⟨sum2, i2⟩, rfl, hf, H⟩
    try dsimp only at hF
    refine then_n (sq (sqz (pz 3 hf fun a hf => ?_)))
    refine wl_end (then_n (ib hF hf (fun hc8 hF => ?_) fun hc8 hF => ?_))
    ·refine sqz (pz 1 hf fun a hf => ?_)
     have hf := hf.pn [2]
     refine wl_end (then_n (wp_ret (then_r (?_))))
     obtain rfl := oi hF
     refine rT hf ?_
     exact ⟨_, rfl, H.bel, mk_bool⟩
    ·refine wp_skip (then_n (sq (sqz (pz 2 hf fun a hf => ?_))))
     refine wl_end (then_n (ib hF hf (fun hc9 hF => ?_) fun hc9 hF => ?_))
     ·refine sqz (pz 4 hf fun a hf => ?_)
      have hf := hf.pn [2]
      refine wl_end (then_n (wp_ret (then_r (?_))))
      obtain rfl := oi hF
      refine rT hf ?_
      exact ⟨_, rfl, H.bel, mk_bool⟩
     ·refine wp_skip (then_n (sq (reg (lN 0 hf H TF.la34 fun a hf => ?_))))
      refine pz 2 hf fun a hf => ?_
      obtain ⟨y8, hy8, hF⟩ := bs_ hF
      refine oc hf TF.cl25 (impl_CheckAssignment_ok (S := TT) (Network_mkv (x := y2.1) (H.rt 3 rfl) (H.rt 4 rfl)) (mk_list (H.rt 5 rfl)) (mk_list (H.rt 1 rfl)) hy8) fun v20 w a hp20 hf => ?_
      obtain ⟨hb7, v21, v22, rfl, hp21, hp22⟩ := hp20
      obtain rfl := VR_int hp21
      obtain rfl := VR_bool hp22
      have H := H.keep hb7
      refine pz 5 hf fun a hf => ?_
      have hf := hf.pn [3, 4, 5, 6, 7, 12, 20, 21]
      refine wr (lN 0 hf H TF.la34 fun a hf => ?_)
      refine pz 2 hf fun a hf => ?_
      obtain ⟨y9, hy9, hF⟩ := bs_ hF
      refine oc hf TF.cl26 (impl_OptimalityGap_ok (S := TT) (Network_mkv (x := y2.1) (H.rt 3 rfl) (H.rt 4 rfl)) (mk_list (H.rt 5 rfl)) (mk_list (H.rt 1 rfl)) hy9) fun v23 w a hp23 hf => ?_
      obtain ⟨hb8, v24, v25, rfl, hp24, hp25⟩ := hp23
      obtain rfl := VR_int hp24
      obtain rfl := VR_bool hp25
      have H := H.keep hb8
      refine pz 5 hf fun a hf => ?_
      refine wl_end (then_n (sq (sq ?_)))
      obtain ⟨c12, hGc12, hF⟩ := bs_ hF
      have fh3 := hf.prune [3, 4, 5, 7] rfl
      have Hm3 := H.lt_ [true] [] [false, false, true] [2, 3, 4, 5]
      refine midF 150 (.bool c12) fh3 Hm3 ?_ fun a w hf H => ?_
      ·refine reg (pz 3 hf fun a hf => ?_)
       refine iteB hGc12 (fun hc10 hGc12 => ?_) fun hc10 hGc12 => ?_
       ·have hf := hf.lit 131 rfl hc10
        refine pz 19 hf fun a hf => ?_
        obtain rfl := oi hGc12
        have hf := hf.pn [150, 3, 4, 5, 7]
        have H := H.lt_ [true] [] [false, false, true] [2, 3, 4, 5]
        exact wl_end ⟨hf, H⟩
       ·have hf := hf.lit 131 rfl hc10
        refine pz 4 hf fun a hf => ?_
        refine iteB hGc12 (fun hc11 hGc12 => ?_) fun hc11 hGc12 => ?_
        ·have hf := hf.lit 135 rfl hc11
         refine pz 15 hf fun a hf => ?_
         obtain rfl := oi hGc12
         have hf := hf.pn [150, 3, 4, 5, 7]
         have H := H.lt_ [true] [] [false, false, true] [2, 3, 4, 5]
         exact wl_end ⟨hf, H⟩
        ·have hf := hf.lit 135 rfl hc11
         refine pz 5 hf fun a hf => ?_
         refine iteB hGc12 (fun hc12 hGc12 => ?_) fun hc12 hGc12 => ?_
         ·have hf := hf.lit 140 rfl hc12
          refine pz 10 hf fun a hf => ?_
          obtain rfl := oi hGc12
          have hf := hf.pn [150, 3, 4, 5, 7]
          have H := H.lt_ [true] [] [false, false, true] [2, 3, 4, 5]
          exact wl_end ⟨hf, H⟩
         ·have hf := hf.lit 140 rfl hc12
          refine pz 7 hf fun a hf => ?_
          refine iteB hGc12 (fun hc13 hGc12 => ?_) fun hc13 hGc12 => ?_
          ·have hf := hf.lit 147 rfl hc13
           refine pz 3 hf fun a hf => ?_
           obtain rfl := oi hGc12
           have hf := hf.pn [150, 3, 4, 5, 7]
           have H := H.lt_ [true] [] [false, false, true] [2, 3, 4, 5]
           exact wl_end ⟨hf, H⟩
          ·have hf := hf.lit 147 rfl hc13
           refine pz 3 hf fun a hf => ?_
           obtain rfl := oi hGc12
           have hf := hf.pn [150, 3, 4, 5, 7]
           have H := H.lt_ [true] [] [false, false, true] [2, 3, 4, 5]
           exact wl_end ⟨hf, H⟩
      refine then_n (ib hF hf (fun hc14 hF => ?_) fun hc14 hF => ?_)
      ·refine sqz (pz 1 hf fun a hf => ?_)
       refine wl_end (then_n (wp_ret (then_r (?_))))
       obtain rfl := oi hF
       refine rT hf ?_
       exact ⟨_, rfl, H.bel, mk_bool⟩
      ·refine wp_skip (then_n (sq (reg (lN 0 hf H TF.la34 fun a hf => ?_))))
       refine pz 2 hf fun a hf => ?_
       obtain ⟨y10, hy10, hF⟩ := bs_ hF
       refine oc hf TF.cl27 (impl_AssignGreedy_ok (S := TT) (Network_mkv (x := y2.1) (H.rt 1 rfl) (H.rt 2 rfl)) (mk_list (H.rt 3 rfl)) (mk_list (H.rt 0 rfl)) hy10) fun v26 w a hp26 hf => ?_
       obtain ⟨hb9, F8, v27, v28, v29, rfl, hp27, hp28, hp29, hN4⟩ := hp26
       obtain ⟨A10, c13, rfl, hl6⟩ := VO_list hp27
       obtain rfl := VR_int hp28
       obtain rfl := VR_bool hp29
       have H := H.aO1 hb9 hN4 hl6
       have H := H.lend 0 rfl
       refine pz 7 hf fun a hf => ?_
       refine wl_end (then_n (sq (sq (reg (lN 0 hf H TF.la34 fun a hf => ?_)))))
       refine pz 2 hf fun a hf => ?_
       obtain ⟨y11, hy11, hF⟩ := bs_ hF
       refine oc hf TF.cl28 (spec_AssignGreedy_ok (S := TT) (Network_mkv (x := y2.1) (H.rt 2 rfl) (H.rt 3 rfl)) (mk_list (H.rt 4 rfl)) (mk_list (H.rt 1 rfl)) hy11) fun v30 w a hp30 hf => ?_
       obtain ⟨hb10, F10, v31, v32, v33, rfl, hp31, hp32, hp33, hN5⟩ := hp30
       obtain ⟨A11, c14, rfl, hl7⟩ := VO_list hp31
       obtain rfl := VR_int hp32
       obtain rfl := VR_bool hp33
       have H := H.aO1 hb10 hN5 hl7
       have H := H.lend 0 rfl
       refine pz 7 hf fun a hf => ?_
       have hf := hf.pn [3, 4, 7, 24, 25, 26, 28, 29]
       refine wl_end (then_n (sq ?_))
       obtain ⟨c15, hGc15, hF⟩ := bs_ hF
       have fh4 := hf.prune [3, 4, 7, 24, 25, 26] rfl
       have Hm4 := H.lt_ [true] [] [false, true, false] [1, 3, 4, 5]
       refine midF 174 (.bool c15) fh4 Hm4 ?_ fun a w hf H => ?_
       ·refine reg (pz 4 hf fun a hf => ?_)
        refine iteB hGc15 (fun hc15 hGc15 => ?_) fun hc15 hGc15 => ?_
        ·have hf := hf.lit 170 rfl hc15
         refine pz 4 hf fun a hf => ?_
         obtain rfl := oi hGc15
         have hf := hf.pn [174, 3, 4, 7, 24, 25, 26]
         have H := H.lt_ [true] [] [false, true, false] [1, 3, 4, 5]
         exact wl_end ⟨hf, H⟩
        ·have hf := hf.lit 170 rfl hc15
         refine pz 4 hf fun a hf => ?_
         obtain rfl := oi hGc15
         have hf := hf.pn [174, 3, 4, 7, 24, 25, 26]
         have H := H.lt_ [true] [] [false, true, false] [1, 3, 4, 5]
         exact wl_end ⟨hf, H⟩
       refine then_n (ib hF hf (fun hc16 hF => ?_) fun hc16 hF => ?_)
       ·refine sqz (pz 1 hf fun a hf => ?_)
        refine wl_end (then_n (wp_ret (then_r (?_))))
        obtain rfl := oi hF
        refine rT hf ?_
        exact ⟨_, rfl, H.bel, mk_bool⟩
       ·refine wp_skip (then_n (sq (reg (lN 0 hf H TF.la34 fun a hf => ?_))))
        refine pz 2 hf fun a hf => ?_
        obtain ⟨y12, hy12, hF⟩ := bs_ hF
        refine oc hf TF.cl25 (impl_CheckAssignment_ok (S := TT) (Network_mkv (x := y2.1) (H.rt 1 rfl) (H.rt 2 rfl)) (mk_list (H.rt 3 rfl)) (mk_list (H.rt 0 rfl)) hy12) fun v34 w a hp34 hf => ?_
        obtain ⟨hb11, v35, v36, rfl, hp35, hp36⟩ := hp34
        obtain rfl := VR_int hp35
        obtain rfl := VR_bool hp36
        have H := H.keep hb11
        refine pz 5 hf fun a hf => ?_
        refine wl_end (then_n (sq ?_))
        obtain ⟨c16, hGc16, hF⟩ := bs_ hF
        have fh5 := hf.prune [] rfl
        have Hm5 := H.lt_ [false] [] [false] []
        refine midF 2 (.bool c16) fh5 Hm5 ?_ fun a w hf H => ?_
        ·refine reg (pz 3 hf fun a hf => ?_)
         refine iteB hGc16 (fun hc17 hGc16 => ?_) fun hc17 hGc16 => ?_
         ·have hf := hf.lit 184 rfl hc17
          refine pz 2 hf fun a hf => ?_
          refine wlsu hf rfl rfl rfl rfl (by decide) fun a hf => ?_
          refine wlsu hf rfl rfl rfl rfl (by decide) fun a hf => ?_
          refine wlsu hf rfl rfl rfl rfl (by decide) fun a hf => ?_
          refine pz 2 hf fun a hf => ?_
          refine wlsu hf rfl rfl rfl rfl (by decide) fun a hf => ?_
          refine wlsu hf rfl rfl rfl rfl (by decide) fun a hf => ?_
          refine wlsu hf rfl rfl rfl rfl (by decide) fun a hf => ?_
          refine pz 3 hf fun a hf => ?_
          obtain rfl := oi hGc16
          have hf := hf.pn [2]
          have H := H.lt_ [false] [] [false] []
          exact wl_end ⟨hf, H⟩
         ·have hf := hf.lit 184 rfl hc17
          refine pz 2 hf fun a hf => ?_
          refine iteB hGc16 (fun hc18 hGc16 => ?_) fun hc18 hGc16 => ?_
          ·have hf := hf.lit 186 rfl hc18
           refine pz 5 hf fun a hf => ?_
           refine iteB hGc16 (fun hc19 hGc16 => ?_) fun hc19 hGc16 => ?_
           ·have hf := hf.lit 191 rfl hc19
            refine pz 6 hf fun a hf => ?_
            obtain rfl := oi hGc16
            have hf := hf.pn [2]
            have H := H.lt_ [false] [] [false] []
            exact wl_end ⟨hf, H⟩
           ·have hf := hf.lit 191 rfl hc19
            refine pz 6 hf fun a hf => ?_
            obtain rfl := oi hGc16
            have hf := hf.pn [2]
            have H := H.lt_ [false] [] [false] []
            exact wl_end ⟨hf, H⟩
          ·have hf := hf.lit 186 rfl hc18
           refine pz 11 hf fun a hf => ?_
           obtain rfl := oi hGc16
           have hf := hf.pn [2]
           have H := H.lt_ [false] [] [false] []
           exact wl_end ⟨hf, H⟩
        refine then_n (wp_ret (?_))
        obtain rfl := oi hF
        refine rT hf ?_
        exact ⟨_, rfl, H.bel, mk_bool⟩
end AT
