/- The Go functions do what is told of them, by program (gen.py). -/
import Derived.Test.YtmokfdffnijbbaaWFnGreedyOrder0
set_option linter.unusedVariables false
set_option linter.unusedSimpArgs false
set_option maxRecDepth 100000
set_option maxHeartbeats 1000000
namespace AT
open Go Go.RowKit Go.Proofs
variable {fu : Nat} {w0 : World}
theorem impl_greedy_ok {S : Nat → Prop} {v0_ : Value} {v1_ : Value} {list : List Request} {order : List Int} {r : List Block × Bool} (h0 : VR w0 S v0_ list) (h1 : VR w0 S v1_ order) (hF : impl_greedy fu list order = some r) :
    Calls Try.prog 24 [v0_, v1_].toArray w0 fun e w' => ∃ v, e = .returned v ∧ (Below w0.heap.size w0 w' ∧ ∃ F0, ∃ u0 u1, v = .tuple #[u0, u1] ∧ VO w' F0 u0 r.1 ∧ VR w' (St ⟨w0, []⟩ S [] [] [] true) u1 r.2 ∧ New w0 w' F0) := by
 obtain ⟨A, c, rfl, hl⟩ := VR_list h0
 obtain ⟨A2, c2, rfl, hl2⟩ := VR_list h1
 have H := Mem.start ⟨w0, []⟩ S
 have H := H.pA hl
 have H := H.pA hl2
 refine en Try.func24 fun a hf => ?_
 rw [impl_greedy] at hF
 refine sqz (pz 2 hf fun a hf => ?_)
 refine wl_end (then_n (sq ?_))
 obtain ⟨l, hl_, hF⟩ := bs_ hF
 obtain ⟨l2, hl2_, hF⟩ := bs_ hF
 refine mid (fun a w => ∃ (b' : Nat) (A4 : Option Addr) (c4 : Nat) (A3 : Option Addr) (c3 : Nat), Fr a 56 [(0, (.slice A list.length c)), (1, (.slice A2 order.length c2)), (6, (.slice A3 l.length c3)), (7, (.pointer (some ⟨b', 0, none⟩)))] ∧ Mem ⟨w0, []⟩ S [⟨b', 92, [(.slice A4 l2.length c4)]⟩] [⟨.sh true, 4, A4, c4, (l2 : List Bool)⟩, ⟨.sh true, 94, A3, c3, (l : List Block)⟩] [] [(false, MP.val [(.slice A2 order.length c2)] (order : List Int)), (false, MP.val [(.slice A list.length c)] (list : List Request))] w) ?_ ?_
 ·refine dw [8] 9 fun w hb => ?_
  have H := H.keep hb
  refine zp 0 hf trivial fun a hf => ?_
  refine zp 1 hf trivial fun a hf => ?_
  refine zp 3 hf trivial fun a hf => ?_
  refine zp 4 hf trivial fun a hf => ?_
  refine on3 (i := 2) (j := 5) (k := 6) (bi := [true, true, true, true, true, false, false, false, false]) (bj := [true, true, false, true, true, true, false, false, false]) (bk := [true, true, false, true, true, false, true, false, false]) (by kernel_rfl) rfl rfl rfl rfl rfl rfl rfl rfl rfl ?_ ?_ ?_
  ·refine (op_make (z0 := (({ First := 0, Count := 0 } : Block) : Block)) hf H Try.underlying35 TF.ai94 rfl (by decide) rfl rfl (Block_mk (x := ({ First := 0, Count := 0 } : Block))) hl_ (by decide) fun A3 c3 a w hf H => ?_)
   refine ⟨fun _ => trivial, ?_⟩
   refine on2 (i := 5) (j := 6) (bi := [true, true, true, true, true, true, false, false, false]) (bj := [true, true, true, true, true, false, true, false, false]) (by kernel_rfl) rfl rfl rfl rfl rfl rfl ?_ ?_
   ·refine (op_make (z0 := (false : Bool)) hf H Try.underlying92 TF.ai4 rfl (by decide) rfl rfl rfl hl2_ (by decide) fun A4 c4 a w hf H => ?_)
    refine ⟨fun _ => trivial, ?_⟩
    refine nn 6 rfl (op_alloc hf H TF.zv92 rfl (by decide) fun b' a w hf H => ?_)
    refine ⟨fun _ => trivial, ?_⟩
    refine zp 7 hf trivial fun a hf => ?_
    refine nn 8 rfl (op_storeB hf H 0 TF.sz92 rfl rfl rfl rfl rfl rfl (nle rfl) fun w H => ?_)
    refine ⟨fun _ => trivial, ?_⟩
    refine dk ?_
    have hf := hf.pn [0, 1, 6, 7]
    have H := H.lt_ [true] [true, true] [] [0, 1]
    exact ⟨b', A4, c4, A3, c3, hf, H⟩
   ·refine (op_alloc hf H TF.zv92 rfl (by decide) fun b' a w hf H => ?_)
    refine ⟨fun _ => trivial, ?_⟩
    refine zp 7 hf trivial fun a hf => ?_
    refine nn 5 rfl (op_make (z0 := (false : Bool)) hf H Try.underlying92 TF.ai4 rfl (by decide) rfl rfl rfl hl2_ (by decide) fun A4 c4 a w hf H => ?_)
    refine ⟨fun _ => trivial, ?_⟩
    refine nn 8 rfl (op_storeB hf H 0 TF.sz92 rfl rfl rfl rfl rfl rfl (nle rfl) fun w H => ?_)
    refine ⟨fun _ => trivial, ?_⟩
    refine dk ?_
    have hf := hf.pn [0, 1, 6, 7]
    have H := H.lt_ [true] [true, true] [] [0, 1]
    exact ⟨b', A4, c4, A3, c3, hf, H⟩
  ·refine (op_make (z0 := (false : Bool)) hf H Try.underlying92 TF.ai4 rfl (by decide) rfl rfl rfl hl2_ (by decide) fun A3 c3 a w hf H => ?_)
   refine ⟨fun _ => trivial, ?_⟩
   refine on2 (i := 2) (j := 6) (bi := [true, true, true, true, true, true, false, false, false]) (bj := [true, true, false, true, true, true, true, false, false]) (by kernel_rfl) rfl rfl rfl rfl rfl rfl ?_ ?_
   ·refine (op_make (z0 := (({ First := 0, Count := 0 } : Block) : Block)) hf H Try.underlying35 TF.ai94 rfl (by decide) rfl rfl (Block_mk (x := ({ First := 0, Count := 0 } : Block))) hl_ (by decide) fun A4 c4 a w hf H => ?_)
    refine ⟨fun _ => trivial, ?_⟩
    refine nn 6 rfl (op_alloc hf H TF.zv92 rfl (by decide) fun b' a w hf H => ?_)
    refine ⟨fun _ => trivial, ?_⟩
    refine zp 7 hf trivial fun a hf => ?_
    refine nn 8 rfl (op_storeB hf H 0 TF.sz92 rfl rfl rfl rfl rfl rfl (nle rfl) fun w H => ?_)
    refine ⟨fun _ => trivial, ?_⟩
    refine dk ?_
    have H := H.frontR 1 rfl
    have hf := hf.pn [0, 1, 6, 7]
    have H := H.lt_ [true] [true, true] [] [0, 1]
    exact ⟨b', A3, c3, A4, c4, hf, H⟩
   ·refine (op_alloc hf H TF.zv92 rfl (by decide) fun b' a w hf H => ?_)
    refine ⟨fun _ => trivial, ?_⟩
    refine nn 2 rfl (op_make (z0 := (({ First := 0, Count := 0 } : Block) : Block)) hf H Try.underlying35 TF.ai94 rfl (by decide) rfl rfl (Block_mk (x := ({ First := 0, Count := 0 } : Block))) hl_ (by decide) fun A4 c4 a w hf H => ?_)
    refine ⟨fun _ => trivial, ?_⟩
    refine zp 7 hf trivial fun a hf => ?_
    refine nn 8 rfl (op_storeB hf H 0 TF.sz92 rfl rfl rfl rfl rfl rfl (nle rfl) fun w H => ?_)
    refine ⟨fun _ => trivial, ?_⟩
    refine dk ?_
    have H := H.frontR 1 rfl
    have hf := hf.pn [0, 1, 6, 7]
    have H := H.lt_ [true] [true, true] [] [0, 1]
    exact ⟨b', A3, c3, A4, c4, hf, H⟩
  ·refine (op_alloc hf H TF.zv92 rfl (by decide) fun b' a w hf H => ?_)
   refine ⟨fun _ => trivial, ?_⟩
   refine on2 (i := 2) (j := 5) (bi := [true, true, true, true, true, false, true, false, false]) (bj := [true, true, false, true, true, true, true, false, false]) (by kernel_rfl) rfl rfl rfl rfl rfl rfl ?_ ?_
   ·refine (op_make (z0 := (({ First := 0, Count := 0 } : Block) : Block)) hf H Try.underlying35 TF.ai94 rfl (by decide) rfl rfl (Block_mk (x := ({ First := 0, Count := 0 } : Block))) hl_ (by decide) fun A3 c3 a w hf H => ?_)
    refine ⟨fun _ => trivial, ?_⟩
    refine zp 7 hf trivial fun a hf => ?_
    refine nn 5 rfl (op_make (z0 := (false : Bool)) hf H Try.underlying92 TF.ai4 rfl (by decide) rfl rfl rfl hl2_ (by decide) fun A4 c4 a w hf H => ?_)
    refine ⟨fun _ => trivial, ?_⟩
    refine nn 8 rfl (op_storeB hf H 0 TF.sz92 rfl rfl rfl rfl rfl rfl (nle rfl) fun w H => ?_)
    refine ⟨fun _ => trivial, ?_⟩
    refine dk ?_
    have hf := hf.pn [0, 1, 6, 7]
    have H := H.lt_ [true] [true, true] [] [0, 1]
    exact ⟨b', A4, c4, A3, c3, hf, H⟩
   ·refine (op_make (z0 := (false : Bool)) hf H Try.underlying92 TF.ai4 rfl (by decide) rfl rfl rfl hl2_ (by decide) fun A3 c3 a w hf H => ?_)
    refine ⟨fun _ => trivial, ?_⟩
    refine nn 2 rfl (op_make (z0 := (({ First := 0, Count := 0 } : Block) : Block)) hf H Try.underlying35 TF.ai94 rfl (by decide) rfl rfl (Block_mk (x := ({ First := 0, Count := 0 } : Block))) hl_ (by decide) fun A4 c4 a w hf H => ?_)
    refine ⟨fun _ => trivial, ?_⟩
    refine zp 7 hf trivial fun a hf => ?_
    refine nn 8 rfl (op_storeB hf H 0 TF.sz92 rfl rfl rfl rfl rfl rfl (nle rfl) fun w H => ?_)
    refine ⟨fun _ => trivial, ?_⟩
    refine dk ?_
    have H := H.frontR 1 rfl
    have hf := hf.pn [0, 1, 6, 7]
    have H := H.lt_ [true] [true, true] [] [0, 1]
    exact ⟨b', A3, c3, A4, c4, hf, H⟩
 rintro a w ⟨b', A4, c4, A3, c3, hf, H⟩
 refine then_n (sq (sqz (pz 3 hf fun a hf => ?_)))
 refine wl_end (then_n ?_)
 obtain ⟨out', hB1, hF⟩ := bs_ hF
 have hf := hf.pn [0, 6, 7, 18, 19, 20]
 have H := H.lt_ [true] [true, true] [] [0, 1]
 refine loopC (fun (s : List Block × Int × List Bool) (a : Act) (w : World) => match s with | (blocks, i, m) => ∃ (A5 : Option Addr) (c5 : Nat) (E : Go.TypeId) (A6 : Option Addr) (c6 : Nat) (E2 : Go.TypeId), Fr a 56 [(0, (.slice A list.length c)), (6, (.slice A5 blocks.length c5)), (7, (.pointer (some ⟨b', 0, none⟩))), (18, (.slice A2 order.length c2)), (19, (.int .i64 (order.length : Int))), (20, (.int .i64 i))] ∧ Mem ⟨w0, []⟩ S [⟨b', 92, [(.slice A6 m.length c6)]⟩] [⟨.sh true, E2, A6, c6, (m : List Bool)⟩, ⟨.sh true, E, A5, c5, (blocks : List Block)⟩] [] [(false, MP.val [(.slice A2 order.length c2)] (order : List Int)), (false, MP.val [(.slice A list.length c)] (list : List Request))] w) (fun k (s : List Block × Int × List Bool) => impl_greedy_L1 fu list order k s.1 s.2.1 s.2.2 = some out') (fun s => out' = Out.next s) (l, 0, l2) fu hB1 ⟨A3, c3, 94, A4, c4, 4, hf, H⟩ (fun s h => by cases h) ?_ ?_
 ·rintro fk ⟨blocks, i, m⟩ a w hR1 hI
  replace hR1 : impl_greedy_L1 fu list order (fk + 1) blocks i m = some out' := hR1
  rw [impl_greedy_L1] at hR1
  obtain ⟨A5, c5, E, A6, c6, E2, hf, H⟩ := hI
  refine sqz (pz 1 hf fun a hf => ?_)
  refine wl_end (then_n (sq (ib hR1 hf (fun hc hR1 => ?_) fun hc hR1 => ?_)))
  ·refine wp_skip (then_n (sq (wp_block (sq (reg ?_)))))
   obtain ⟨e, he, hR1⟩ := bs_ hR1
   refine wl0 rfl (op_iaddr hf H Try.underlying31 TF.sz3 0 rfl rfl rfl he (by decide) fun p o cs a hf hr H => ?_)
   obtain rfl := hr
   refine oq hf (rq_loadI hf H TF.ls3 0 0 rfl rfl rfl) fun a hf => ?_
   refine pz 1 hf fun a hf => ?_
   refine wr (pz 1 hf fun a hf => ?_)
   refine wl_end (then_n ?_)
   obtain ⟨out2, hB2, hR1⟩ := bs_ hR1
   have hf := hf.pn [0, 6, 7, 9, 10, 18, 19, 20]
   have H := H.lt_ [true] [true, true] [] [1, 2]
   refine loopC (fun (s : List Block × Int × List Bool) (a : Act) (w : World) => match s with | (blocks2, first, m2) => ∃ (A7 : Option Addr) (c7 : Nat) (E3 : Go.TypeId) (A8 : Option Addr) (c8 : Nat) (E4 : Go.TypeId), Fr a 56 [(0, (.slice A list.length c)), (6, (.slice A7 blocks2.length c7)), (7, (.pointer (some ⟨b', 0, none⟩))), (9, (.int .i64 e)), (10, (.int .i64 first)), (18, (.slice A2 order.length c2)), (19, (.int .i64 (order.length : Int))), (20, (.int .i64 i))] ∧ Mem ⟨w0, []⟩ S [⟨b', 92, [(.slice A8 m2.length c8)]⟩] [⟨.sh true, E4, A8, c8, (m2 : List Bool)⟩, ⟨.sh true, E3, A7, c7, (blocks2 : List Block)⟩] [] [(false, MP.val [(.slice A2 order.length c2)] (order : List Int)), (false, MP.val [(.slice A list.length c)] (list : List Request))] w) (fun k (s : List Block × Int × List Bool) => impl_greedy_L2 fu list e k s.1 s.2.1 s.2.2 = some out2) (fun s => out2 = Out.next s) (blocks, 0, m) fu hB2 ⟨A5, c5, E, A6, c6, E2, hf, H⟩ (fun s h => by cases h) ?_ ?_
   ·rintro fk ⟨blocks2, first, m2⟩ a w hR2 hI
    replace hR2 : impl_greedy_L2 fu list e (fk + 1) blocks2 first m2 = some out2 := hR2
    rw [impl_greedy_L2] at hR2
    obtain ⟨A7, c7, E3, A8, c8, E4, hf, H⟩ := hI
    refine sq (sq (reg (lB 0 hf H TF.ls92 fun a hf => ?_)))
    refine pz 1 hf fun a hf => ?_
    obtain ⟨e2, he2, hR2⟩ := bs_ hR2
    refine wl0 rfl (op_iaddrR hf H Try.underlying92 TF.sz4 0 rfl rfl rfl he2 (by decide) fun p2 o2 cs2 a hf hA hr2 hk => ?_)
    obtain rfl := hr2
    refine oq hf (rq_load1 hf TF.ls4 rfl (hk 0 _ rfl)) fun a hf => ?_
    refine pz 1 hf fun a hf => ?_
    refine wl_end (then_n (ib hR2 hf (fun hc2 hR2 => ?_) fun hc2 hR2 => ?_))
    ·refine ws (pz 3 hf fun a hf => ?_)
     obtain ⟨e3, he3, hR2⟩ := bs_ hR2
     refine wl0 rfl (op_iaddr hf H Try.underlying28 TF.sz89 1 rfl rfl rfl he3 (by decide) fun p3 o3 cs3 a hf hr3 H => ?_)
     obtain ⟨A9, c9, rfl, hl3⟩ := Request_cells hr3
     have H := H.pF hl3
     refine pz 1 hf fun a hf => ?_
     refine oq hf (rq_loadI hf H TF.ls3 1 2 rfl rfl rfl) fun a hf => ?_
     refine oq hf (rq_build hf (cs := [(.int .i64 first), (.int .i64 e3.Count)]) rfl (fun w => by kernel_rfl)) fun a hf => ?_
     refine aL hf H TF.zv94 fun b2 a w hf H => ?_
     refine sB 0 hf H TF.sz94 fun w H => ?_
     refine wl_end (then_n (sq (sq (reg (lN 0 hf H TF.la94 fun a hf => ?_)))))
     obtain ⟨y, hy, hR2⟩ := bs_ hR2
     refine oc hf TF.cl58 (impl_IsValidBlock_ok (S := TT) Block_mkv hy) fun v w a hp hf => ?_
     obtain ⟨hb, hp⟩ := hp
     obtain rfl := VR_bool hp
     have H := H.keep hb
     refine pz 1 hf fun a hf => ?_
     have hf := hf.pn [0, 6, 7, 9, 10, 11, 18, 19, 20, 40]
     refine wl_end (then_n (ib hR2 hf (fun hc3 hR2 => ?_) fun hc3 hR2 => ?_))
     ·refine sqz (pz 2 hf fun a hf => ?_)
      refine wl_end (then_n (wp_ret (then_r (blk_r (then_r (then_r (blk_r (then_r (blk_r (then_r (then_r (blk_r (then_r (then_r (?_)))))))))))))))
      have H := H.ownNil (Block)
      have H := H.lend 0 rfl
      obtain rfl := oi hR2
      replace hR1 := on_ret hR1
      obtain rfl := oi hR1
      replace hF := on_ret hF
      obtain rfl := oi hF
      refine ret_2 hf rfl (rv_tmp hf rfl) (rv_tmp hf rfl) ?_
      have hN := H.ends1
      exact ⟨_, rfl, H.bel, [], _, _, rfl, (mko_list (H.ownAt 0 rfl)), mk_bool, by first | exact hN | simpa using hN⟩
     ·refine wp_skip (then_n (sqz (pz 3 hf fun a hf => ?_)))
      refine lN 0 hf H TF.la94 fun a hf => ?_
      refine oq hf (rq_makeFunc hf rfl) fun a hf => ?_
      obtain ⟨y2, hy2, hR2⟩ := bs_ hR2
      refine oc hf TF.cl59 (impl_isFree_of_greedy_c1_ok (S := TT) (mk_list (H.rt 3 rfl)) (mk_list (H.rowTrue 1 rfl)) mk_int Block_mkv (H.boxTrue 1 rfl) (H.rowTrue 0 rfl) hy2) fun v2 w a hp2 hf => ?_
      obtain ⟨hb2, hp2⟩ := hp2
      obtain rfl := VR_bool hp2
      have H := H.keep hb2
      refine wl_end (then_n (ib hR2 hf (fun hc4 hR2 => ?_) fun hc4 hR2 => ?_))
      ·obtain ⟨e4, he4, hR2⟩ := bs_ hR2
       obtain ⟨e5, he5, hR2⟩ := bs_ hR2
       refine mid (fun a w => Fr a 56 [(0, (.slice A list.length c)), (6, (.slice A7 (blocks2.set (e : Int).toNat ({ First := first, Count := e3.Count } : Block)).length c7)), (7, (.pointer (some ⟨b', 0, none⟩))), (9, (.int .i64 e)), (10, (.int .i64 first)), (18, (.slice A2 order.length c2)), (19, (.int .i64 (order.length : Int))), (20, (.int .i64 i))] ∧ Mem ⟨w0, []⟩ S [⟨b', 92, [(.slice A8 (m2.set (e : Int).toNat true).length c8)]⟩] [⟨.sh true, E4, A8, c8, (m2.set (e : Int).toNat true : List Bool)⟩, ⟨.sh true, E3, A7, c7, (blocks2.set (e : Int).toNat ({ First := first, Count := e3.Count } : Block) : List Block)⟩] [] [(false, MP.val [(.slice A2 order.length c2)] (order : List Int)), (false, MP.val [(.slice A list.length c)] (list : List Request))] w) ?_ ?_
       ·refine dw [6, 8] 9 fun w hb => ?_
        have H := H.keep hb
        refine zp 0 hf trivial fun a hf => ?_
        refine zp 1 hf trivial fun a hf => ?_
        refine zp 3 hf trivial fun a hf => ?_
        refine strT (H.lt_ [true, false] [false, false] [] []) (fun w H => trivial) fun hS => ?_
        refine zS 4 [4, 5, 6, 7, 8] rfl rfl rfl rfl hf hS (fun w H => rq_loadBN hf H TF.la94 0 rfl rfl rfl rfl) fun a hf => ?_
        obtain ⟨p4, o4, hA2, hx⟩ := pre_iaddrR H Try.underlying35 TF.sz94 1 rfl he4
        refine zP 5 rfl rfl rfl rfl hf hS (fun w => rq_iaddrE hf rfl rfl rfl hx w) fun a hf => ?_
        refine on2 (i := 2) (j := 6) (bi := [true, true, true, true, true, true, false, false, false]) (bj := [true, true, false, true, true, true, true, false, false]) (by kernel_rfl) rfl rfl rfl rfl rfl rfl ?_ ?_
        ·refine (op_q hf (rq_loadB hf H TF.ls92 1 rfl rfl rfl) rfl (by decide) fun a hf => ?_)
         have hS := H.lt_ [true, false] [false, false] [] []
         refine aS hS ?_
         refine nn 6 rfl (op_storeR (e' := ({ First := first, Count := e3.Count } : Block)) (o := o4) (off := 0) hf H TF.sz94 1 rfl rfl rfl rfl rfl (nle rfl) rfl hA2 he4 (st_full (Block_mk (x := ({ First := first, Count := e3.Count } : Block)))) fun w H => ?_)
         replace hf : Fr a 56 [(0, (.slice A list.length c)), (6, (.slice A7 blocks2.length c7)), (7, (.pointer (some ⟨b', 0, none⟩))), (9, (.int .i64 e)), (10, (.int .i64 first)), (11, (.pointer (some ⟨b2, 0, none⟩))), (18, (.slice A2 order.length c2)), (19, (.int .i64 (order.length : Int))), (20, (.int .i64 i)), (47, (.slice A7 blocks2.length c7)), (48, (.int .i64 e)), (49, (.slice A8 m2.length c8)), (50, (.int .i64 e)), (51, (.agg #[(.int .i64 first), (.int .i64 e3.Count)])), (52, (.pointer (some ⟨p4, o4 + 0, none⟩)))] := hf.prune [0, 6, 7, 9, 10, 11, 18, 19, 20, 47, 48, 49, 50, 51, 52] rfl
         replace hf : Fr a 56 [(0, (.slice A list.length c)), (6, (.slice A7 (blocks2.set (e : Int).toNat ({ First := first, Count := e3.Count } : Block)).length c7)), (7, (.pointer (some ⟨b', 0, none⟩))), (9, (.int .i64 e)), (10, (.int .i64 first)), (11, (.pointer (some ⟨b2, 0, none⟩))), (18, (.slice A2 order.length c2)), (19, (.int .i64 (order.length : Int))), (20, (.int .i64 i)), (47, (.slice A7 (blocks2.set (e : Int).toNat ({ First := first, Count := e3.Count } : Block)).length c7)), (48, (.int .i64 e)), (49, (.slice A8 m2.length c8)), (50, (.int .i64 e)), (51, (.agg #[(.int .i64 first), (.int .i64 e3.Count)])), (52, (.pointer (some ⟨p4, o4 + 0, none⟩)))] := by simpa only [List.length_set, Nat.add_zero] using hf
         refine ⟨fun h => absurd h (by decide), ?_⟩
         refine nn 7 rfl (op_iaddrR hf H Try.underlying92 TF.sz4 0 rfl rfl rfl he5 (by decide) fun p5 o5 cs4 a hf hA3 hr4 hk2 => ?_)
         obtain rfl := hr4
         refine ⟨fun h => absurd h (by decide), ?_⟩
         refine nn 8 rfl (op_storeR (e' := true) (o := o5) (off := 0) hf H TF.sz4 0 rfl rfl rfl rfl rfl (nle rfl) rfl hA3 he5 (st_full rfl) fun w H => ?_)
         replace hf : Fr a 56 [(0, (.slice A list.length c)), (6, (.slice A7 (blocks2.set (e : Int).toNat ({ First := first, Count := e3.Count } : Block)).length c7)), (7, (.pointer (some ⟨b', 0, none⟩))), (9, (.int .i64 e)), (10, (.int .i64 first)), (11, (.pointer (some ⟨b2, 0, none⟩))), (18, (.slice A2 order.length c2)), (19, (.int .i64 (order.length : Int))), (20, (.int .i64 i)), (47, (.slice A7 (blocks2.set (e : Int).toNat ({ First := first, Count := e3.Count } : Block)).length c7)), (48, (.int .i64 e)), (49, (.slice A8 m2.length c8)), (50, (.int .i64 e)), (51, (.agg #[(.int .i64 first), (.int .i64 e3.Count)])), (52, (.pointer (some ⟨p4, o4 + 0, none⟩))), (53, (.pointer (some ⟨p5, o5 + 0, none⟩)))] := hf.prune [0, 6, 7, 9, 10, 11, 18, 19, 20, 47, 48, 49, 50, 51, 52, 53] rfl
         replace hf : Fr a 56 [(0, (.slice A list.length c)), (6, (.slice A7 (blocks2.set (e : Int).toNat ({ First := first, Count := e3.Count } : Block)).length c7)), (7, (.pointer (some ⟨b', 0, none⟩))), (9, (.int .i64 e)), (10, (.int .i64 first)), (11, (.pointer (some ⟨b2, 0, none⟩))), (18, (.slice A2 order.length c2)), (19, (.int .i64 (order.length : Int))), (20, (.int .i64 i)), (47, (.slice A7 (blocks2.set (e : Int).toNat ({ First := first, Count := e3.Count } : Block)).length c7)), (48, (.int .i64 e)), (49, (.slice A8 (m2.set (e : Int).toNat true).length c8)), (50, (.int .i64 e)), (51, (.agg #[(.int .i64 first), (.int .i64 e3.Count)])), (52, (.pointer (some ⟨p4, o4 + 0, none⟩))), (53, (.pointer (some ⟨p5, o5 + 0, none⟩)))] := by simpa only [List.length_set, Nat.add_zero] using hf
         replace H : Mem ⟨w0, []⟩ S [⟨b2, 94, [(.int .i64 first), (.int .i64 e3.Count)]⟩, ⟨b', 92, [(.slice A8 (m2.set (e : Int).toNat true).length c8)]⟩] [⟨.sh true, E4, A8, c8, (m2.set (e : Int).toNat true : List Bool)⟩, ⟨.sh true, E3, A7, c7, (blocks2.set (e : Int).toNat ({ First := first, Count := e3.Count } : Block) : List Block)⟩] [] [(false, MP.val [(.slice A9 e3.Route.Fibers.length c9)] (e3.Route.Fibers : List Int)), (false, MP.cells ⟨p3, o3, none⟩ [(.int .i64 e3.Route.Start), (.slice A9 e3.Route.Fibers.length c9), (.int .i64 e3.Count)]), (false, MP.val [(.slice A2 order.length c2)] (order : List Int)), (false, MP.val [(.slice A list.length c)] (list : List Request))] w := by first | (simp only [List.length_set]; exact H) | (simp only [List.length_set] at H ⊢; exact H)
         refine ⟨fun h => absurd h (by decide), ?_⟩
         refine dk ?_
         have hf := hf.pn [0, 6, 7, 9, 10, 18, 19, 20]
         have H := H.lt_ [false, true] [true, true] [] [2, 3]
         exact ⟨hf, H⟩
        ·refine (op_storeR (e' := ({ First := first, Count := e3.Count } : Block)) (o := o4) (off := 0) hf H TF.sz94 1 rfl rfl rfl rfl rfl (nle rfl) rfl hA2 he4 (st_full (Block_mk (x := ({ First := first, Count := e3.Count } : Block)))) fun w H => ?_)
         replace hf : Fr a 56 [(0, (.slice A list.length c)), (6, (.slice A7 blocks2.length c7)), (7, (.pointer (some ⟨b', 0, none⟩))), (9, (.int .i64 e)), (10, (.int .i64 first)), (11, (.pointer (some ⟨b2, 0, none⟩))), (18, (.slice A2 order.length c2)), (19, (.int .i64 (order.length : Int))), (20, (.int .i64 i)), (47, (.slice A7 blocks2.length c7)), (48, (.int .i64 e)), (50, (.int .i64 e)), (51, (.agg #[(.int .i64 first), (.int .i64 e3.Count)])), (52, (.pointer (some ⟨p4, o4 + 0, none⟩)))] := hf.prune [0, 6, 7, 9, 10, 11, 18, 19, 20, 47, 48, 50, 51, 52] rfl
         replace hf : Fr a 56 [(0, (.slice A list.length c)), (6, (.slice A7 (blocks2.set (e : Int).toNat ({ First := first, Count := e3.Count } : Block)).length c7)), (7, (.pointer (some ⟨b', 0, none⟩))), (9, (.int .i64 e)), (10, (.int .i64 first)), (11, (.pointer (some ⟨b2, 0, none⟩))), (18, (.slice A2 order.length c2)), (19, (.int .i64 (order.length : Int))), (20, (.int .i64 i)), (47, (.slice A7 (blocks2.set (e : Int).toNat ({ First := first, Count := e3.Count } : Block)).length c7)), (48, (.int .i64 e)), (50, (.int .i64 e)), (51, (.agg #[(.int .i64 first), (.int .i64 e3.Count)])), (52, (.pointer (some ⟨p4, o4 + 0, none⟩)))] := by simpa only [List.length_set, Nat.add_zero] using hf
         refine ⟨fun h => absurd h (by decide), ?_⟩
         refine nn 2 rfl (op_q hf (rq_loadB hf H TF.ls92 1 rfl rfl rfl) rfl (by decide) fun a hf => ?_)
         refine ⟨fun h => absurd h (by decide), ?_⟩
         refine nn 7 rfl (op_iaddrR hf H Try.underlying92 TF.sz4 0 rfl rfl rfl he5 (by decide) fun p5 o5 cs4 a hf hA3 hr4 hk2 => ?_)
         obtain rfl := hr4
         refine ⟨fun h => absurd h (by decide), ?_⟩
         refine nn 8 rfl (op_storeR (e' := true) (o := o5) (off := 0) hf H TF.sz4 0 rfl rfl rfl rfl rfl (nle rfl) rfl hA3 he5 (st_full rfl) fun w H => ?_)
         replace hf : Fr a 56 [(0, (.slice A list.length c)), (6, (.slice A7 (blocks2.set (e : Int).toNat ({ First := first, Count := e3.Count } : Block)).length c7)), (7, (.pointer (some ⟨b', 0, none⟩))), (9, (.int .i64 e)), (10, (.int .i64 first)), (11, (.pointer (some ⟨b2, 0, none⟩))), (18, (.slice A2 order.length c2)), (19, (.int .i64 (order.length : Int))), (20, (.int .i64 i)), (47, (.slice A7 (blocks2.set (e : Int).toNat ({ First := first, Count := e3.Count } : Block)).length c7)), (48, (.int .i64 e)), (49, (.slice A8 m2.length c8)), (50, (.int .i64 e)), (51, (.agg #[(.int .i64 first), (.int .i64 e3.Count)])), (52, (.pointer (some ⟨p4, o4 + 0, none⟩))), (53, (.pointer (some ⟨p5, o5 + 0, none⟩)))] := hf.prune [0, 6, 7, 9, 10, 11, 18, 19, 20, 47, 48, 49, 50, 51, 52, 53] rfl
         replace hf : Fr a 56 [(0, (.slice A list.length c)), (6, (.slice A7 (blocks2.set (e : Int).toNat ({ First := first, Count := e3.Count } : Block)).length c7)), (7, (.pointer (some ⟨b', 0, none⟩))), (9, (.int .i64 e)), (10, (.int .i64 first)), (11, (.pointer (some ⟨b2, 0, none⟩))), (18, (.slice A2 order.length c2)), (19, (.int .i64 (order.length : Int))), (20, (.int .i64 i)), (47, (.slice A7 (blocks2.set (e : Int).toNat ({ First := first, Count := e3.Count } : Block)).length c7)), (48, (.int .i64 e)), (49, (.slice A8 (m2.set (e : Int).toNat true).length c8)), (50, (.int .i64 e)), (51, (.agg #[(.int .i64 first), (.int .i64 e3.Count)])), (52, (.pointer (some ⟨p4, o4 + 0, none⟩))), (53, (.pointer (some ⟨p5, o5 + 0, none⟩)))] := by simpa only [List.length_set, Nat.add_zero] using hf
         replace H : Mem ⟨w0, []⟩ S [⟨b2, 94, [(.int .i64 first), (.int .i64 e3.Count)]⟩, ⟨b', 92, [(.slice A8 (m2.set (e : Int).toNat true).length c8)]⟩] [⟨.sh true, E4, A8, c8, (m2.set (e : Int).toNat true : List Bool)⟩, ⟨.sh true, E3, A7, c7, (blocks2.set (e : Int).toNat ({ First := first, Count := e3.Count } : Block) : List Block)⟩] [] [(false, MP.val [(.slice A9 e3.Route.Fibers.length c9)] (e3.Route.Fibers : List Int)), (false, MP.cells ⟨p3, o3, none⟩ [(.int .i64 e3.Route.Start), (.slice A9 e3.Route.Fibers.length c9), (.int .i64 e3.Count)]), (false, MP.val [(.slice A2 order.length c2)] (order : List Int)), (false, MP.val [(.slice A list.length c)] (list : List Request))] w := by first | (simp only [List.length_set]; exact H) | (simp only [List.length_set] at H ⊢; exact H)
         refine ⟨fun h => absurd h (by decide), ?_⟩
         refine dk ?_
         have hf := hf.pn [0, 6, 7, 9, 10, 18, 19, 20]
         have H := H.lt_ [false, true] [true, true] [] [2, 3]
         exact ⟨hf, H⟩
       rintro a w ⟨hf, H⟩
       refine blk_n (then_n (reg (pz 3 hf fun a hf => ?_)))
       refine wl_end ?_
       have hf := hf.pn [0, 6, 7, 9, 10, 18, 19, 20]
       have H := H.lt_ [true] [true, true] [] [0, 1]
       exact then_n ⟨(blocks2.set (e : Int).toNat ({ First := first, Count := e3.Count } : Block), w64 (first + 1), m2.set (e : Int).toNat true), hR2, A7, c7, E3, A8, c8, E4, hf, H⟩
      ·refine wp_skip (blk_n (then_n (reg (pz 3 hf fun a hf => ?_))))
       refine wl_end ?_
       have hf := hf.pn [0, 6, 7, 9, 10, 18, 19, 20]
       have H := H.lt_ [false, true] [true, true] [] [2, 3]
       exact then_n ⟨(blocks2, w64 (first + 1), m2), hR2, A7, c7, E3, A8, c8, E4, hf, H⟩
    ·refine wp_exit (then_x (then_x (blk_e (?_))))
     have hf := hf.pn [0, 6, 7, 9, 10, 18, 19, 20]
     have H := H.lt_ [true] [true, true] [] [0, 1]
     exact ⟨(blocks2, first, m2), (Option.some.inj hR2).symm, A7, c7, E3, A8, c8, E4, hf, H⟩
   rintro a w ⟨⟨blocks3, first2, m3⟩, rfl, A10, c10, E5, A11, c11, E6, hf, H⟩
   replace hR1 := on_next hR1
   try dsimp only at hR1
   refine blk_n (then_n (reg (pz 2 hf fun a hf => ?_)))
   refine wl_end ?_
   have hf := hf.pn [0, 6, 7, 18, 19, 20]
   have H := H.lt_ [true] [true, true] [] [0, 1]
   exact then_n ⟨(blocks3, w64 (i + 1), m3), hR1, A10, c10, E5, A11, c11, E6, hf, H⟩
  ·refine wp_exit (then_x (then_x (blk_e (?_))))
   have hf := hf.pn [0, 6, 7, 18, 19, 20]
   have H := H.lt_ [true] [true, true] [] [0, 1]
   exact ⟨(blocks, i, m), (Option.some.inj hR1).symm, A5, c5, E, A6, c6, E2, hf, H⟩
 rintro a w ⟨⟨blocks4, i2, m4⟩, rfl, A12, c12, E7, A13, c13, E8, hf, H⟩
 replace hF := on_next hF
 try dsimp only at hF
 refine then_n (sqz (pz 3 hf fun a hf => ?_))
 refine wer ?_
 have H := H.rowOwn 1 rfl rfl
 obtain ⟨F, H⟩ := H.freezeOwn 1 rfl
 have H := H.lend 0 rfl
 obtain rfl := oi hF
 refine ret_2 hf rfl (rv_tmp hf rfl) (rv_tmp hf rfl) ?_
 have hN := H.ends1
 exact ⟨_, rfl, H.bel, F, _, _, rfl, (mko_list (H.ownAt 0 rfl)), mk_bool, by first | exact hN | simpa using hN⟩
theorem impl_heightOf_ok {S : Nat → Prop} {v0_ : Value} {blocks : List Block} {r : Int} (h0 : VR w0 S v0_ blocks) (hF : impl_heightOf fu blocks = some r) :
    Calls Try.prog 25 [v0_].toArray w0 fun e w' => ∃ v, e = .returned v ∧ (Below w0.heap.size w0 w' ∧ VR w' (St ⟨w0, []⟩ S [] [] [] true) v r) := by
 obtain ⟨A, c, rfl, hl⟩ := VR_list h0
 have H := Mem.start ⟨w0, []⟩ S
 have H := H.pA hl
 refine en Try.func25 fun a hf => ?_
 rw [impl_heightOf] at hF
 refine sqz (pz 1 hf fun a hf => ?_)
 refine wr (pz 1 hf fun a hf => ?_)
 refine we (sqz (pz 3 hf fun a hf => ?_))
 refine wl_end (then_n ?_)
 obtain ⟨out', hB1, hF⟩ := bs_ hF
 have hf := hf.pn [3, 6, 7, 8]
 have H := H.lt_ [] [] [] [0]
 refine loopC (fun (s : Int × Int) (a : Act) (w : World) => match s with | (height, i) => Fr a 21 [(3, (.int .i64 height)), (6, (.slice A blocks.length c)), (7, (.int .i64 (blocks.length : Int))), (8, (.int .i64 i))] ∧ Mem ⟨w0, []⟩ S [] [] [] [(false, MP.val [(.slice A blocks.length c)] (blocks : List Block))] w) (fun k (s : Int × Int) => impl_heightOf_L1 fu blocks k s.1 s.2 = some out') (fun s => out' = s) (0, 0) fu hB1 ⟨hf, H⟩ (fun s h => by cases h) ?_ ?_
 ·rintro fk ⟨height, i⟩ a w hR1 hI
  replace hR1 : impl_heightOf_L1 fu blocks (fk + 1) height i = some out' := hR1
  rw [impl_heightOf_L1] at hR1
  obtain ⟨hf, H⟩ := hI
  refine sqz (pz 1 hf fun a hf => ?_)
  refine wl_end (then_n (sq (ib hR1 hf (fun hc hR1 => ?_) fun hc hR1 => ?_)))
  ·refine wp_skip (then_n (sq (wp_block (sq (reg ?_)))))
   obtain ⟨e, he, hR1⟩ := bs_ hR1
   refine wl0 rfl (op_iaddr hf H Try.underlying35 TF.sz94 0 rfl rfl rfl he (by decide) fun p o cs a hf hr H => ?_)
   obtain rfl := Block_cells hr
   refine oq hf (rq_loadIN hf H TF.la94 0 0 rfl rfl rfl rfl) fun a hf => ?_
   refine aL hf H TF.zv94 fun b' a w hf H => ?_
   refine sB 0 hf H TF.sz94 fun w H => ?_
   refine wl_end (then_n (reg (pz 2 hf fun a hf => ?_)))
   refine lB 0 hf H TF.ls3 fun a hf => ?_
   refine pz 1 hf fun a hf => ?_
   refine lB 0 hf H TF.ls3 fun a hf => ?_
   refine pz 3 hf fun a hf => ?_
   refine wl_end (blk_n (then_n (reg (pz 2 hf fun a hf => ?_))))
   refine wl_end ?_
   have hf := hf.pn [3, 6, 7, 8]
   have H := H.lt_ [false] [] [] [1]
   exact then_n ⟨(gmax height (w64 (e.First + e.Count)), w64 (i + 1)), hR1, hf, H⟩
  ·refine wp_exit (then_x (then_x (blk_e (?_))))
   have hf := hf.pn [3, 6, 7, 8]
   have H := H.lt_ [] [] [] [0]
   exact ⟨(height, i), (Option.some.inj hR1).symm, hf, H⟩
 rintro a w ⟨⟨height2, i2⟩, rfl, hf, H⟩
 try dsimp only at hF
 refine then_n (sqz (pz 2 hf fun a hf => ?_))
 refine wer ?_
 obtain rfl := oi hF
 refine rT hf ?_
 exact ⟨_, rfl, H.bel, mk_int⟩
theorem impl_GreedyOrder_c1_B_ok {fu : Nat} {rec_ : (List Int) → (List Request) → (Int) → Option (Bool × List Int)} (ih : ∀ {w0 : World} {S : Nat → Prop} {b0 : Nat} {cs0 : List Value} {F0 : List Nat} {b1 o1 : Nat} {cs1 : List Value} {b2 o2 : Nat} {cs2 : List Value} {b3 o3 : Nat} {cap : List Int} {cap2 : List Request} {cap3 : Int} {r : Bool × List Int} (hp0 : w0.heap[b0]? = some (.cells cs0.toArray 31 (0, 0))) (hr0 : GoTy.own w0 F0 cs0 cap) (hn0 : List.Nodup (List.cons b0 F0)) (hS0 : ∀ c ∈ List.cons b0 F0, ¬ S c) (hp1 : (MP.cells ⟨b1, o1, none⟩ cs1).pred w0 S) (hr1 : GoTy.rep w0 S cs1 cap2) (hp2 : (MP.cells ⟨b2, o2, none⟩ cs2).pred w0 S) (hr2 : GoTy.rep w0 S cs2 cap3) (hp3 : (MP.cells ⟨b3, o3, none⟩ [.func (.func 23) #[] #[(.pointer (some ⟨b0, 0, none⟩)), (.pointer (some ⟨b1, o1, none⟩)), (.pointer (some ⟨b2, o2, none⟩)), (.pointer (some ⟨b3, o3, none⟩))]]).pred w0 S) (hF : rec_ cap cap2 cap3 = some r), Calls Try.prog 23 [(.pointer (some ⟨b0, 0, none⟩)), (.pointer (some ⟨b1, o1, none⟩)), (.pointer (some ⟨b2, o2, none⟩)), (.pointer (some ⟨b3, o3, none⟩))].toArray w0 fun e w' => ∃ v, e = .returned v ∧ (Chg w0 w' (b0 :: F0) ∧ ∃ cs' F', w'.heap[b0]? = some (.cells cs'.toArray 31 (0, 0)) ∧ GoTy.own w' F' cs' r.2 ∧ Back w0 w' F0 F' ∧ b0 ∉ F' ∧ VR w' (fun _ => True) v r.1)) {w0 : World} {S : Nat → Prop} {b0 : Nat} {cs0 : List Value} {F0 : List Nat} {b1 o1 : Nat} {cs1 : List Value} {b2 o2 : Nat} {cs2 : List Value} {b3 o3 : Nat} {cap : List Int} {cap2 : List Request} {cap3 : Int} {r : Bool × List Int} (hp0 : w0.heap[b0]? = some (.cells cs0.toArray 31 (0, 0))) (hr0 : GoTy.own w0 F0 cs0 cap) (hn0 : List.Nodup (List.cons b0 F0)) (hS0 : ∀ c ∈ List.cons b0 F0, ¬ S c) (hp1 : (MP.cells ⟨b1, o1, none⟩ cs1).pred w0 S) (hr1 : GoTy.rep w0 S cs1 cap2) (hp2 : (MP.cells ⟨b2, o2, none⟩ cs2).pred w0 S) (hr2 : GoTy.rep w0 S cs2 cap3) (hp3 : (MP.cells ⟨b3, o3, none⟩ [.func (.func 23) #[] #[(.pointer (some ⟨b0, 0, none⟩)), (.pointer (some ⟨b1, o1, none⟩)), (.pointer (some ⟨b2, o2, none⟩)), (.pointer (some ⟨b3, o3, none⟩))]]).pred w0 S) (hF : impl_GreedyOrder_c1_B fu rec_ cap cap2 cap3 = some r) :
    Calls Try.prog 23 [(.pointer (some ⟨b0, 0, none⟩)), (.pointer (some ⟨b1, o1, none⟩)), (.pointer (some ⟨b2, o2, none⟩)), (.pointer (some ⟨b3, o3, none⟩))].toArray w0 fun e w' => ∃ v, e = .returned v ∧ (Chg w0 w' (b0 :: F0) ∧ ∃ cs' F', w'.heap[b0]? = some (.cells cs'.toArray 31 (0, 0)) ∧ GoTy.own w' F' cs' r.2 ∧ Back w0 w' F0 F' ∧ b0 ∉ F' ∧ VR w' (fun _ => True) v r.1) := by
 obtain ⟨A, c, rfl, hl⟩ := list_cells hr1
 obtain rfl := hr2
 obtain ⟨A2, c2, rfl, hr0⟩ := own_list hr0
 have H := Mem.startBO S hp0 (show GoTy.own w0 F0 [.slice A2 cap.length c2] cap from hr0) hn0
 have H := H.lend 0 rfl
 have H := H.argB hS0 (p := MP.val [(.slice A cap2.length c)] cap2) hl
 have H := H.argB hS0 (p := MP.cells ⟨b1, o1, none⟩ [(.slice A cap2.length c)]) hp1
 have H := H.argB hS0 (p := MP.cells ⟨b2, o2, none⟩ [(.int .i64 cap3)]) hp2
 have H := H.argB hS0 (p := MP.cells ⟨b3, o3, none⟩ [(.func (.func 23) #[] #[(.pointer (some ⟨b0, 0, none⟩)), (.pointer (some ⟨b1, o1 + 0, none⟩)), (.pointer (some ⟨b2, o2 + 0, none⟩)), (.pointer (some ⟨b3, o3 + 0, none⟩))])]) hp3
 refine en Try.func23 fun a hf => ?_
 rw [impl_GreedyOrder_c1_B] at hF
 refine sqz (pz 1 hf fun a hf => ?_)
 refine wl_end (then_n (sq (sq (reg (lB 0 hf H TF.ls31 fun a hf => ?_)))))
 refine pz 1 hf fun a hf => ?_
 refine oq hf (rq_loadI hf H TF.ls28 2 0 rfl rfl rfl) fun a hf => ?_
 refine pz 2 hf fun a hf => ?_
 refine wl_end (then_n (ib hF hf (fun hc hF => ?_) fun hc hF => ?_))
 ·refine sq (reg (oq hf (rq_loadI hf H TF.ls28 2 0 rfl rfl rfl) fun a hf => ?_))
  refine lB 0 hf H TF.ls31 fun a hf => ?_
  obtain ⟨y, hy, hF⟩ := bs_ hF
  refine oc hf TF.cl24 (impl_greedy_ok (S := TT) (mk_list (H.rt 3 rfl)) (mk_list (H.rt 4 rfl)) hy) fun v w a hp5 hf => ?_
  obtain ⟨hb, F2, v2, v3, rfl, hp6, hp7, hN⟩ := hp5
  obtain ⟨A3, c3, rfl, hl2⟩ := VO_list hp6
  obtain rfl := VR_bool hp7
  have H := H.aO1 hb hN hl2
  have H := H.lend 0 rfl
  refine pz 5 hf fun a hf => ?_
  have hf := hf.pn [2, 5, 6]
  refine wl_end (then_n (sq ?_))
  obtain ⟨c4, hGc4, hF⟩ := bs_ hF
  have fh := hf.prune [] rfl
  have Hm := H.lt_ [true] [] [false, true] [5]
  refine midF 4 (.bool c4) fh Hm ?_ fun a w hf H => ?_
  ·refine dw [] 8 fun w hb => ?_
   have H := H.keep hb
   refine zp 0 hf trivial fun a hf => ?_
   refine zp 1 hf trivial fun a hf => ?_
   refine iteB hGc4 (fun hc2 hGc4 => ?_) fun hc2 hGc4 => ?_
   ·have hf := hf.lit 20 rfl hc2
    refine zg 2 hf trivial fun a hf => ?_
    refine strT (H.lt_ [false] [] [false, false] [2]) (fun w H => trivial) fun hS => ?_
    refine tSg 4 [] rfl rfl rfl rfl rfl rfl hf (by kernel_rfl) (by kernel_rfl) hS (fun w H => rq_loadI hf H TF.ls3 0 0 rfl rfl rfl) fun a hf => ?_
    obtain ⟨y2, hy2, hGc4⟩ := bs_ hGc4
    refine n1g 3 (by kernel_rfl) rfl rfl rfl rfl hf (oC hf TF.cl25 (impl_heightOf_ok (S := TT) (mk_list (H.rt 0 rfl)) hy2) fun v4 w a hp8 hf => ?_)
    obtain ⟨hb2, hp8⟩ := hp8
    obtain rfl := VR_int hp8
    have H := H.keep hb2
    have hS := H.lt_ [false] [] [false, false] [2]
    refine aS hS ?_
    refine zg 5 hf hS fun a hf => ?_
    refine zp 6 hf hS fun a hf => ?_
    refine zp 7 hf hS fun a hf => ?_
    refine dk ?_
    obtain rfl := oi hGc4
    have hf := hf.pn [4]
    have H := H.lt_ [true] [] [false, true] [5]
    exact ⟨hf, H⟩
   ·have hf := hf.lit 20 rfl hc2
    refine zU 2 hf trivial fun a hf => ?_
    refine zU 3 hf trivial fun a hf => ?_
    refine zU 4 hf trivial fun a hf => ?_
    refine zU 5 hf trivial fun a hf => ?_
    refine zp 6 hf trivial fun a hf => ?_
    refine zp 7 hf trivial fun a hf => ?_
    refine dk ?_
    obtain rfl := oi hGc4
    have hf := hf.pn [4]
    have H := H.lt_ [true] [] [false, true] [5]
    exact ⟨hf, H⟩
  refine then_n (wp_ret (then_r (?_)))
  obtain rfl := oi hF
  refine rT hf ?_
  exact ⟨_, rfl, H.chg, _, _, H.boxAt 0 rfl, H.ownAt 0 rfl, (H.endBO 0 rfl).1, (H.endBO 0 rfl).2, mk_bool⟩
 ·refine wp_skip (then_n (sq (sq (reg (oq hf (rq_loadI hf H TF.ls28 2 0 rfl rfl rfl) fun a hf => ?_)))))
  refine pz 2 hf fun a hf => ?_
  refine wl_end (then_n ?_)
  obtain ⟨Fs, E2, H, -⟩ := H.thaw rfl
  have H := H.rowSh 0 rfl
  have H := H.argB hS0 (p := MP.val [(.slice A cap2.length c)] cap2) hl
  have H := H.argB hS0 (p := MP.cells ⟨b1, o1, none⟩ [(.slice A cap2.length c)]) hp1
  have H := H.argB hS0 (p := MP.cells ⟨b2, o2, none⟩ [(.int .i64 cap3)]) hp2
  have H := H.argB hS0 (p := MP.cells ⟨b3, o3, none⟩ [(.func (.func 23) #[] #[(.pointer (some ⟨b0, 0, none⟩)), (.pointer (some ⟨b1, o1 + 0, none⟩)), (.pointer (some ⟨b2, o2 + 0, none⟩)), (.pointer (some ⟨b3, o3 + 0, none⟩))])]) hp3
  obtain ⟨out', hB1, hF⟩ := bs_ hF
  have hf := hf.pn [0, 3, 27, 28]
  have H := H.lt_ [true] [true] [] [0, 1, 2, 3]
  refine loopC (fun (s : Int × List Int) (a : Act) (w : World) => match s with | (i, m) => ∃ (A4 : Option Addr) (c5 : Nat) (E : Go.TypeId), Fr a 46 [(0, (.pointer (some ⟨b0, 0, none⟩))), (3, (.pointer (some ⟨b3, o3 + 0, none⟩))), (27, (.int .i64 (cap2.length : Int))), (28, (.int .i64 i))] ∧ Mem ⟨w0, b0 :: F0⟩ S [⟨b0, 31, [(.slice A4 m.length c5)]⟩] [⟨.sh true, E, A4, c5, (m : List Int)⟩] [] [(false, MP.cells ⟨b3, o3, none⟩ [(.func (.func 23) #[] #[(.pointer (some ⟨b0, 0, none⟩)), (.pointer (some ⟨b1, o1 + 0, none⟩)), (.pointer (some ⟨b2, o2 + 0, none⟩)), (.pointer (some ⟨b3, o3 + 0, none⟩))])]), (false, MP.cells ⟨b2, o2, none⟩ [(.int .i64 cap3)]), (false, MP.cells ⟨b1, o1, none⟩ [(.slice A cap2.length c)]), (false, MP.val [(.slice A cap2.length c)] (cap2 : List Request))] w) (fun k (s : Int × List Int) => impl_GreedyOrder_c1_L1 fu cap2 cap3 rec_ k s.1 s.2 = some out') (fun s => out' = Out.next s) (0, cap) fu hB1 ⟨A2, c2, E2, hf, H⟩ (fun s h => by cases h) ?_ ?_
  ·rintro fk ⟨i, m⟩ a w hR1 hI
   replace hR1 : impl_GreedyOrder_c1_L1 fu cap2 cap3 rec_ (fk + 1) i m = some out' := hR1
   rw [impl_GreedyOrder_c1_L1] at hR1
   obtain ⟨A4, c5, E, hf, H⟩ := hI
   refine sqz (pz 1 hf fun a hf => ?_)
   refine wl_end (then_n (sq (ib hR1 hf (fun hc3 hR1 => ?_) fun hc3 hR1 => ?_)))
   ·refine ws (pz 2 hf fun a hf => ?_)
    refine wl_end (then_n (sq (sq (reg (lB 0 hf H TF.ls31 fun a hf => ?_)))))
    refine pz 1 hf fun a hf => ?_
    obtain ⟨y3, hy3, hR1⟩ := bs_ hR1
    refine oc hf TF.cl26 (slices_Contains_int_int_ok (S := TT) (mk_list (H.rowTrue 0 rfl)) mk_int hy3) fun v5 w a hp9 hf => ?_
    obtain ⟨hb3, hp9⟩ := hp9
    obtain rfl := VR_bool hp9
    have H := H.keep hb3
    refine wl_end (then_n (ib hR1 hf (fun hc4 hR1 => ?_) fun hc4 hR1 => ?_))
    ·refine wp_exit (then_x (blk_e (?_)))
     refine then_n (reg (pz 2 hf fun a hf => ?_))
     refine wl_end ?_
     have hf := hf.pn [0, 3, 27, 28]
     have H := H.lt_ [true] [true] [] [0, 1, 2, 3]
     exact then_n ⟨(w64 (i + 1), m), hR1, A4, c5, E, hf, H⟩
    ·refine wp_skip (then_n (sq (reg (lB 0 hf H TF.ls31 fun a hf => ?_))))
     refine pz 1 hf fun a hf => ?_
     refine wl0 rfl (bl hf H 3 ([i] : List Int) [(.int .i64 i)] (el1 (y := i) (rfl)) fun A5 a w hf H => ?_)
     obtain ⟨l, hl_, hR1⟩ := bs_ hR1
     refine wl0 rfl (op_appR hf H Try.underlying31 TF.ai3 rfl (by decide) 1 0 rfl rfl rfl rfl (.inr rfl) hl_ (by decide) fun E3 A6 c6 a w hf H => ?_)
     refine sB 0 hf H TF.sz31 fun w H => ?_
     refine wl_end (then_n (sq (sq (reg (oq hf (rq_loadI hf H TF.ls59 0 0 rfl rfl rfl) fun a hf => ?_)))))
     have H := H.rowOwn 1 rfl rfl
     obtain ⟨F4, H⟩ := H.freezeOwn 1 rfl
     have H := H.lend 0 rfl
     obtain ⟨y4, hy4, hR1⟩ := bs_ hR1
     refine wl0 rfl (op_callV hf TF.cl23 rfl rfl (by decide) (ih (S := NF b0 F4) (H.boxAt 0 rfl) (H.ownAt 0 rfl) (H.boNd 0 rfl) (fun _ h1 h2 => h2 h1) (H.argN 0 rfl hS0 hp1) (H.argNv 0 rfl hS0 (α := List Request) hl) (H.argN 0 rfl hS0 hp2) (rfl) (H.argN 0 rfl hS0 hp3) hy4) fun v6 w a hp10 hf => ?_)
     obtain ⟨hch, cs5, F5, hbx, ho, hbk, hbF, hv⟩ := hp10
     obtain ⟨A7, c7, rfl, ho⟩ := own_list ho
     have H := H.wroteBO 0 rfl rfl hch hbx ho hbk hbF
     have H := H.argB hS0 (p := MP.val [(.slice A cap2.length c)] cap2) hl
     have H := H.argB hS0 (p := MP.cells ⟨b1, o1, none⟩ [(.slice A cap2.length c)]) hp1
     have H := H.argB hS0 (p := MP.cells ⟨b2, o2, none⟩ [(.int .i64 cap3)]) hp2
     have H := H.argB hS0 (p := MP.cells ⟨b3, o3, none⟩ [(.func (.func 23) #[] #[(.pointer (some ⟨b0, 0, none⟩)), (.pointer (some ⟨b1, o1 + 0, none⟩)), (.pointer (some ⟨b2, o2 + 0, none⟩)), (.pointer (some ⟨b3, o3 + 0, none⟩))])]) hp3
     have H := H.lend 0 rfl
     obtain rfl := VR_bool hv
     refine wl_end (then_n (ib hR1 hf (fun hc5 hR1 => ?_) fun hc5 hR1 => ?_))
     ·refine sqz (pz 1 hf fun a hf => ?_)
      have hf := hf.pn [4]
      refine wl_end (then_n (wp_ret (then_r (blk_r (then_r (then_r (blk_r (then_r (then_r (?_))))))))))
      obtain rfl := oi hR1
      replace hF := on_ret hF
      obtain rfl := oi hF
      refine rT hf ?_
      exact ⟨_, rfl, H.chg, _, _, H.boxAt 0 rfl, H.ownAt 0 rfl, (H.endBO 0 rfl).1, (H.endBO 0 rfl).2, mk_bool⟩
     ·refine wp_skip (then_n (reg (lB 0 hf H TF.ls31 fun a hf => ?_)))
      refine lB 0 hf H TF.ls31 fun a hf => ?_
      refine pz 2 hf fun a hf => ?_
      obtain ⟨Fs2, E4, H, -⟩ := H.thaw rfl
      have H := H.rowSh 0 rfl
      have H := H.argB hS0 (p := MP.val [(.slice A cap2.length c)] cap2) hl
      have H := H.argB hS0 (p := MP.cells ⟨b1, o1, none⟩ [(.slice A cap2.length c)]) hp1
      have H := H.argB hS0 (p := MP.cells ⟨b2, o2, none⟩ [(.int .i64 cap3)]) hp2
      have H := H.argB hS0 (p := MP.cells ⟨b3, o3, none⟩ [(.func (.func 23) #[] #[(.pointer (some ⟨b0, 0, none⟩)), (.pointer (some ⟨b1, o1 + 0, none⟩)), (.pointer (some ⟨b2, o2 + 0, none⟩)), (.pointer (some ⟨b3, o3 + 0, none⟩))])]) hp3
      obtain ⟨l2, hl2_, hR1⟩ := bs_ hR1
      refine wl0 rfl (op_sliceR hf H Try.underlying31 TF.sz3 0 rfl rfl rfl (.inl rfl) (.inr rfl) rfl hl2_ (by decide) fun a hf H => ?_)
      refine sB 0 hf H TF.sz31 fun w H => ?_
      have hf := hf.pn [0, 3, 27, 28]
      refine wl_end (blk_n (then_n (reg (pz 2 hf fun a hf => ?_))))
      refine wl_end ?_
      have hf := hf.pn [0, 3, 27, 28]
      have H := H.lt_ [true] [true, false] [] [0, 1, 2, 3]
      exact then_n ⟨(w64 (i + 1), l2), hR1, A7, c7, E4, hf, H⟩
   ·refine wp_exit (then_x (then_x (blk_e (?_))))
    have hf := hf.pn [0, 3, 27, 28]
    have H := H.lt_ [true] [true] [] [0, 1, 2, 3]
    exact ⟨(i, m), (Option.some.inj hR1).symm, A4, c5, E, hf, H⟩
  rintro a w ⟨⟨i2, m2⟩, rfl, A8, c8, E5, hf, H⟩
  replace hF := on_next hF
  try dsimp only at hF
  refine then_n (sqz (pz 1 hf fun a hf => ?_))
  refine wer ?_
  have H := H.rowOwn 0 rfl rfl
  obtain ⟨F6, H⟩ := H.freezeOwn 0 rfl
  have H := H.lend 0 rfl
  obtain rfl := oi hF
  refine rT hf ?_
  exact ⟨_, rfl, H.chg, _, _, H.boxAt 0 rfl, H.ownAt 0 rfl, (H.endBO 0 rfl).1, (H.endBO 0 rfl).2, mk_bool⟩
theorem impl_GreedyOrder_c1_ok {fu : Nat} : ∀ {w0 : World} {S : Nat → Prop} {b0 : Nat} {cs0 : List Value} {F0 : List Nat} {b1 o1 : Nat} {cs1 : List Value} {b2 o2 : Nat} {cs2 : List Value} {b3 o3 : Nat} {cap : List Int} {cap2 : List Request} {cap3 : Int} {r : Bool × List Int} (hp0 : w0.heap[b0]? = some (.cells cs0.toArray 31 (0, 0))) (hr0 : GoTy.own w0 F0 cs0 cap) (hn0 : List.Nodup (List.cons b0 F0)) (hS0 : ∀ c ∈ List.cons b0 F0, ¬ S c) (hp1 : (MP.cells ⟨b1, o1, none⟩ cs1).pred w0 S) (hr1 : GoTy.rep w0 S cs1 cap2) (hp2 : (MP.cells ⟨b2, o2, none⟩ cs2).pred w0 S) (hr2 : GoTy.rep w0 S cs2 cap3) (hp3 : (MP.cells ⟨b3, o3, none⟩ [.func (.func 23) #[] #[(.pointer (some ⟨b0, 0, none⟩)), (.pointer (some ⟨b1, o1, none⟩)), (.pointer (some ⟨b2, o2, none⟩)), (.pointer (some ⟨b3, o3, none⟩))]]).pred w0 S) (hF : impl_GreedyOrder_c1 fu cap cap2 cap3 = some r), Calls Try.prog 23 [(.pointer (some ⟨b0, 0, none⟩)), (.pointer (some ⟨b1, o1, none⟩)), (.pointer (some ⟨b2, o2, none⟩)), (.pointer (some ⟨b3, o3, none⟩))].toArray w0 fun e w' => ∃ v, e = .returned v ∧ (Chg w0 w' (b0 :: F0) ∧ ∃ cs' F', w'.heap[b0]? = some (.cells cs'.toArray 31 (0, 0)) ∧ GoTy.own w' F' cs' r.2 ∧ Back w0 w' F0 F' ∧ b0 ∉ F' ∧ VR w' (fun _ => True) v r.1) := by
  induction fu with
  | zero => intro w0 S b0 cs0 F0 b1 o1 cs1 b2 o2 cs2 b3 o3 cap cap2 cap3 r hp0 hr0 hn0 hS0 hp1 hr1 hp2 hr2 hp3 hF; rw [impl_GreedyOrder_c1] at hF; cases hF
  | succ fu ih => intro w0 S b0 cs0 F0 b1 o1 cs1 b2 o2 cs2 b3 o3 cap cap2 cap3 r hp0 hr0 hn0 hS0 hp1 hr1 hp2 hr2 hp3 hF; rw [impl_GreedyOrder_c1] at hF; exact impl_GreedyOrder_c1_B_ok (rec_ := fun cap cap2 cap3 => impl_GreedyOrder_c1 fu cap cap2 cap3) (fun hp0 hr0 hn0 hS0 hp1 hr1 hp2 hr2 hp3 hF => ih hp0 hr0 hn0 hS0 hp1 hr1 hp2 hr2 hp3 hF) hp0 hr0 hn0 hS0 hp1 hr1 hp2 hr2 hp3 hF
theorem impl_GreedyOrder_ok {S : Nat → Prop} {v0_ : Value} {v1_ : Value} {n' : Network} {list : List Request} {r : List Int × Bool} (h0 : VR w0 S v0_ n') (h1 : VR w0 S v1_ list) (hF : impl_GreedyOrder fu n' list = some r) :
    Calls Try.prog 7 [v0_, v1_].toArray w0 fun e w' => ∃ v, e = .returned v ∧ (Below w0.heap.size w0 w' ∧ ∃ F0, ∃ u0 u1, v = .tuple #[u0, u1] ∧ VO w' F0 u0 r.1 ∧ VR w' (St ⟨w0, []⟩ S [] [] [] true) u1 r.2 ∧ New w0 w' F0) := by
 obtain ⟨A, c, A2, c2, rfl, hl, hl2⟩ := Network_open h0
 obtain ⟨A3, c3, rfl, hl3⟩ := VR_list h1
 have H := Mem.start ⟨w0, []⟩ S
 have H := H.pA hl
 have H := H.pA hl2
 have H := H.pA hl3
 refine en Try.func7 fun a hf => ?_
 rw [impl_GreedyOrder] at hF
 refine bx hf H fun b' a w hf H => ?_
 refine wl0 rfl (op_box hf H rfl rfl (by decide) fun b2 a w hf H => ?_)
 refine pz 2 hf fun a hf => ?_
 refine wr (lN 1 hf H TF.la27 fun a hf => ?_)
 refine lB 0 hf H TF.ls28 fun a hf => ?_
 obtain ⟨y, hy, hF⟩ := bs_ hF
 refine oc hf TF.cl10 (impl_AssignExact_ok (S := TT) (Network_mkv (x := n') (H.rt 2 rfl) (H.rt 1 rfl)) (mk_list (H.rt 0 rfl)) hy) fun v w a hp hf => ?_
 obtain ⟨hb, F, v2, v3, v4, rfl, hp2, hp3, hp4, hN⟩ := hp
 obtain ⟨A4, c4, rfl, hl4⟩ := VO_list hp2
 obtain rfl := VR_int hp3
 obtain rfl := VR_bool hp4
 have H := H.aO1 hb hN hl4
 have H := H.lend 0 rfl
 refine pz 4 hf fun a hf => ?_
 refine aL hf H TF.zv3 fun b3 a w hf H => ?_
 refine pz 1 hf fun a hf => ?_
 refine sB 0 hf H TF.sz3 fun w H => ?_
 refine pz 1 hf fun a hf => ?_
 have hf := hf.pn [3, 7, 8]
 refine we (sqz (pz 2 hf fun a hf => ?_))
 refine wl_end (then_n (ib hF hf (fun hc hF => ?_) fun hc hF => ?_))
 ·refine sqz (pz 2 hf fun a hf => ?_)
  refine wl_end (then_n (wp_ret (then_r (?_))))
  have H := H.ownNil (Int)
  have H := H.lend 0 rfl
  obtain rfl := oi hF
  refine ret_2 hf rfl (rv_tmp hf rfl) (rv_tmp hf rfl) ?_
  have hN := H.ends1
  exact ⟨_, rfl, H.bel, [], _, _, rfl, (mko_list (H.ownAt 0 rfl)), mk_bool, by first | exact hN | simpa using hN⟩
 ·refine wp_skip (then_n (sq (reg (wl0 rfl (bl hf H 3 ([] : List Int) [] el0 fun A5 a w hf H => ?_)))))
  refine aL hf H TF.zv31 fun b4 a w hf H => ?_
  refine sB 0 hf H TF.sz31 fun w H => ?_
  refine wr (aL hf H TF.zv59 fun b5 a w hf H => ?_)
  refine wr (oq hf (rq_makeFunc hf rfl) fun a hf => ?_)
  refine sB 0 hf H TF.sz59 fun w H => ?_
  refine wr (lB 0 hf H TF.ls59 fun a hf => ?_)
  have H := H.rowOwn 0 rfl rfl
  obtain ⟨F3, H⟩ := H.freezeOwn 0 rfl
  have H := H.lend 0 rfl
  obtain ⟨y2, hy2, hF⟩ := bs_ hF
  refine wl0 rfl (op_callV hf TF.cl23 rfl rfl (by decide) (impl_GreedyOrder_c1_ok (S := NF b4 F3) (H.boxAt 1 rfl) (H.ownAt 0 rfl) (H.boNd 1 rfl) (fun _ h1 h2 => h2 h1) (H.boxN 1 rfl 3 rfl rfl) (H.argNv 1 rfl (fun _ h => by cases h) (α := List Request) hl3) (H.boxN 1 rfl 2 rfl rfl) (rfl) (H.boxN 1 rfl 0 rfl rfl) hy2) fun v5 w a hp5 hf => ?_)
  obtain ⟨hch, cs, F4, hbx, ho, hbk, hbF, hv⟩ := hp5
  obtain ⟨A6, c5, rfl, ho⟩ := own_list ho
  have H := H.wroteBO 1 rfl rfl hch hbx ho hbk hbF
  have H := H.pA hl
  have H := H.pA hl2
  have H := H.pA hl3
  have H := H.lend 0 rfl
  have H := H.lend 1 rfl
  obtain rfl := VR_bool hv
  refine pz 1 hf fun a hf => ?_
  refine wr (lB 1 hf H TF.ls31 fun a hf => ?_)
  refine pz 3 hf fun a hf => ?_
  have hf := hf.pn [4, 5]
  refine wer ?_
  obtain rfl := oi hF
  refine ret_2 hf rfl (rv_tmp hf rfl) (rv_tmp hf rfl) ?_
  have hN := H.ends1
  exact ⟨_, rfl, H.bel, F4, _, _, rfl, (mko_list (H.ownAt 0 rfl)), mk_bool, by first | exact hN | simpa using hN⟩
theorem spec_l12Good_ok {S : Nat → Prop} {v0_ : Value} {v1_ : Value} {n' : Network} {list : List Request} {r : Bool} (h0 : VR w0 S v0_ n') (h1 : VR w0 S v1_ list) (hF : spec_l12Good fu n' list = some r) :
    Calls Try.prog 27 [v0_, v1_].toArray w0 fun e w' => ∃ v, e = .returned v ∧ (Below w0.heap.size w0 w' ∧ VR w' (St ⟨w0, []⟩ S [] [] [] true) v r) := by
 obtain ⟨A, c, A2, c2, rfl, hl, hl2⟩ := Network_open h0
 obtain ⟨A3, c3, rfl, hl3⟩ := VR_list h1
 have H := Mem.start ⟨w0, []⟩ S
 have H := H.pA hl
 have H := H.pA hl2
 have H := H.pA hl3
 refine en Try.func27 fun a hf => ?_
 rw [spec_l12Good] at hF
 refine bx hf H fun b' a w hf H => ?_
 refine pz 1 hf fun a hf => ?_
 refine wl_end (then_n (sq (sq ?_)))
 obtain ⟨c4, hGc4, hF⟩ := bs_ hF
 have fh := hf.prune [1, 2] rfl
 have Hm := H.lt_ [true] [] [] [0, 1, 2]
 refine midF 13 (.bool c4) fh Hm ?_ fun a w hf H => ?_
 ·refine reg (lN 0 hf H TF.la27 fun a hf => ?_)
  obtain ⟨y, hy, hGc4⟩ := bs_ hGc4
  refine oc hf TF.cl51 (spec_l2Good_ok (S := TT) (Network_mkv (x := n') (H.rt 2 rfl) (H.rt 1 rfl)) hy) fun v w a hp hf => ?_
  obtain ⟨hb, hp⟩ := hp
  obtain rfl := VR_bool hp
  have H := H.keep hb
  refine pz 2 hf fun a hf => ?_
  refine iteB hGc4 (fun hc hGc4 => ?_) fun hc hGc4 => ?_
  ·have hf := hf.lit 9 rfl hc
   refine pz 4 hf fun a hf => ?_
   obtain rfl := oi hGc4
   have hf := hf.pn [13, 1, 2]
   have H := H.lt_ [true] [] [] [0, 1, 2]
   exact wl_end ⟨hf, H⟩
  ·have hf := hf.lit 9 rfl hc
   refine pz 4 hf fun a hf => ?_
   obtain rfl := oi hGc4
   have hf := hf.pn [13, 1, 2]
   have H := H.lt_ [true] [] [] [0, 1, 2]
   exact wl_end ⟨hf, H⟩
 refine then_n (ib hF hf (fun hc2 hF => ?_) fun hc2 hF => ?_)
 ·refine sqz (pz 1 hf fun a hf => ?_)
  refine wl_end (then_n (wp_ret (then_r (?_))))
  obtain rfl := oi hF
  refine rT hf ?_
  exact ⟨_, rfl, H.bel, mk_bool⟩
 ·refine wp_skip (then_n (sq (sqz (pz 1 hf fun a hf => ?_))))
  refine wl_end (then_n ?_)
  obtain ⟨out', hB1, hF⟩ := bs_ hF
  have hf := hf.pn [1, 2, 5]
  have H := H.lt_ [true] [] [] [0, 1, 2]
  refine loopC (fun (s : Int) (a : Act) (w : World) => match s with | i => Fr a 37 [(1, (.slice A3 list.length c3)), (2, (.pointer (some ⟨b', 0, none⟩))), (5, (.int .i64 i))] ∧ Mem ⟨w0, []⟩ S [⟨b', 27, [(.slice A n'.Nodes.length c), (.slice A2 n'.Fibers.length c2)]⟩] [] [] [(false, MP.val [(.slice A3 list.length c3)] (list : List Request)), (false, MP.val [(.slice A2 n'.Fibers.length c2)] (n'.Fibers : List Fiber)), (false, MP.val [(.slice A n'.Nodes.length c)] (n'.Nodes : List ByteArray))] w) (fun k (s : Int) => spec_l12Good_L1 fu n' list k s = some out') (fun s => out' = Out.next s) 0 fu hB1 ⟨hf, H⟩ (fun s h => by cases h) ?_ ?_
  ·rintro fk i a w hR1 hI
   replace hR1 : spec_l12Good_L1 fu n' list (fk + 1) i = some out' := hR1
   rw [spec_l12Good_L1] at hR1
   obtain ⟨hf, H⟩ := hI
   refine sq (sqz (pz 4 hf fun a hf => ?_))
   refine wl_end (then_n (ib hR1 hf (fun hc3 hR1 => ?_) fun hc3 hR1 => ?_))
   ·refine wp_skip (then_n (sq (wp_block (sq ?_))))
    obtain ⟨c5, hGc5, hR1⟩ := bs_ hR1
    have fh2 := hf.prune [1, 2, 5] rfl
    have Hm2 := H.lt_ [true] [] [] [0, 1, 2]
    refine midF 36 (.bool c5) fh2 Hm2 ?_ fun a w hf H => ?_
    ·refine dw [] 17 fun w hb => ?_
     have H := H.keep hb
     refine strT (H.lt_ [true] [] [] []) (fun w H => trivial) fun hS => ?_
     refine zS 0 [] rfl rfl rfl rfl hf hS (fun w H => rq_loadBN hf H TF.la27 0 rfl rfl rfl rfl) fun a hf => ?_
     refine zp 1 hf hS fun a hf => ?_
     refine zp 2 hf hS fun a hf => ?_
     obtain ⟨e, he, hGc5⟩ := bs_ hGc5
     obtain ⟨p, o, cs, hx, hr, H⟩ := pre_iaddr H Try.underlying28 TF.sz89 0 rfl he
     refine zP 3 rfl rfl rfl rfl hf hS (fun w => rq_iaddrE hf rfl rfl rfl hx w) fun a hf => ?_
     obtain ⟨A4, c6, rfl, hl4⟩ := Request_cells hr
     have H := H.pF hl4
     refine zp 4 hf hS fun a hf => ?_
     refine strT (H.lt_ [true] [] [] [1]) (fun w H => H.lt_ [true] [] [] []) fun hS => ?_
     refine zS 5 [] rfl rfl rfl rfl hf hS (fun w H => rq_loadIN hf H TF.la40 0 0 rfl rfl rfl rfl) fun a hf => ?_
     obtain ⟨y2, hy2, hGc5⟩ := bs_ hGc5
     refine nn 6 rfl (oC hf TF.cl42 (spec_l4Good_ok (S := TT) (Network_mkv (x := n') (H.rt 4 rfl) (H.rt 3 rfl)) (Route_mkv (x := e.Route) (H.rt 0 rfl)) hy2) fun v2 w a hp2 hf => ?_)
     obtain ⟨hb2, hp2⟩ := hp2
     obtain rfl := VR_bool hp2
     have H := H.keep hb2
     have hS := H.lt_ [true] [] [] [1]
     refine aS hS ?_
     refine zp 7 hf hS fun a hf => ?_
     refine zp 8 hf hS fun a hf => ?_
     refine iteB hGc5 (fun hc4 hGc5 => ?_) fun hc4 hGc5 => ?_
     ·have hf := hf.lit 28 rfl hc4
      refine zU 9 hf hS fun a hf => ?_
      refine zU 10 hf hS fun a hf => ?_
      refine zU 11 hf hS fun a hf => ?_
      refine zU 12 hf hS fun a hf => ?_
      refine zU 13 hf hS fun a hf => ?_
      refine zU 14 hf hS fun a hf => ?_
      refine zU 15 hf hS fun a hf => ?_
      refine zp 16 hf hS fun a hf => ?_
      refine dk ?_
      obtain rfl := oi hGc5
      have hf := hf.pn [36, 1, 2, 5]
      have H := H.lt_ [true] [] [] [2, 3, 4]
      exact ⟨hf, H⟩
     ·have hf := hf.lit 28 rfl hc4
      refine zg 9 hf hS fun a hf => ?_
      refine zg 10 hf hS fun a hf => ?_
      obtain ⟨e2, he2, hGc5⟩ := bs_ hGc5
      obtain ⟨p2, o2, cs2, hx2, hr2, H⟩ := pre_iaddr H Try.underlying28 TF.sz89 2 rfl he2
      refine tPg 11 rfl rfl rfl rfl rfl rfl hf (by kernel_rfl) (fun _ => hS) (fun w => rq_iaddrE hf rfl rfl rfl hx2 w) fun a hf => ?_
      obtain ⟨A5, c7, rfl, hl5⟩ := Request_cells hr2
      have H := H.pF hl5
      refine zg 12 hf hS fun a hf => ?_
      refine strT (H.lt_ [true] [] [] [1, 3]) (fun w H => H.lt_ [true] [] [] [1]) fun hS => ?_
      refine tSg 13 [] rfl rfl rfl rfl rfl rfl hf (by kernel_rfl) (by kernel_rfl) hS (fun w H => rq_loadI hf H TF.ls3 0 2 rfl rfl rfl) fun a hf => ?_
      obtain ⟨y3, hy3, hGc5⟩ := bs_ hGc5
      refine n1g 14 (by kernel_rfl) rfl rfl rfl rfl hf (oC hf TF.cl43 (spec_l1In_ok (S := TT) mk_int mk_int mk_int hy3) fun v3 w a hp3 hf => ?_)
      obtain ⟨hb3, hp3⟩ := hp3
      obtain rfl := VR_bool hp3
      have H := H.keep hb3
      have hS := H.lt_ [true] [] [] [1, 3]
      refine aS hS ?_
      refine zg 15 hf hS fun a hf => ?_
      refine zp 16 hf hS fun a hf => ?_
      refine dk ?_
      obtain rfl := oi hGc5
      have hf := hf.pn [36, 1, 2, 5]
      have H := H.lt_ [true] [] [] [4, 5, 6]
      exact ⟨hf, H⟩
    refine then_n (ib hR1 hf (fun hc5 hR1 => ?_) fun hc5 hR1 => ?_)
    ·refine sqz (pz 1 hf fun a hf => ?_)
     refine wl_end (then_n (wp_ret (blk_r (then_r (then_r (blk_r (then_r (then_r (?_)))))))))
     obtain rfl := oi hR1
     replace hF := on_ret hF
     obtain rfl := oi hF
     refine rT hf ?_
     exact ⟨_, rfl, H.bel, mk_bool⟩
    ·refine wp_skip (blk_n (then_n (reg (pz 3 hf fun a hf => ?_))))
     refine wl_end ?_
     have hf := hf.pn [1, 2, 5]
     have H := H.lt_ [true] [] [] [0, 1, 2]
     exact then_n ⟨w64 (i + 1), hR1, hf, H⟩
   ·refine wp_exit (then_x (then_x (blk_e (?_))))
    have hf := hf.pn [1, 2, 5]
    have H := H.lt_ [true] [] [] [0, 1, 2]
    exact ⟨i, (Option.some.inj hR1).symm, hf, H⟩
  rintro a w ⟨i2, rfl, hf, H⟩
  replace hF := on_next hF
  refine then_n (sqz (pz 1 hf fun a hf => ?_))
  refine wer ?_
  obtain rfl := oi hF
  refine rT hf ?_
  exact ⟨_, rfl, H.bel, mk_bool⟩
theorem spec_l4Uses_ok {S : Nat → Prop} {v0_ : Value} {v1_ : Value} {r' : Route} {group : List Int} {r : Bool} (h0 : VR w0 S v0_ r') (h1 : VR w0 S v1_ group) (hF : spec_l4Uses fu r' group = some r) :
    Calls Try.prog 131 [v0_, v1_].toArray w0 fun e w' => ∃ v, e = .returned v ∧ (Below w0.heap.size w0 w' ∧ VR w' (St ⟨w0, []⟩ S [] [] [] true) v r) := by
 obtain ⟨A, c, rfl, hl⟩ := Route_open h0
 obtain ⟨A2, c2, rfl, hl2⟩ := VR_list h1
 have H := Mem.start ⟨w0, []⟩ S
 have H := H.pA hl
 have H := H.pA hl2
 refine en Try.func131 fun a hf => ?_
 rw [spec_l4Uses] at hF
 refine bx hf H fun b' a w hf H => ?_
 refine pz 1 hf fun a hf => ?_
 refine we (sqz (pz 1 hf fun a hf => ?_))
 refine wl_end (then_n ?_)
 obtain ⟨out', hB1, hF⟩ := bs_ hF
 have hf := hf.pn [1, 2, 5]
 have H := H.lt_ [true] [] [] [0, 1]
 refine loopC (fun (s : Int) (a : Act) (w : World) => match s with | i => Fr a 20 [(1, (.slice A2 group.length c2)), (2, (.pointer (some ⟨b', 0, none⟩))), (5, (.int .i64 i))] ∧ Mem ⟨w0, []⟩ S [⟨b', 40, [(.int .i64 r'.Start), (.slice A r'.Fibers.length c)]⟩] [] [] [(false, MP.val [(.slice A2 group.length c2)] (group : List Int)), (false, MP.val [(.slice A r'.Fibers.length c)] (r'.Fibers : List Int))] w) (fun k (s : Int) => spec_l4Uses_L1 fu r' group k s = some out') (fun s => out' = Out.next s) 0 fu hB1 ⟨hf, H⟩ (fun s h => by cases h) ?_ ?_
 ·rintro fk i a w hR1 hI
  replace hR1 : spec_l4Uses_L1 fu r' group (fk + 1) i = some out' := hR1
  rw [spec_l4Uses_L1] at hR1
  obtain ⟨hf, H⟩ := hI
  refine sq (sqz (pz 2 hf fun a hf => ?_))
  refine lB 0 hf H TF.ls31 fun a hf => ?_
  refine pz 2 hf fun a hf => ?_
  refine wl_end (then_n (ib hR1 hf (fun hc hR1 => ?_) fun hc hR1 => ?_))
  ·refine ws (pz 2 hf fun a hf => ?_)
   refine lB 0 hf H TF.ls31 fun a hf => ?_
   refine pz 1 hf fun a hf => ?_
   obtain ⟨e, he, hR1⟩ := bs_ hR1
   refine wl0 rfl (op_iaddr hf H Try.underlying31 TF.sz3 1 rfl rfl rfl he (by decide) fun p o cs a hf hr H => ?_)
   obtain rfl := hr
   refine oq hf (rq_loadI hf H TF.ls3 0 0 rfl rfl rfl) fun a hf => ?_
   obtain ⟨y, hy, hR1⟩ := bs_ hR1
   refine oc hf TF.cl65 (spec_l1Has_ok (S := TT) (mk_list (H.rt 1 rfl)) mk_int hy) fun v w a hp hf => ?_
   obtain ⟨hb, hp⟩ := hp
   obtain rfl := VR_bool hp
   have H := H.keep hb
   refine wl_end (then_n (ib hR1 hf (fun hc2 hR1 => ?_) fun hc2 hR1 => ?_))
   ·refine sqz (pz 1 hf fun a hf => ?_)
    have hf := hf.pn [4]
    refine wl_end (then_n (wp_ret (blk_r (then_r (then_r (blk_r (then_r (then_r (?_)))))))))
    obtain rfl := oi hR1
    replace hF := on_ret hF
    obtain rfl := oi hF
    refine rT hf ?_
    exact ⟨_, rfl, H.bel, mk_bool⟩
   ·refine wp_skip (blk_n (then_n (reg (pz 3 hf fun a hf => ?_))))
    have hf := hf.pn [1, 2, 5]
    refine wl_end ?_
    have hf := hf.pn [1, 2, 5]
    have H := H.lt_ [true] [] [] [1, 2]
    exact then_n ⟨w64 (i + 1), hR1, hf, H⟩
  ·refine wp_exit (then_x (then_x (blk_e (?_))))
   have hf := hf.pn [1, 2, 5]
   have H := H.lt_ [true] [] [] [0, 1]
   exact ⟨i, (Option.some.inj hR1).symm, hf, H⟩
 rintro a w ⟨i2, rfl, hf, H⟩
 replace hF := on_next hF
 refine then_n (sqz (pz 1 hf fun a hf => ?_))
 refine wer ?_
 obtain rfl := oi hF
 refine rT hf ?_
 exact ⟨_, rfl, H.bel, mk_bool⟩
theorem spec_l12Conflict_ok {S : Nat → Prop} {v0_ : Value} {v1_ : Value} {a' : Request} {b' : Request} {r : Bool} (h0 : VR w0 S v0_ a') (h1 : VR w0 S v1_ b') (hF : spec_l12Conflict fu a' b' = some r) :
    Calls Try.prog 121 [v0_, v1_].toArray w0 fun e w' => ∃ v, e = .returned v ∧ (Below w0.heap.size w0 w' ∧ VR w' (St ⟨w0, []⟩ S [] [] [] true) v r) := by
 obtain ⟨A, c, rfl, hl⟩ := Request_open h0
 obtain ⟨A2, c2, rfl, hl2⟩ := Request_open h1
 have H := Mem.start ⟨w0, []⟩ S
 have H := H.pA hl
 have H := H.pA hl2
 refine en Try.func121 fun a hf => ?_
 rw [spec_l12Conflict] at hF
 refine bx hf H fun b2 a w hf H => ?_
 refine wl0 rfl (op_box hf H rfl rfl (by decide) fun b3 a w hf H => ?_)
 refine pz 1 hf fun a hf => ?_
 refine wr (pz 1 hf fun a hf => ?_)
 refine lN 1 hf H TF.la40 fun a hf => ?_
 refine pz 2 hf fun a hf => ?_
 refine lB 0 hf H TF.ls31 fun a hf => ?_
 obtain ⟨y, hy, hF⟩ := bs_ hF
 refine oc hf TF.cl131 (spec_l4Uses_ok (S := TT) (Route_mkv (x := a'.Route) (H.rt 1 rfl)) (mk_list (H.rt 0 rfl)) hy) fun v w a hp hf => ?_
 obtain ⟨hb, hp⟩ := hp
 obtain rfl := VR_bool hp
 have H := H.keep hb
 refine pz 1 hf fun a hf => ?_
 refine wer ?_
 obtain rfl := oi hF
 refine rT hf ?_
 exact ⟨_, rfl, H.bel, mk_bool⟩
theorem spec_l12Clique_ok {S : Nat → Prop} {v0_ : Value} {v1_ : Value} {list : List Request} {mask : Int} {r : Int} (h0 : VR w0 S v0_ list) (h1 : VR w0 S v1_ mask) (hF : spec_l12Clique fu list mask = some r) :
    Calls Try.prog 93 [v0_, v1_].toArray w0 fun e w' => ∃ v, e = .returned v ∧ (Below w0.heap.size w0 w' ∧ VR w' (St ⟨w0, []⟩ S [] [] [] true) v r) := by
 obtain ⟨A, c, rfl, hl⟩ := VR_list h0
 obtain rfl := VR_int h1
 have H := Mem.start ⟨w0, []⟩ S
 have H := H.pA hl
 refine en Try.func93 fun a hf => ?_
 rw [spec_l12Clique] at hF
 refine sqz (pz 1 hf fun a hf => ?_)
 refine wr (pz 1 hf fun a hf => ?_)
 refine we (sqz (pz 1 hf fun a hf => ?_))
 refine wl_end (then_n ?_)
 obtain ⟨out', hB1, hF⟩ := bs_ hF
 have hf := hf.pn [0, 1, 5, 6]
 have H := H.lt_ [] [] [] [0]
 refine loopC (fun (s : Int × Int) (a : Act) (w : World) => match s with | (i, sum) => Fr a 51 [(0, (.slice A list.length c)), (1, (.int .i64 mask)), (5, (.int .i64 sum)), (6, (.int .i64 i))] ∧ Mem ⟨w0, []⟩ S [] [] [] [(false, MP.val [(.slice A list.length c)] (list : List Request))] w) (fun k (s : Int × Int) => spec_l12Clique_L1 fu list mask k s.1 s.2 = some out') (fun s => out' = Out.next s) (0, 0) fu hB1 ⟨hf, H⟩ (fun s h => by cases h) ?_ ?_
 ·rintro fk ⟨i, sum⟩ a w hR1 hI
  replace hR1 : spec_l12Clique_L1 fu list mask (fk + 1) i sum = some out' := hR1
  rw [spec_l12Clique_L1] at hR1
  obtain ⟨hf, H⟩ := hI
  refine sq (sqz (pz 4 hf fun a hf => ?_))
  refine wl_end (then_n (ib hR1 hf (fun hc hR1 => ?_) fun hc hR1 => ?_))
  ·refine wp_skip (then_n (sq (wp_block (sq (sqz (pz 2 hf fun a hf => ?_))))))
   refine oq hf (rq_conv u64w Try.underlying3 Try.underlying105 hf rfl) fun a hf => ?_
   obtain ⟨q, hq, hR1⟩ := bs_ hR1
   refine oq hf (rq_shr hf rfl rfl hq) fun a hf => ?_
   refine pz 2 hf fun a hf => ?_
   refine wl_end (then_n (ib hR1 hf (fun hc2 hR1 => ?_) fun hc2 hR1 => ?_))
   ·refine wp_exit (then_x (blk_e (?_)))
    refine then_n (reg (pz 3 hf fun a hf => ?_))
    refine wl_end ?_
    have hf := hf.pn [0, 1, 5, 6]
    have H := H.lt_ [] [] [] [0]
    exact then_n ⟨(w64 (i + 1), sum), hR1, hf, H⟩
   ·refine wp_skip (then_n (sqz (pz 3 hf fun a hf => ?_)))
    obtain ⟨e, he, hR1⟩ := bs_ hR1
    refine wl0 rfl (op_iaddr hf H Try.underlying28 TF.sz89 0 rfl rfl rfl he (by decide) fun p o cs a hf hr H => ?_)
    obtain ⟨A2, c2, rfl, hl2⟩ := Request_cells hr
    have H := H.pF hl2
    refine pz 1 hf fun a hf => ?_
    refine oq hf (rq_loadI hf H TF.ls3 1 2 rfl rfl rfl) fun a hf => ?_
    refine pz 2 hf fun a hf => ?_
    have hf := hf.pn [0, 1, 5, 6]
    refine wr (pz 1 hf fun a hf => ?_)
    refine wl_end (then_n ?_)
    obtain ⟨out2, hB2, hR1⟩ := bs_ hR1
    have hf := hf.pn [0, 1, 5, 6, 7]
    have H := H.lt_ [] [] [] [2]
    refine loopC (fun (s : Int) (a : Act) (w : World) => match s with | k' => Fr a 51 [(0, (.slice A list.length c)), (1, (.int .i64 mask)), (5, (.int .i64 (w64 (sum + e.Count)))), (6, (.int .i64 i)), (7, (.int .i64 k'))] ∧ Mem ⟨w0, []⟩ S [] [] [] [(false, MP.val [(.slice A list.length c)] (list : List Request))] w) (fun k (s : Int) => spec_l12Clique_L2 fu list mask i k s = some out2) (fun s => out2 = Out.next s) 0 fu hB2 ⟨hf, H⟩ (fun s h => by cases h) ?_ ?_
    ·rintro fk k' a w hR2 hI
     replace hR2 : spec_l12Clique_L2 fu list mask i (fk + 1) k' = some out2 := hR2
     rw [spec_l12Clique_L2] at hR2
     obtain ⟨hf, H⟩ := hI
     refine sq (sqz (pz 3 hf fun a hf => ?_))
     refine wl_end (then_n (ib hR2 hf (fun hc3 hR2 => ?_) fun hc3 hR2 => ?_))
     ·refine wp_skip (then_n (sq (wp_block (sq ?_))))
      obtain ⟨c3, hGc3, hR2⟩ := bs_ hR2
      have fh := hf.prune [0, 1, 5, 6, 7] rfl
      have Hm := H.lt_ [] [] [] [0]
      refine midF 49 (.bool c3) fh Hm ?_ fun a w hf H => ?_
      ·refine dw [] 18 fun w hb => ?_
       have H := H.keep hb
       refine zp 0 hf trivial fun a hf => ?_
       refine zp 1 hf trivial fun a hf => ?_
       refine nn 2 rfl (op_q hf (rq_conv u64w Try.underlying3 Try.underlying105 hf rfl) rfl (by decide) fun a hf => ?_)
       refine ⟨fun _ => trivial, ?_⟩
       obtain ⟨q2, hq2, hGc3⟩ := bs_ hGc3
       refine tP 3 rfl rfl rfl rfl hf (by kernel_rfl) (fun _ => trivial) (fun w => rq_shr hf rfl rfl hq2) fun a hf => ?_
       refine zp 4 hf trivial fun a hf => ?_
       refine zp 5 hf trivial fun a hf => ?_
       refine zp 6 hf trivial fun a hf => ?_
       refine iteB hGc3 (fun hc4 hGc3 => ?_) fun hc4 hGc3 => ?_
       ·have hf := hf.lit 38 rfl hc4
        refine zg 7 hf trivial fun a hf => ?_
        refine zg 8 hf trivial fun a hf => ?_
        obtain ⟨e2, he2, hGc3⟩ := bs_ hGc3
        obtain ⟨p2, o2, cs2, hx, hr2, H⟩ := pre_iaddr H Try.underlying28 TF.sz89 0 rfl he2
        refine tPg 9 rfl rfl rfl rfl rfl rfl hf (by kernel_rfl) (fun _ => trivial) (fun w => rq_iaddrE hf rfl rfl rfl hx w) fun a hf => ?_
        obtain ⟨A3, c4, rfl, hl3⟩ := Request_cells hr2
        have H := H.pF hl3
        refine strT (H.lt_ [] [] [] [1]) (fun w H => trivial) fun hS => ?_
        refine tSg 10 [] rfl rfl rfl rfl rfl rfl hf (by kernel_rfl) (by kernel_rfl) hS (fun w H => rq_loadIN hf H TF.la89 0 0 rfl rfl rfl rfl) fun a hf => ?_
        refine zg 11 hf hS fun a hf => ?_
        refine zg 12 hf hS fun a hf => ?_
        obtain ⟨e3, he3, hGc3⟩ := bs_ hGc3
        obtain ⟨p3, o3, cs3, hx2, hr3, H⟩ := pre_iaddr H Try.underlying28 TF.sz89 2 rfl he3
        refine tPg 13 rfl rfl rfl rfl rfl rfl hf (by kernel_rfl) (fun _ => hS) (fun w => rq_iaddrE hf rfl rfl rfl hx2 w) fun a hf => ?_
        obtain ⟨A4, c5, rfl, hl4⟩ := Request_cells hr3
        have H := H.pF hl4
        refine strT (H.lt_ [] [] [] [1, 3]) (fun w H => H.lt_ [] [] [] [1]) fun hS => ?_
        refine tSg 14 [] rfl rfl rfl rfl rfl rfl hf (by kernel_rfl) (by kernel_rfl) hS (fun w H => rq_loadIN hf H TF.la89 0 0 rfl rfl rfl rfl) fun a hf => ?_
        obtain ⟨y, hy, hGc3⟩ := bs_ hGc3
        refine n1g 15 (by kernel_rfl) rfl rfl rfl rfl hf (oC hf TF.cl121 (spec_l12Conflict_ok (S := TT) (Request_mkv (x := e2) (H.rt 2 rfl)) (Request_mkv (x := e3) (H.rt 0 rfl)) hy) fun v w a hp hf => ?_)
        obtain ⟨hb, hp⟩ := hp
        obtain rfl := VR_bool hp
        have H := H.keep hb
        have hS := H.lt_ [] [] [] [1, 3]
        refine aS hS ?_
        refine zg 16 hf hS fun a hf => ?_
        refine zp 17 hf hS fun a hf => ?_
        refine dk ?_
        obtain rfl := oi hGc3
        have hf := hf.pn [49, 0, 1, 5, 6, 7]
        have H := H.lt_ [] [] [] [4]
        exact ⟨hf, H⟩
       ·have hf := hf.lit 38 rfl hc4
        refine zU 7 hf trivial fun a hf => ?_
        refine zU 8 hf trivial fun a hf => ?_
        refine zU 9 hf trivial fun a hf => ?_
        refine zU 10 hf trivial fun a hf => ?_
        refine zU 11 hf trivial fun a hf => ?_
        refine zU 12 hf trivial fun a hf => ?_
        refine zU 13 hf trivial fun a hf => ?_
        refine zU 14 hf trivial fun a hf => ?_
        refine zU 15 hf trivial fun a hf => ?_
        refine zU 16 hf trivial fun a hf => ?_
        refine zp 17 hf trivial fun a hf => ?_
        refine dk ?_
        obtain rfl := oi hGc3
        have hf := hf.pn [49, 0, 1, 5, 6, 7]
        have H := H.lt_ [] [] [] [0]
        exact ⟨hf, H⟩
      refine then_n (ib hR2 hf (fun hc5 hR2 => ?_) fun hc5 hR2 => ?_)
      ·refine sqz (pz 1 hf fun a hf => ?_)
       refine wl_end (then_n (wp_ret (blk_r (then_r (then_r (blk_r (then_r (blk_r (then_r (then_r (blk_r (then_r (then_r (?_))))))))))))))
       obtain rfl := oi hR2
       replace hR1 := on_ret hR1
       obtain rfl := oi hR1
       replace hF := on_ret hF
       obtain rfl := oi hF
       refine rT hf ?_
       exact ⟨_, rfl, H.bel, mk_int⟩
      ·refine wp_skip (blk_n (then_n (reg (pz 3 hf fun a hf => ?_))))
       refine wl_end ?_
       have hf := hf.pn [0, 1, 5, 6, 7]
       have H := H.lt_ [] [] [] [0]
       exact then_n ⟨w64 (k' + 1), hR2, hf, H⟩
     ·refine wp_exit (then_x (then_x (blk_e (?_))))
      have hf := hf.pn [0, 1, 5, 6, 7]
      have H := H.lt_ [] [] [] [0]
      exact ⟨k', (Option.some.inj hR2).symm, hf, H⟩
    rintro a w ⟨k2, rfl, hf, H⟩
    replace hR1 := on_next hR1
    refine blk_n (then_n (reg (pz 3 hf fun a hf => ?_)))
    refine wl_end ?_
    have hf := hf.pn [0, 1, 5, 6]
    have H := H.lt_ [] [] [] [0]
    exact then_n ⟨(w64 (i + 1), w64 (sum + e.Count)), hR1, hf, H⟩
  ·refine wp_exit (then_x (then_x (blk_e (?_))))
   have hf := hf.pn [0, 1, 5, 6]
   have H := H.lt_ [] [] [] [0]
   exact ⟨(i, sum), (Option.some.inj hR1).symm, hf, H⟩
 rintro a w ⟨⟨i2, sum2⟩, rfl, hf, H⟩
 replace hF := on_next hF
 try dsimp only at hF
 refine then_n (sqz (pz 2 hf fun a hf => ?_))
 refine wer ?_
 obtain rfl := oi hF
 refine rT hf ?_
 exact ⟨_, rfl, H.bel, mk_int⟩
theorem spec_l12Bound_ok {S : Nat → Prop} {v0_ : Value} {list : List Request} {r : Int × Int} (h0 : VR w0 S v0_ list) (hF : spec_l12Bound fu list = some r) :
    Calls Try.prog 62 [v0_].toArray w0 fun e w' => ∃ v, e = .returned v ∧ (Below w0.heap.size w0 w' ∧ ∃ u0 u1, v = .tuple #[u0, u1] ∧ VR w' (St ⟨w0, []⟩ S [] [] [] true) u0 r.1 ∧ VR w' (St ⟨w0, []⟩ S [] [] [] true) u1 r.2) := by
 obtain ⟨A, c, rfl, hl⟩ := VR_list h0
 have H := Mem.start ⟨w0, []⟩ S
 have H := H.pA hl
 refine en Try.func62 fun a hf => ?_
 rw [spec_l12Bound] at hF
 refine sqz (pz 2 hf fun a hf => ?_)
 refine wr (pz 2 hf fun a hf => ?_)
 refine we (sqz (pz 1 hf fun a hf => ?_))
 refine wl_end (then_n ?_)
 obtain ⟨out', hB1, hF⟩ := bs_ hF
 have hf := hf.pn [0, 4, 5, 6]
 have H := H.lt_ [] [] [] [0]
 refine loopC (fun (s : Int × Int × Int) (a : Act) (w : World) => match s with | (most, best, mask) => Fr a 26 [(0, (.slice A list.length c)), (4, (.int .i64 most)), (5, (.int .i64 best)), (6, (.int .i64 mask))] ∧ Mem ⟨w0, []⟩ S [] [] [] [(false, MP.val [(.slice A list.length c)] (list : List Request))] w) (fun k (s : Int × Int × Int) => spec_l12Bound_L1 fu list k s.1 s.2.1 s.2.2 = some out') (fun s => out' = s) (0, 0, 1) fu hB1 ⟨hf, H⟩ (fun s h => by cases h) ?_ ?_
 ·rintro fk ⟨most, best, mask⟩ a w hR1 hI
  replace hR1 : spec_l12Bound_L1 fu list (fk + 1) most best mask = some out' := hR1
  rw [spec_l12Bound_L1] at hR1
  obtain ⟨hf, H⟩ := hI
  refine sq (sqz (pz 3 hf fun a hf => ?_))
  refine oq hf (rq_conv u64w Try.underlying3 Try.underlying105 hf rfl) fun a hf => ?_
  obtain ⟨q, hq, hR1⟩ := bs_ hR1
  refine oq hf (rq_shl hf rfl rfl hq) fun a hf => ?_
  refine pz 1 hf fun a hf => ?_
  refine wl_end (then_n (ib hR1 hf (fun hc hR1 => ?_) fun hc hR1 => ?_))
  ·refine ws (pz 2 hf fun a hf => ?_)
   obtain ⟨y, hy, hR1⟩ := bs_ hR1
   refine oc hf TF.cl93 (spec_l12Clique_ok (S := TT) (mk_list (H.rt 0 rfl)) mk_int hy) fun v w a hp hf => ?_
   obtain ⟨hb, hp⟩ := hp
   obtain rfl := VR_int hp
   have H := H.keep hb
   refine pz 1 hf fun a hf => ?_
   refine wr (pz 3 hf fun a hf => ?_)
   refine wl_end (then_n (ib hR1 hf (fun hc2 hR1 => ?_) fun hc2 hR1 => ?_))
   ·refine sqz (pz 2 hf fun a hf => ?_)
    have hf := hf.pn [0, 4, 6]
    refine wl_end (then_n (reg (pz 2 hf fun a hf => ?_)))
    refine wl_end (blk_n (then_n (reg (pz 3 hf fun a hf => ?_))))
    refine wl_end ?_
    have hf := hf.pn [0, 4, 5, 6]
    have H := H.lt_ [] [] [] [0]
    exact then_n ⟨(y, mask, w64 (mask + 1)), hR1, hf, H⟩
   ·refine wp_skip (blk_n (then_n (reg (pz 3 hf fun a hf => ?_))))
    have hf := hf.pn [0, 4, 5, 6]
    refine wl_end ?_
    have hf := hf.pn [0, 4, 5, 6]
    have H := H.lt_ [] [] [] [0]
    exact then_n ⟨(most, best, w64 (mask + 1)), hR1, hf, H⟩
  ·refine wp_exit (then_x (then_x (blk_e (?_))))
   have hf := hf.pn [0, 4, 5, 6]
   have H := H.lt_ [] [] [] [0]
   exact ⟨(most, best, mask), (Option.some.inj hR1).symm, hf, H⟩
 rintro a w ⟨⟨most2, best2, mask2⟩, rfl, hf, H⟩
 try dsimp only at hF
 refine then_n (sqz (pz 4 hf fun a hf => ?_))
 refine wer ?_
 obtain rfl := oi hF
 refine ret_2 hf rfl (rv_tmp hf rfl) (rv_tmp hf rfl) ?_
 exact ⟨_, rfl, H.bel, _, _, rfl, mk_int, mk_int⟩
theorem spec_l8Bits_ok {S : Nat → Prop} {v0_ : Value} {b' : Block} {r : Int} (h0 : VR w0 S v0_ b') (hF : spec_l8Bits fu b' = some r) :
    Calls Try.prog 122 [v0_].toArray w0 fun e w' => ∃ v, e = .returned v ∧ (Below w0.heap.size w0 w' ∧ VR w' (St ⟨w0, []⟩ S [] [] [] true) v r) := by
 obtain rfl := Block_open h0
 have H := Mem.start ⟨w0, []⟩ S
 refine en Try.func122 fun a hf => ?_
 rw [spec_l8Bits] at hF
 refine bx hf H fun b2 a w hf H => ?_
 refine pz 1 hf fun a hf => ?_
 refine wr (pz 1 hf fun a hf => ?_)
 refine lB 0 hf H TF.ls3 fun a hf => ?_
 refine oq hf (rq_conv u64w Try.underlying3 Try.underlying105 hf rfl) fun a hf => ?_
 obtain ⟨q, hq, hF⟩ := bs_ hF
 refine oq hf (rq_shl hf rfl rfl hq) fun a hf => ?_
 refine pz 2 hf fun a hf => ?_
 refine lB 0 hf H TF.ls3 fun a hf => ?_
 refine oq hf (rq_conv u64w Try.underlying3 Try.underlying105 hf rfl) fun a hf => ?_
 obtain ⟨q2, hq2, hF⟩ := bs_ hF
 refine oq hf (rq_shl hf rfl rfl hq2) fun a hf => ?_
 refine pz 1 hf fun a hf => ?_
 refine wer ?_
 obtain rfl := oi hF
 refine rT hf ?_
 exact ⟨_, rfl, H.bel, mk_int⟩
theorem spec_l12Taken_ok {S : Nat → Prop} {v0_ : Value} {v1_ : Value} {v2_ : Value} {list : List Request} {blocks : List Block} {i : Int} {r : Int} (h0 : VR w0 S v0_ list) (h1 : VR w0 S v1_ blocks) (h2 : VR w0 S v2_ i) (hF : spec_l12Taken fu list blocks i = some r) :
    Calls Try.prog 95 [v0_, v1_, v2_].toArray w0 fun e w' => ∃ v, e = .returned v ∧ (Below w0.heap.size w0 w' ∧ VR w' (St ⟨w0, []⟩ S [] [] [] true) v r) := by
 obtain ⟨A, c, rfl, hl⟩ := VR_list h0
 obtain ⟨A2, c2, rfl, hl2⟩ := VR_list h1
 obtain rfl := VR_int h2
 have H := Mem.start ⟨w0, []⟩ S
 have H := H.pA hl
 have H := H.pA hl2
 refine en Try.func95 fun a hf => ?_
 rw [spec_l12Taken] at hF
 refine sqz (pz 1 hf fun a hf => ?_)
 refine wr (pz 1 hf fun a hf => ?_)
 refine we (sqz (pz 1 hf fun a hf => ?_))
 refine wl_end (then_n ?_)
 obtain ⟨out2, hB1, hF⟩ := bs_ hF
 have hf := hf.pn [0, 1, 2, 7, 8]
 have H := H.lt_ [] [] [] [0, 1]
 refine loopC (fun (s : Int × Int) (a : Act) (w : World) => match s with | (out', k') => Fr a 45 [(0, (.slice A list.length c)), (1, (.slice A2 blocks.length c2)), (2, (.int .i64 i)), (7, (.int .i64 out')), (8, (.int .i64 k'))] ∧ Mem ⟨w0, []⟩ S [] [] [] [(false, MP.val [(.slice A2 blocks.length c2)] (blocks : List Block)), (false, MP.val [(.slice A list.length c)] (list : List Request))] w) (fun k (s : Int × Int) => spec_l12Taken_L1 fu list blocks i k s.1 s.2 = some out2) (fun s => out2 = s) (0, 0) fu hB1 ⟨hf, H⟩ (fun s h => by cases h) ?_ ?_
 ·rintro fk ⟨out', k'⟩ a w hR1 hI
  replace hR1 : spec_l12Taken_L1 fu list blocks i (fk + 1) out' k' = some out2 := hR1
  rw [spec_l12Taken_L1] at hR1
  obtain ⟨hf, H⟩ := hI
  refine sq (sqz (pz 4 hf fun a hf => ?_))
  refine wl_end (then_n (ib hR1 hf (fun hc hR1 => ?_) fun hc hR1 => ?_))
  ·refine wp_skip (then_n (sq (wp_block (sq ?_))))
   obtain ⟨c3, hGc3, hR1⟩ := bs_ hR1
   have fh := hf.prune [0, 1, 2, 7, 8] rfl
   have Hm := H.lt_ [] [] [] [0, 1]
   refine midF 36 (.bool c3) fh Hm ?_ fun a w hf H => ?_
   ·refine dw [] 22 fun w hb => ?_
    have H := H.keep hb
    refine zp 0 hf trivial fun a hf => ?_
    refine zp 1 hf trivial fun a hf => ?_
    refine zp 2 hf trivial fun a hf => ?_
    refine zp 3 hf trivial fun a hf => ?_
    refine iteB hGc3 (fun hc2 hGc3 => ?_) fun hc2 hGc3 => ?_
    ·have hf := hf.lit 18 rfl hc2
     refine zg 4 hf trivial fun a hf => ?_
     refine zg 5 hf trivial fun a hf => ?_
     obtain ⟨e, he, hGc3⟩ := bs_ hGc3
     obtain ⟨p, o, cs, hx, hr, H⟩ := pre_iaddr H Try.underlying35 TF.sz94 0 rfl he
     refine tPg 6 rfl rfl rfl rfl rfl rfl hf (by kernel_rfl) (fun _ => trivial) (fun w => rq_iaddrE hf rfl rfl rfl hx w) fun a hf => ?_
     obtain rfl := Block_cells hr
     refine zg 7 hf trivial fun a hf => ?_
     refine strT (H.lt_ [] [] [] [0]) (fun w H => trivial) fun hS => ?_
     refine tSg 8 [] rfl rfl rfl rfl rfl rfl hf (by kernel_rfl) (by kernel_rfl) hS (fun w H => rq_loadI hf H TF.ls3 0 1 rfl rfl rfl) fun a hf => ?_
     refine zg 9 hf hS fun a hf => ?_
     refine zp 10 hf hS fun a hf => ?_
     refine zp 11 hf hS fun a hf => ?_
     refine iteB hGc3 (fun hc3 hGc3 => ?_) fun hc3 hGc3 => ?_
     ·have hf := hf.lit 26 rfl hc3
      refine zg 12 hf hS fun a hf => ?_
      refine zg 13 hf hS fun a hf => ?_
      obtain ⟨e2, he2, hGc3⟩ := bs_ hGc3
      obtain ⟨p2, o2, cs2, hx2, hr2, H⟩ := pre_iaddr H Try.underlying28 TF.sz89 2 rfl he2
      refine tPg 14 rfl rfl rfl rfl rfl rfl hf (by kernel_rfl) (fun _ => hS) (fun w => rq_iaddrE hf rfl rfl rfl hx2 w) fun a hf => ?_
      obtain ⟨A3, c4, rfl, hl3⟩ := Request_cells hr2
      have H := H.pF hl3
      refine strT (H.lt_ [] [] [] [1, 2]) (fun w H => H.lt_ [] [] [] [1]) fun hS => ?_
      refine tSg 15 [] rfl rfl rfl rfl rfl rfl hf (by kernel_rfl) (by kernel_rfl) hS (fun w H => rq_loadIN hf H TF.la89 0 0 rfl rfl rfl rfl) fun a hf => ?_
      refine zg 16 hf hS fun a hf => ?_
      refine zg 17 hf hS fun a hf => ?_
      obtain ⟨e3, he3, hGc3⟩ := bs_ hGc3
      obtain ⟨p3, o3, cs3, hx3, hr3, H⟩ := pre_iaddr H Try.underlying28 TF.sz89 4 rfl he3
      refine tPg 18 rfl rfl rfl rfl rfl rfl hf (by kernel_rfl) (fun _ => hS) (fun w => rq_iaddrE hf rfl rfl rfl hx3 w) fun a hf => ?_
      obtain ⟨A4, c5, rfl, hl4⟩ := Request_cells hr3
      have H := H.pF hl4
      refine strT (H.lt_ [] [] [] [1, 3, 4]) (fun w H => H.lt_ [] [] [] [1, 2]) fun hS => ?_
      refine tSg 19 [] rfl rfl rfl rfl rfl rfl hf (by kernel_rfl) (by kernel_rfl) hS (fun w H => rq_loadIN hf H TF.la89 0 0 rfl rfl rfl rfl) fun a hf => ?_
      obtain ⟨y, hy, hGc3⟩ := bs_ hGc3
      refine n1g 20 (by kernel_rfl) rfl rfl rfl rfl hf (oC hf TF.cl121 (spec_l12Conflict_ok (S := TT) (Request_mkv (x := e2) (H.rt 2 rfl)) (Request_mkv (x := e3) (H.rt 0 rfl)) hy) fun v w a hp hf => ?_)
      obtain ⟨hb, hp⟩ := hp
      obtain rfl := VR_bool hp
      have H := H.keep hb
      have hS := H.lt_ [] [] [] [1, 3, 4]
      refine aS hS ?_
      refine zp 21 hf hS fun a hf => ?_
      refine dk ?_
      obtain rfl := oi hGc3
      have hf := hf.pn [36, 0, 1, 2, 7, 8]
      have H := H.lt_ [] [] [] [5, 6]
      exact ⟨hf, H⟩
     ·have hf := hf.lit 26 rfl hc3
      refine zU 12 hf hS fun a hf => ?_
      refine zU 13 hf hS fun a hf => ?_
      refine zU 14 hf hS fun a hf => ?_
      refine zU 15 hf hS fun a hf => ?_
      refine zU 16 hf hS fun a hf => ?_
      refine zU 17 hf hS fun a hf => ?_
      refine zU 18 hf hS fun a hf => ?_
      refine zU 19 hf hS fun a hf => ?_
      refine zU 20 hf hS fun a hf => ?_
      refine zp 21 hf hS fun a hf => ?_
      refine dk ?_
      obtain rfl := oi hGc3
      have hf := hf.pn [36, 0, 1, 2, 7, 8]
      have H := H.lt_ [] [] [] [1, 2]
      exact ⟨hf, H⟩
    ·have hf := hf.lit 18 rfl hc2
     refine zU 4 hf trivial fun a hf => ?_
     refine zU 5 hf trivial fun a hf => ?_
     refine zU 6 hf trivial fun a hf => ?_
     refine zU 7 hf trivial fun a hf => ?_
     refine zU 8 hf trivial fun a hf => ?_
     refine zU 9 hf trivial fun a hf => ?_
     refine zp 10 hf trivial fun a hf => ?_
     refine zp 11 hf trivial fun a hf => ?_
     refine zU 12 hf trivial fun a hf => ?_
     refine zU 13 hf trivial fun a hf => ?_
     refine zU 14 hf trivial fun a hf => ?_
     refine zU 15 hf trivial fun a hf => ?_
     refine zU 16 hf trivial fun a hf => ?_
     refine zU 17 hf trivial fun a hf => ?_
     refine zU 18 hf trivial fun a hf => ?_
     refine zU 19 hf trivial fun a hf => ?_
     refine zU 20 hf trivial fun a hf => ?_
     refine zp 21 hf trivial fun a hf => ?_
     refine dk ?_
     obtain rfl := oi hGc3
     have hf := hf.pn [36, 0, 1, 2, 7, 8]
     have H := H.lt_ [] [] [] [0, 1]
     exact ⟨hf, H⟩
   refine then_n (ib hR1 hf (fun hc4 hR1 => ?_) fun hc4 hR1 => ?_)
   ·refine reg (pz 3 hf fun a hf => ?_)
    obtain ⟨e4, he4, hR1⟩ := bs_ hR1
    refine wl0 rfl (op_iaddr hf H Try.underlying35 TF.sz94 0 rfl rfl rfl he4 (by decide) fun p4 o4 cs4 a hf hr4 H => ?_)
    obtain rfl := Block_cells hr4
    refine oq hf (rq_loadIN hf H TF.la94 0 0 rfl rfl rfl rfl) fun a hf => ?_
    obtain ⟨y2, hy2, hR1⟩ := bs_ hR1
    refine oc hf TF.cl122 (spec_l8Bits_ok (S := TT) Block_mkv hy2) fun v2 w a hp2 hf => ?_
    obtain ⟨hb2, hp2⟩ := hp2
    obtain rfl := VR_int hp2
    have H := H.keep hb2
    refine pz 2 hf fun a hf => ?_
    refine wl_end (blk_n (then_n (reg (pz 3 hf fun a hf => ?_))))
    refine wl_end ?_
    have hf := hf.pn [0, 1, 2, 7, 8]
    have H := H.lt_ [] [] [] [1, 2]
    exact then_n ⟨(bor out' y2, w64 (k' + 1)), hR1, hf, H⟩
   ·refine wp_skip (blk_n (then_n (reg (pz 3 hf fun a hf => ?_))))
    refine wl_end ?_
    have hf := hf.pn [0, 1, 2, 7, 8]
    have H := H.lt_ [] [] [] [0, 1]
    exact then_n ⟨(out', w64 (k' + 1)), hR1, hf, H⟩
  ·refine wp_exit (then_x (then_x (blk_e (?_))))
   have hf := hf.pn [0, 1, 2, 7, 8]
   have H := H.lt_ [] [] [] [0, 1]
   exact ⟨(out', k'), (Option.some.inj hR1).symm, hf, H⟩
 rintro a w ⟨⟨out3, k2⟩, rfl, hf, H⟩
 try dsimp only at hF
 refine then_n (sqz (pz 2 hf fun a hf => ?_))
 refine wer ?_
 obtain rfl := oi hF
 refine rT hf ?_
 exact ⟨_, rfl, H.bel, mk_int⟩
theorem spec_l8Fits_ok {S : Nat → Prop} {v0_ : Value} {v1_ : Value} {mask : Int} {count : Int} {r : List Int} (h0 : VR w0 S v0_ mask) (h1 : VR w0 S v1_ count) (hF : spec_l8Fits fu mask count = some r) :
    Calls Try.prog 94 [v0_, v1_].toArray w0 fun e w' => ∃ v, e = .returned v ∧ (Below w0.heap.size w0 w' ∧ ∃ F0, VO w' F0 v r ∧ New w0 w' F0) := by
 obtain rfl := VR_int h0
 obtain rfl := VR_int h1
 have H := Mem.start ⟨w0, []⟩ S
 refine en Try.func94 fun a hf => ?_
 rw [spec_l8Fits] at hF
 refine sqz (pz 1 hf fun a hf => ?_)
 refine wr (wl0 rfl (bl hf H 3 ([] : List Int) [] el0 fun A a w hf H => ?_))
 refine pz 1 hf fun a hf => ?_
 refine we (sqz (pz 1 hf fun a hf => ?_))
 refine wl_end (then_n ?_)
 obtain ⟨out2, hB1, hF⟩ := bs_ hF
 have hf := hf.pn [0, 1, 5, 6]
 have H := H.lt_ [] [true] [] []
 refine loopC (fun (s : List Int × Int) (a : Act) (w : World) => match s with | (out', s') => ∃ (A2 : Option Addr) (c : Nat) (E : Go.TypeId), Fr a 26 [(0, (.int .i64 mask)), (1, (.int .i64 count)), (5, (.slice A2 out'.length c)), (6, (.int .i64 s'))] ∧ Mem ⟨w0, []⟩ S [] [⟨.sh true, E, A2, c, (out' : List Int)⟩] [] [] w) (fun k (s : List Int × Int) => spec_l8Fits_L1 fu mask count k s.1 s.2 = some out2) (fun s => out2 = s) (([] : List Int), 0) fu hB1 ⟨A, 0, 3, hf, H⟩ (fun s h => by cases h) ?_ ?_
 ·rintro fk ⟨out', s'⟩ a w hR1 hI
  replace hR1 : spec_l8Fits_L1 fu mask count (fk + 1) out' s' = some out2 := hR1
  rw [spec_l8Fits_L1] at hR1
  obtain ⟨A2, c, E, hf, H⟩ := hI
  refine sq (sqz (pz 4 hf fun a hf => ?_))
  refine wl_end (then_n (ib hR1 hf (fun hc hR1 => ?_) fun hc hR1 => ?_))
  ·refine ws (pz 3 hf fun a hf => ?_)
   refine oq hf (rq_build hf (cs := [(.int .i64 s'), (.int .i64 count)]) rfl (fun w => by kernel_rfl)) fun a hf => ?_
   obtain ⟨y, hy, hR1⟩ := bs_ hR1
   refine oc hf TF.cl122 (spec_l8Bits_ok (S := TT) Block_mkv hy) fun v w a hp hf => ?_
   obtain ⟨hb, hp⟩ := hp
   obtain rfl := VR_int hp
   have H := H.keep hb
   refine pz 2 hf fun a hf => ?_
   refine wl_end (then_n (ib hR1 hf (fun hc2 hR1 => ?_) fun hc2 hR1 => ?_))
   ·refine reg (pz 2 hf fun a hf => ?_)
    refine wl0 rfl (bl hf H 3 ([s'] : List Int) [(.int .i64 s')] (el1 (y := s') (rfl)) fun A3 a w hf H => ?_)
    obtain ⟨l, hl_, hR1⟩ := bs_ hR1
    refine wl0 rfl (op_appR hf H Try.underlying31 TF.ai3 rfl (by decide) 1 0 rfl rfl rfl rfl (.inr rfl) hl_ (by decide) fun E2 A4 c2 a w hf H => ?_)
    refine pz 1 hf fun a hf => ?_
    have hf := hf.pn [0, 1, 5, 6]
    refine wl_end (blk_n (then_n (reg (pz 3 hf fun a hf => ?_))))
    refine wl_end ?_
    have hf := hf.pn [0, 1, 5, 6]
    have H := H.lt_ [] [false, true] [] []
    exact then_n ⟨(l, w64 (s' + 1)), hR1, A4, c2, E2, hf, H⟩
   ·refine wp_skip (blk_n (then_n (reg (pz 3 hf fun a hf => ?_))))
    have hf := hf.pn [0, 1, 5, 6]
    refine wl_end ?_
    have hf := hf.pn [0, 1, 5, 6]
    have H := H.lt_ [] [true] [] []
    exact then_n ⟨(out', w64 (s' + 1)), hR1, A2, c, E, hf, H⟩
  ·refine wp_exit (then_x (then_x (blk_e (?_))))
   have hf := hf.pn [0, 1, 5, 6]
   have H := H.lt_ [] [true] [] []
   exact ⟨(out', s'), (Option.some.inj hR1).symm, A2, c, E, hf, H⟩
 rintro a w ⟨⟨out3, s2⟩, rfl, A5, c3, E3, hf, H⟩
 try dsimp only at hF
 refine then_n (sqz (pz 2 hf fun a hf => ?_))
 refine wer ?_
 have H := H.rowOwn 0 rfl rfl
 obtain ⟨F, H⟩ := H.freezeOwn 0 rfl
 have H := H.lend 0 rfl
 obtain rfl := oi hF
 refine rT hf ?_
 have hN := H.ends1
 exact ⟨_, rfl, H.bel, F, (mko_list (H.ownAt 0 rfl)), by first | exact hN | simpa using hN⟩
theorem spec_l12Extend_B_ok {fu : Nat} {rec_ : (List Request) → (List Block) → (Int) → (Int) → Option (Bool × List Block)} (ih : ∀ {w0 : World} {S : Nat → Prop} {F : List Nat} {cs : List Value} {v0_ : Value} {v2_ : Value} {v3_ : Value} {list : List Request} {blocks : List Block} {i : Int} {height : Int} {r : Bool × List Block} (hO : GoTy.own w0 F cs blocks) (hn : F.Nodup) (hSm : ∀ c ∈ F, ¬ S c) (h0 : VR w0 S v0_ list) (h2 : VR w0 S v2_ i) (h3 : VR w0 S v3_ height) (hF : rec_ list blocks i height = some r), Calls Try.prog 63 [v0_, (bif GoTy.agg (List Block) then .agg cs.toArray else cs.headD undef), v2_, v3_].toArray w0 fun e w' => ∃ v, e = .returned v ∧ (Chg w0 w' F ∧ VR w' (fun _ => True) v r.1 ∧ ∃ F', GoTy.own w' F' cs r.2 ∧ Back w0 w' F F')) {w0 : World} {S : Nat → Prop} {F : List Nat} {cs : List Value} {v0_ : Value} {v2_ : Value} {v3_ : Value} {list : List Request} {blocks : List Block} {i : Int} {height : Int} {r : Bool × List Block} (hO : GoTy.own w0 F cs blocks) (hn : F.Nodup) (hSm : ∀ c ∈ F, ¬ S c) (h0 : VR w0 S v0_ list) (h2 : VR w0 S v2_ i) (h3 : VR w0 S v3_ height) (hF : spec_l12Extend_B fu rec_ list blocks i height = some r) :
    Calls Try.prog 63 [v0_, (bif GoTy.agg (List Block) then .agg cs.toArray else cs.headD undef), v2_, v3_].toArray w0 fun e w' => ∃ v, e = .returned v ∧ (Chg w0 w' F ∧ VR w' (fun _ => True) v r.1 ∧ ∃ F', GoTy.own w' F' cs r.2 ∧ Back w0 w' F F') := by
 obtain ⟨A2, c2, rfl, hl⟩ := VR_list h0
 obtain rfl := VR_int h2
 obtain rfl := VR_int h3
 obtain ⟨A, c, rfl, hO⟩ := own_list hO
 have H := Mem.startG S hO hn
 obtain ⟨Fs, E, H, -⟩ := H.thaw rfl
 have H := H.rowSh 0 rfl
 have H := H.argB hSm (p := MP.val [(.slice A2 list.length c2)] list) hl
 refine en Try.func63 fun a hf => ?_
 rw [spec_l12Extend_B] at hF
 refine sqz (pz 1 hf fun a hf => ?_)
 refine we (sqz (pz 4 hf fun a hf => ?_))
 refine wl_end (then_n (ib hF hf (fun hc hF => ?_) fun hc hF => ?_))
 ·refine sqz (pz 1 hf fun a hf => ?_)
  refine wl_end (then_n (wp_ret (then_r (?_))))
  have H := H.rowOwn 0 rfl rfl
  obtain ⟨F', H⟩ := H.freezeOwn 0 rfl
  obtain rfl := oi hF
  refine rT hf ?_
  exact ⟨_, rfl, H.chg, mk_bool, _, H.ownAt 0 rfl, H.back⟩
 ·refine wp_skip (then_n (sq (dw [] 11 fun w hb => ?_)))
  have H := H.keep hb
  refine zp 0 hf trivial fun a hf => ?_
  refine zp 1 hf trivial fun a hf => ?_
  refine zp 2 hf trivial fun a hf => ?_
  refine zp 4 hf trivial fun a hf => ?_
  refine zp 5 hf trivial fun a hf => ?_
  obtain ⟨e, he, hF⟩ := bs_ hF
  obtain ⟨p, o, cs, hx, hr, H⟩ := pre_iaddr H Try.underlying28 TF.sz89 0 rfl he
  refine tP 6 rfl rfl rfl rfl hf (by kernel_rfl) (fun _ => trivial) (fun w => rq_iaddrE hf rfl rfl rfl hx w) fun a hf => ?_
  obtain ⟨A3, c3, rfl, hl2⟩ := Request_cells hr
  have H := H.pF hl2
  refine zp 7 hf trivial fun a hf => ?_
  refine strT (H.lt_ [] [false] [] [1]) (fun w H => trivial) fun hS => ?_
  refine zS 8 [] rfl rfl rfl rfl hf hS (fun w H => rq_loadI hf H TF.ls3 0 2 rfl rfl rfl) fun a hf => ?_
  obtain ⟨y, hy, hF⟩ := bs_ hF
  refine nn 3 rfl (oC hf TF.cl95 (spec_l12Taken_ok (S := TT) (mk_list (H.rt 2 rfl)) (mk_list (H.rowTrue 0 rfl)) mk_int hy) fun v w a hp hf => ?_)
  obtain ⟨hb, hp⟩ := hp
  obtain rfl := VR_int hp
  have H := H.keep hb
  have hS := H.lt_ [] [false] [] [1]
  refine aS hS ?_
  obtain ⟨y2, hy2, hF⟩ := bs_ hF
  refine nn 9 rfl (oC hf TF.cl94 (spec_l8Fits_ok (S := TT) mk_int mk_int hy2) fun v2 w a hp2 hf => ?_)
  obtain ⟨hb2, F2, hp3, hN⟩ := hp2
  obtain ⟨A4, c4, rfl, hl3⟩ := VO_list hp3
  have H := H.aO1 hb2 hN hl3
  have H := H.lend 0 rfl
  have hS := H.lt_ [] [false] [false] [2]
  refine aS hS ?_
  refine zp 10 hf hS fun a hf => ?_
  refine dk ?_
  have hf := hf.pn [0, 1, 2, 3, 9]
  refine then_n (sq (sqz (pz 1 hf fun a hf => ?_)))
  refine wl_end (then_n ?_)
  obtain ⟨out', hB1, hF⟩ := bs_ hF
  have hf := hf.pn [0, 1, 2, 3, 9, 10]
  have hf : Fr a 68 [(0, (.slice A2 list.length c2)), (1, (.slice A blocks.length c)), (2, (.int .i64 i)), (3, (.int .i64 height)), (9, (.slice A4 y2.length c4)), (10, (.int .i64 0))] := by first | exact hf | (simp only [List.length_set] at hf; exact hf)
  have H := H.lt_ [] [true] [true] [0, 3]
  refine loopC (fun (s : List Block × Int) (a : Act) (w : World) => match s with | (blocks2, k') => ∃ (E2 : Go.TypeId), blocks2.length = blocks.length ∧ Fr a 68 [(0, (.slice A2 list.length c2)), (1, (.slice A blocks.length c)), (2, (.int .i64 i)), (3, (.int .i64 height)), (9, (.slice A4 y2.length c4)), (10, (.int .i64 k'))] ∧ Mem ⟨w0, F⟩ S [] [⟨.sh true, E2, A, c, (blocks2 : List Block)⟩] [⟨F2, MP.own F2 [(.slice A4 y2.length c4)] (y2 : List Int)⟩] [(true, MP.val [(.slice A4 y2.length c4)] (y2 : List Int)), (false, MP.val [(.slice A2 list.length c2)] (list : List Request))] w) (fun k (s : List Block × Int) => spec_l12Extend_L1 fu list i height rec_ y2 k s.1 s.2 = some out') (fun s => out' = Out.next s) (blocks, 0) fu hB1 ⟨E, rfl, hf, H⟩ (fun s h => by cases h) ?_ ?_
  ·rintro fk ⟨blocks2, k'⟩ a w hR1 hI
   replace hR1 : spec_l12Extend_L1 fu list i height rec_ y2 (fk + 1) blocks2 k' = some out' := hR1
   rw [spec_l12Extend_L1] at hR1
   obtain ⟨E2, hlen, hf, H⟩ := hI
   have hf : Fr a 68 [(0, (.slice A2 list.length c2)), (1, (.slice A blocks2.length c)), (2, (.int .i64 i)), (3, (.int .i64 height)), (9, (.slice A4 y2.length c4)), (10, (.int .i64 k'))] := by rw [hlen]; exact hf
   refine sq (sq ?_)
   obtain ⟨c5, hGc5, hR1⟩ := bs_ hR1
   have fh := hf.prune [0, 1, 2, 3, 9, 10] rfl
   have Hm := H.lt_ [] [true] [true] [0, 1]
   refine midF 42 (.bool c5) fh Hm ?_ fun a w hf H => ?_
   ·refine dw [] 18 fun w hb => ?_
    have H := H.keep hb
    refine zp 0 hf trivial fun a hf => ?_
    refine zp 1 hf trivial fun a hf => ?_
    refine zp 2 hf trivial fun a hf => ?_
    refine zp 3 hf trivial fun a hf => ?_
    refine zp 4 hf trivial fun a hf => ?_
    refine iteB hGc5 (fun hc2 hGc5 => ?_) fun hc2 hGc5 => ?_
    ·have hf := hf.lit 29 rfl hc2
     refine zg 5 hf trivial fun a hf => ?_
     refine zg 6 hf trivial fun a hf => ?_
     obtain ⟨e2, he2, hGc5⟩ := bs_ hGc5
     obtain ⟨p2, o2, cs2, hx2, hr2, H⟩ := pre_iaddr H Try.underlying31 TF.sz3 0 rfl he2
     refine tPg 7 rfl rfl rfl rfl rfl rfl hf (by kernel_rfl) (fun _ => trivial) (fun w => rq_iaddrE hf rfl rfl rfl hx2 w) fun a hf => ?_
     obtain rfl := hr2
     refine strT (H.lt_ [] [false] [false] [0]) (fun w H => trivial) fun hS => ?_
     refine tSg 8 [] rfl rfl rfl rfl rfl rfl hf (by kernel_rfl) (by kernel_rfl) hS (fun w H => rq_loadI hf H TF.ls3 0 0 rfl rfl rfl) fun a hf => ?_
     refine zg 9 hf hS fun a hf => ?_
     refine zg 10 hf hS fun a hf => ?_
     obtain ⟨e3, he3, hGc5⟩ := bs_ hGc5
     obtain ⟨p3, o3, cs3, hx3, hr3, H⟩ := pre_iaddr H Try.underlying28 TF.sz89 2 rfl he3
     refine tPg 11 rfl rfl rfl rfl rfl rfl hf (by kernel_rfl) (fun _ => hS) (fun w => rq_iaddrE hf rfl rfl rfl hx3 w) fun a hf => ?_
     obtain ⟨A5, c6, rfl, hl4⟩ := Request_cells hr3
     have H := H.pF hl4
     refine zg 12 hf hS fun a hf => ?_
     refine strT (H.lt_ [] [false] [false] [1, 2]) (fun w H => H.lt_ [] [] [] [1]) fun hS => ?_
     refine tSg 13 [] rfl rfl rfl rfl rfl rfl hf (by kernel_rfl) (by kernel_rfl) hS (fun w H => rq_loadI hf H TF.ls3 0 2 rfl rfl rfl) fun a hf => ?_
     refine zg 14 hf hS fun a hf => ?_
     refine zg 15 hf hS fun a hf => ?_
     refine zg 16 hf hS fun a hf => ?_
     refine zp 17 hf hS fun a hf => ?_
     refine dk ?_
     obtain rfl := oi hGc5
     have hf := hf.pn [42, 0, 1, 2, 3, 9, 10]
     have H := H.lt_ [] [true] [true] [3, 4]
     exact ⟨hf, H⟩
    ·have hf := hf.lit 29 rfl hc2
     refine zU 5 hf trivial fun a hf => ?_
     refine zU 6 hf trivial fun a hf => ?_
     refine zU 7 hf trivial fun a hf => ?_
     refine zU 8 hf trivial fun a hf => ?_
     refine zU 9 hf trivial fun a hf => ?_
     refine zU 10 hf trivial fun a hf => ?_
     refine zU 11 hf trivial fun a hf => ?_
     refine zU 12 hf trivial fun a hf => ?_
     refine zU 13 hf trivial fun a hf => ?_
     refine zU 14 hf trivial fun a hf => ?_
     refine zU 15 hf trivial fun a hf => ?_
     refine zU 16 hf trivial fun a hf => ?_
     refine zp 17 hf trivial fun a hf => ?_
     refine dk ?_
     obtain rfl := oi hGc5
     have hf := hf.pn [42, 0, 1, 2, 3, 9, 10]
     have H := H.lt_ [] [true] [true] [0, 1]
     exact ⟨hf, H⟩
   refine then_n (ib hR1 hf (fun hc3 hR1 => ?_) fun hc3 hR1 => ?_)
   ·refine wp_skip (then_n (sq (wp_block (sq (dw [13] 14 fun w hb => ?_)))))
    have H := H.keep hb
    refine zp 0 hf trivial fun a hf => ?_
    refine zp 1 hf trivial fun a hf => ?_
    refine zp 2 hf trivial fun a hf => ?_
    refine zp 3 hf trivial fun a hf => ?_
    obtain ⟨e4, he4, hR1⟩ := bs_ hR1
    obtain ⟨p4, o4, cs4, hx4, hr4, H⟩ := pre_iaddr H Try.underlying31 TF.sz3 0 rfl he4
    refine tP 4 rfl rfl rfl rfl hf (by kernel_rfl) (fun _ => trivial) (fun w => rq_iaddrE hf rfl rfl rfl hx4 w) fun a hf => ?_
    obtain rfl := hr4
    refine strT (H.lt_ [] [false] [false] [0]) (fun w H => trivial) fun hS => ?_
    refine zS 5 [5, 11, 12, 13] rfl rfl rfl rfl hf hS (fun w H => rq_loadI hf H TF.ls3 0 0 rfl rfl rfl) fun a hf => ?_
    refine zp 6 hf hS fun a hf => ?_
    refine zp 7 hf hS fun a hf => ?_
    obtain ⟨e5, he5, hR1⟩ := bs_ hR1
    obtain ⟨p5, o5, cs5, hx5, hr5, H⟩ := pre_iaddr H Try.underlying28 TF.sz89 2 rfl he5
    refine zP 8 rfl rfl rfl rfl hf hS (fun w => rq_iaddrE hf rfl rfl rfl hx5 w) fun a hf => ?_
    obtain ⟨A6, c7, rfl, hl5⟩ := Request_cells hr5
    have H := H.pF hl5
    refine zp 9 hf hS fun a hf => ?_
    refine strT (H.lt_ [] [false] [false] [1, 2]) (fun w H => H.lt_ [] [] [] [1]) fun hS => ?_
    refine zS 10 [10, 11, 12, 13] rfl rfl rfl rfl hf hS (fun w H => rq_loadI hf H TF.ls3 0 2 rfl rfl rfl) fun a hf => ?_
    refine zP 11 rfl rfl rfl rfl hf hS (fun w => rq_build hf (cs := [(.int .i64 e4), (.int .i64 e5.Count)]) rfl (fun w => by kernel_rfl)) fun a hf => ?_
    obtain ⟨e6, he6, hR1⟩ := bs_ hR1
    refine nn 12 rfl (op_iaddrR hf H Try.underlying35 TF.sz94 0 rfl rfl rfl he6 (by decide) fun p6 o6 cs6 a hf hA hr6 hk => ?_)
    obtain rfl := Block_cells hr6
    have hS := H.lt_ [] [false] [false] [1, 2]
    refine aS hS ?_
    refine nn 13 rfl (op_storeR (e' := ({ First := e4, Count := e5.Count } : Block)) (o := o6) (off := 0) hf H TF.sz94 0 rfl rfl rfl rfl rfl (nle rfl) rfl hA he6 (st_full (Block_mk (x := ({ First := e4, Count := e5.Count } : Block)))) fun w H => ?_)
    replace hf : Fr a 68 [(0, (.slice A2 list.length c2)), (1, (.slice A blocks2.length c)), (2, (.int .i64 i)), (3, (.int .i64 height)), (9, (.slice A4 y2.length c4)), (10, (.int .i64 k')), (45, (.slice A blocks2.length c)), (46, (.int .i64 i)), (47, (.slice A4 y2.length c4)), (48, (.int .i64 k')), (49, (.pointer (some ⟨p4, o4 + 0, none⟩))), (50, (.int .i64 e4)), (51, (.slice A2 list.length c2)), (52, (.int .i64 i)), (53, (.pointer (some ⟨p5, o5 + 0, none⟩))), (54, (.pointer (some ⟨p5, o5 + 2, none⟩))), (55, (.int .i64 e5.Count)), (56, (.agg #[(.int .i64 e4), (.int .i64 e5.Count)])), (57, (.pointer (some ⟨p6, o6 + 0, none⟩)))] := hf.prune [0, 1, 2, 3, 9, 10, 45, 46, 47, 48, 49, 50, 51, 52, 53, 54, 55, 56, 57] rfl
    replace hf : Fr a 68 [(0, (.slice A2 list.length c2)), (1, (.slice A (blocks2.set (i : Int).toNat ({ First := e4, Count := e5.Count } : Block)).length c)), (2, (.int .i64 i)), (3, (.int .i64 height)), (9, (.slice A4 y2.length c4)), (10, (.int .i64 k')), (45, (.slice A (blocks2.set (i : Int).toNat ({ First := e4, Count := e5.Count } : Block)).length c)), (46, (.int .i64 i)), (47, (.slice A4 y2.length c4)), (48, (.int .i64 k')), (49, (.pointer (some ⟨p4, o4 + 0, none⟩))), (50, (.int .i64 e4)), (51, (.slice A2 list.length c2)), (52, (.int .i64 i)), (53, (.pointer (some ⟨p5, o5 + 0, none⟩))), (54, (.pointer (some ⟨p5, o5 + 2, none⟩))), (55, (.int .i64 e5.Count)), (56, (.agg #[(.int .i64 e4), (.int .i64 e5.Count)])), (57, (.pointer (some ⟨p6, o6 + 0, none⟩)))] := by simpa only [List.length_set, Nat.add_zero] using hf
    refine ⟨fun h => absurd h (by decide), ?_⟩
    refine dk ?_
    have hf := hf.pn [0, 1, 2, 3, 9, 10]
    refine then_n (sqz (pz 5 hf fun a hf => ?_))
    have H := H.rowOwn 0 rfl rfl
    obtain ⟨F4, H⟩ := H.freezeOwn 0 rfl
    have H := H.lend 0 rfl
    obtain ⟨y3, hy3, hR1⟩ := bs_ hR1
    refine oc hf TF.cl63 (ih (S := NO F4) (F := F4) (cs := [(.slice A (blocks2.set (i : Int).toNat ({ First := e4, Count := e5.Count } : Block)).length c)]) (H.ownAt 0 rfl) H.diNd.1 (fun _ h1 h2 => h2 h1) (mk_list (H.argO hSm (α := List Request) hl)) mk_int mk_int hy3) fun v3 w a hp4 hf => ?_
    obtain ⟨hch, hv, F5, ho, hbk⟩ := hp4
    obtain rfl := VR_bool hv
    have H := H.wrote rfl hch ho hbk
    have H := H.argB hSm (p := MP.val [(.slice A2 list.length c2)] list) hl
    have H := H.lend 0 rfl
    have H := H.lend 1 rfl
    refine wl_end (then_n (ib hR1 hf (fun hc4 hR1 => ?_) fun hc4 hR1 => ?_))
    ·refine sqz (pz 1 hf fun a hf => ?_)
     refine wl_end (then_n (wp_ret (blk_r (then_r (then_r (blk_r (then_r (then_r (?_)))))))))
     simp only [List.length_set, hlen] at H
     obtain rfl := oi hR1
     replace hF := on_ret hF
     obtain rfl := oi hF
     refine rT hf ?_
     exact ⟨_, rfl, H.chg, mk_bool, _, H.ownAt 0 rfl, H.back⟩
    ·refine wp_skip (blk_n (then_n (reg (pz 3 hf fun a hf => ?_))))
     refine wl_end ?_
     have hlen2 := H.ownLen rfl
     obtain ⟨Fs2, E3, H, -⟩ := H.thaw rfl
     have H := H.rowSh 0 rfl
     have hf := hf.pn [0, 1, 2, 3, 9, 10, 43, 44, 58, 59, 60, 61, 62, 63]
     replace hf : Fr a 68 [(0, (.slice A2 list.length c2)), (1, (.slice A y3.2.length c)), (2, (.int .i64 i)), (3, (.int .i64 height)), (9, (.slice A4 y2.length c4)), (10, (.int .i64 (w64 (k' + 1)))), (43, (.int .i64 k')), (44, (.int .i64 (w64 (k' + 1)))), (58, (.slice A2 list.length c2)), (59, (.slice A y3.2.length c)), (60, (.int .i64 i)), (61, (.int .i64 (w64 (i + 1)))), (62, (.int .i64 height)), (63, (.bool y3.1))] := by rw [hlen2]; exact hf
     have H := H.argB hSm (p := MP.val [(.slice A2 list.length c2)] list) hl
     have H := H.lend 0 rfl
     have hf := hf.pn [0, 1, 2, 3, 9, 10]
     have hf : Fr a 68 [(0, (.slice A2 list.length c2)), (1, (.slice A blocks.length c)), (2, (.int .i64 i)), (3, (.int .i64 height)), (9, (.slice A4 y2.length c4)), (10, (.int .i64 (w64 (k' + 1))))] := by first | exact hf | (simp only [List.length_set, hlen, hlen2] at hf; exact hf)
     have H := H.lt_ [] [true] [true] [0, 1]
     exact then_n ⟨(y3.2, w64 (k' + 1)), hR1, E3, (by simp only [List.length_set, hlen, hlen2]), hf, H⟩
   ·refine wp_exit (then_x (then_x (blk_e (?_))))
    have hf := hf.pn [0, 1, 2, 3, 9, 10]
    have hf : Fr a 68 [(0, (.slice A2 list.length c2)), (1, (.slice A blocks.length c)), (2, (.int .i64 i)), (3, (.int .i64 height)), (9, (.slice A4 y2.length c4)), (10, (.int .i64 k'))] := by first | exact hf | (simp only [List.length_set, hlen] at hf; exact hf)
    have H := H.lt_ [] [true] [true] [0, 1]
    exact ⟨(blocks2, k'), (Option.some.inj hR1).symm, E2, (by simp only [List.length_set, hlen]), hf, H⟩
  rintro a w ⟨⟨blocks3, k2⟩, rfl, E4, hlen, hf, H⟩
  try dsimp only at hlen
  have hf : Fr a 68 [(0, (.slice A2 list.length c2)), (1, (.slice A blocks3.length c)), (2, (.int .i64 i)), (3, (.int .i64 height)), (9, (.slice A4 y2.length c4)), (10, (.int .i64 k2))] := by rw [hlen]; exact hf
  replace hF := on_next hF
  try dsimp only at hF
  refine then_n (sqz (pz 2 hf fun a hf => ?_))
  refine oq hf (rq_build hf (cs := [(.int .i64 0), (.int .i64 0)]) rfl (fun w => by kernel_rfl)) fun a hf => ?_
  obtain ⟨e7, he7, hF⟩ := bs_ hF
  refine wl0 rfl (op_iaddrR hf H Try.underlying35 TF.sz94 0 rfl rfl rfl he7 (by decide) fun p7 o7 cs7 a hf hA2 hr7 hk2 => ?_)
  obtain rfl := Block_cells hr7
  refine wl0 rfl (op_storeR (e' := ({ First := 0, Count := 0 } : Block)) (o := o7) (off := 0) hf H TF.sz94 0 rfl rfl rfl rfl rfl (nle rfl) rfl hA2 he7 (st_full (Block_mk (x := ({ First := 0, Count := 0 } : Block)))) fun w H => ?_)
  replace hf : Fr a 68 [(1, (.slice A blocks3.length c)), (2, (.int .i64 i)), (64, (.slice A blocks3.length c)), (65, (.int .i64 i)), (66, (.agg #[(.int .i64 0), (.int .i64 0)])), (67, (.pointer (some ⟨p7, o7 + 0, none⟩)))] := hf.prune [1, 2, 64, 65, 66, 67] rfl
  replace hf : Fr a 68 [(1, (.slice A (blocks3.set (i : Int).toNat ({ First := 0, Count := 0 } : Block)).length c)), (2, (.int .i64 i)), (64, (.slice A (blocks3.set (i : Int).toNat ({ First := 0, Count := 0 } : Block)).length c)), (65, (.int .i64 i)), (66, (.agg #[(.int .i64 0), (.int .i64 0)])), (67, (.pointer (some ⟨p7, o7 + 0, none⟩)))] := by simpa only [List.length_set, Nat.add_zero] using hf
  refine wr (pz 1 hf fun a hf => ?_)
  refine wer ?_
  have H := H.rowOwn 0 rfl rfl
  obtain ⟨F', H⟩ := H.freezeOwn 0 rfl
  simp only [List.length_set, hlen] at H
  obtain rfl := oi hF
  refine rT hf ?_
  exact ⟨_, rfl, H.chg, mk_bool, _, H.ownAt 0 rfl, H.back⟩
theorem spec_l12Extend_ok {fu : Nat} : ∀ {w0 : World} {S : Nat → Prop} {F : List Nat} {cs : List Value} {v0_ : Value} {v2_ : Value} {v3_ : Value} {list : List Request} {blocks : List Block} {i : Int} {height : Int} {r : Bool × List Block} (hO : GoTy.own w0 F cs blocks) (hn : F.Nodup) (hSm : ∀ c ∈ F, ¬ S c) (h0 : VR w0 S v0_ list) (h2 : VR w0 S v2_ i) (h3 : VR w0 S v3_ height) (hF : spec_l12Extend fu list blocks i height = some r), Calls Try.prog 63 [v0_, (bif GoTy.agg (List Block) then .agg cs.toArray else cs.headD undef), v2_, v3_].toArray w0 fun e w' => ∃ v, e = .returned v ∧ (Chg w0 w' F ∧ VR w' (fun _ => True) v r.1 ∧ ∃ F', GoTy.own w' F' cs r.2 ∧ Back w0 w' F F') := by
  induction fu with
  | zero => intro w0 S F cs v0_ v2_ v3_ list blocks i height r hO hn hSm h0 h2 h3 hF; rw [spec_l12Extend] at hF; cases hF
  | succ fu ih => intro w0 S F cs v0_ v2_ v3_ list blocks i height r hO hn hSm h0 h2 h3 hF; rw [spec_l12Extend] at hF; exact spec_l12Extend_B_ok (rec_ := fun list blocks i height => spec_l12Extend fu list blocks i height) (fun hO hn hSm h0 h2 h3 hF => ih hO hn hSm h0 h2 h3 hF) hO hn hSm h0 h2 h3 hF
theorem spec_l12Exact_ok {S : Nat → Prop} {v0_ : Value} {list : List Request} {r : List Block × Int × Bool} (h0 : VR w0 S v0_ list) (hF : spec_l12Exact fu list = some r) :
    Calls Try.prog 28 [v0_].toArray w0 fun e w' => ∃ v, e = .returned v ∧ (Below w0.heap.size w0 w' ∧ ∃ F0, ∃ u0 u1 u2, v = .tuple #[u0, u1, u2] ∧ VO w' F0 u0 r.1 ∧ VR w' (St ⟨w0, []⟩ S [] [] [] true) u1 r.2.1 ∧ VR w' (St ⟨w0, []⟩ S [] [] [] true) u2 r.2.2 ∧ New w0 w' F0) := by
 obtain ⟨A, c, rfl, hl⟩ := VR_list h0
 have H := Mem.start ⟨w0, []⟩ S
 have H := H.pA hl
 refine en Try.func28 fun a hf => ?_
 rw [spec_l12Exact] at hF
 refine sqz (pz 3 hf fun a hf => ?_)
 refine wr (pz 1 hf fun a hf => ?_)
 obtain ⟨y, hy, hF⟩ := bs_ hF
 refine oc hf TF.cl62 (spec_l12Bound_ok (S := TT) (mk_list (H.rt 0 rfl)) hy) fun v w a hp hf => ?_
 obtain ⟨hb, v2, v3, rfl, hp2, hp3⟩ := hp
 obtain rfl := VR_int hp2
 obtain rfl := VR_int hp3
 have H := H.keep hb
 refine pz 5 hf fun a hf => ?_
 refine we (sqz (pz 2 hf fun a hf => ?_))
 refine wl_end (then_n ?_)
 obtain ⟨out', hB1, hF⟩ := bs_ hF
 have hf := hf.pn [0, 7]
 have H := H.lt_ [] [] [] [0]
 refine loopC (fun (s : Int) (a : Act) (w : World) => match s with | height => Fr a 29 [(0, (.slice A list.length c)), (7, (.int .i64 height))] ∧ Mem ⟨w0, []⟩ S [] [] [] [(false, MP.val [(.slice A list.length c)] (list : List Request))] w) (fun k (s : Int) => spec_l12Exact_L1 fu list k s = some out') (fun s => out' = Out.next s) y.1 fu hB1 ⟨hf, H⟩ (fun s h => by cases h) ?_ ?_
 ·rintro fk height a w hR1 hI
  replace hR1 : spec_l12Exact_L1 fu list (fk + 1) height = some out' := hR1
  rw [spec_l12Exact_L1] at hR1
  obtain ⟨hf, H⟩ := hI
  refine sq (sqz (pz 2 hf fun a hf => ?_))
  refine wl_end (then_n (ib hR1 hf (fun hc hR1 => ?_) fun hc hR1 => ?_))
  ·refine ws (pz 2 hf fun a hf => ?_)
   obtain ⟨l, hl_, hR1⟩ := bs_ hR1
   refine wl0 rfl (op_make (z0 := (({ First := 0, Count := 0 } : Block) : Block)) hf H Try.underlying35 TF.ai94 rfl (by decide) rfl rfl (Block_mk (x := ({ First := 0, Count := 0 } : Block))) hl_ (by decide) fun A2 c2 a w hf H => ?_)
   refine pz 1 hf fun a hf => ?_
   refine wr (pz 3 hf fun a hf => ?_)
   have H := H.rowOwn 0 rfl rfl
   obtain ⟨F, H⟩ := H.freezeOwn 0 rfl
   have H := H.lend 0 rfl
   obtain ⟨y2, hy2, hR1⟩ := bs_ hR1
   refine oc hf TF.cl63 (spec_l12Extend_ok (S := NO F) (F := F) (cs := [(.slice A2 l.length c2)]) (H.ownAt 0 rfl) H.diNd.1 (fun _ h1 h2 => h2 h1) (mk_list (H.argO (fun _ h => by cases h) (α := List Request) hl)) mk_int mk_int hy2) fun v4 w a hp4 hf => ?_
   obtain ⟨hch, hv, F2, ho, hbk⟩ := hp4
   obtain rfl := VR_bool hv
   have H := H.wrote rfl hch ho hbk
   have H := H.pA hl
   have H := H.lend 0 rfl
   refine wl_end (then_n (ib hR1 hf (fun hc2 hR1 => ?_) fun hc2 hR1 => ?_))
   ·refine sqz (pz 5 hf fun a hf => ?_)
    have hf := hf.pn [2, 3, 4]
    refine wl_end (then_n (wp_ret (blk_r (then_r (then_r (blk_r (then_r (then_r (?_)))))))))
    obtain rfl := oi hR1
    replace hF := on_ret hF
    obtain rfl := oi hF
    refine ret_3 hf rfl (rv_tmp hf rfl) (rv_tmp hf rfl) (rv_tmp hf rfl) ?_
    have hN := H.ends1
    exact ⟨_, rfl, H.bel, F2, _, _, _, rfl, (mko_list (H.ownAt 0 rfl)), mk_int, mk_bool, by first | exact hN | simpa using hN⟩
   ·refine wp_skip (blk_n (then_n (reg (pz 3 hf fun a hf => ?_))))
    refine wl_end ?_
    have hf := hf.pn [0, 7]
    have H := H.lt_ [] [] [false] [1]
    exact then_n ⟨w64 (height + 1), hR1, hf, H⟩
  ·refine wp_exit (then_x (then_x (blk_e (?_))))
   have hf := hf.pn [0, 7]
   have H := H.lt_ [] [] [] [0]
   exact ⟨height, (Option.some.inj hR1).symm, hf, H⟩
 rintro a w ⟨height2, rfl, hf, H⟩
 replace hF := on_next hF
 refine then_n (sq (reg (wl0 rfl (bl hf H 94 ([] : List Block) [] el0 fun A3 a w hf H => ?_))))
 refine pz 3 hf fun a hf => ?_
 refine wer ?_
 have H := H.rowOwn 0 rfl rfl
 obtain ⟨F3, H⟩ := H.freezeOwn 0 rfl
 have H := H.lend 0 rfl
 obtain rfl := oi hF
 refine ret_3 hf rfl (rv_tmp hf rfl) (rv_tmp hf rfl) (rv_tmp hf rfl) ?_
 have hN := H.ends1
 exact ⟨_, rfl, H.bel, F3, _, _, _, rfl, (mko_list (H.ownAt 0 rfl)), mk_int, mk_bool, by first | exact hN | simpa using hN⟩
theorem spec_l12Height_ok {S : Nat → Prop} {v0_ : Value} {blocks : List Block} {r : Int} (h0 : VR w0 S v0_ blocks) (hF : spec_l12Height fu blocks = some r) :
    Calls Try.prog 96 [v0_].toArray w0 fun e w' => ∃ v, e = .returned v ∧ (Below w0.heap.size w0 w' ∧ VR w' (St ⟨w0, []⟩ S [] [] [] true) v r) := by
 obtain ⟨A, c, rfl, hl⟩ := VR_list h0
 have H := Mem.start ⟨w0, []⟩ S
 have H := H.pA hl
 refine en Try.func96 fun a hf => ?_
 rw [spec_l12Height] at hF
 refine sqz (pz 1 hf fun a hf => ?_)
 refine wr (pz 1 hf fun a hf => ?_)
 refine we (sqz (pz 1 hf fun a hf => ?_))
 refine wl_end (then_n ?_)
 obtain ⟨out2, hB1, hF⟩ := bs_ hF
 have hf := hf.pn [0, 3, 4]
 have H := H.lt_ [] [] [] [0]
 refine loopC (fun (s : Int × Int) (a : Act) (w : World) => match s with | (out', i) => Fr a 25 [(0, (.slice A blocks.length c)), (3, (.int .i64 out')), (4, (.int .i64 i))] ∧ Mem ⟨w0, []⟩ S [] [] [] [(false, MP.val [(.slice A blocks.length c)] (blocks : List Block))] w) (fun k (s : Int × Int) => spec_l12Height_L1 fu blocks k s.1 s.2 = some out2) (fun s => out2 = s) (0, 0) fu hB1 ⟨hf, H⟩ (fun s h => by cases h) ?_ ?_
 ·rintro fk ⟨out', i⟩ a w hR1 hI
  replace hR1 : spec_l12Height_L1 fu blocks (fk + 1) out' i = some out2 := hR1
  rw [spec_l12Height_L1] at hR1
  obtain ⟨hf, H⟩ := hI
  refine sq (sqz (pz 4 hf fun a hf => ?_))
  refine wl_end (then_n (ib hR1 hf (fun hc hR1 => ?_) fun hc hR1 => ?_))
  ·refine wp_skip (then_n (sq (wp_block (dw [] 14 fun w hb => ?_))))
   have H := H.keep hb
   refine zp 0 hf trivial fun a hf => ?_
   refine zp 1 hf trivial fun a hf => ?_
   refine zp 2 hf trivial fun a hf => ?_
   obtain ⟨e, he, hR1⟩ := bs_ hR1
   obtain ⟨p, o, cs, hx, hr, H⟩ := pre_iaddr H Try.underlying35 TF.sz94 0 rfl he
   refine tP 3 rfl rfl rfl rfl hf (by kernel_rfl) (fun _ => trivial) (fun w => rq_iaddrE hf rfl rfl rfl hx w) fun a hf => ?_
   obtain rfl := Block_cells hr
   refine zp 4 hf trivial fun a hf => ?_
   refine strT (H.lt_ [] [] [] [0]) (fun w H => trivial) fun hS => ?_
   refine zS 5 [] rfl rfl rfl rfl hf hS (fun w H => rq_loadI hf H TF.ls3 0 0 rfl rfl rfl) fun a hf => ?_
   refine zp 6 hf hS fun a hf => ?_
   refine zp 7 hf hS fun a hf => ?_
   obtain ⟨e2, he2, hR1⟩ := bs_ hR1
   obtain ⟨p2, o2, cs2, hx2, hr2, H⟩ := pre_iaddr H Try.underlying35 TF.sz94 1 rfl he2
   refine zP 8 rfl rfl rfl rfl hf hS (fun w => rq_iaddrE hf rfl rfl rfl hx2 w) fun a hf => ?_
   obtain rfl := Block_cells hr2
   refine zp 9 hf hS fun a hf => ?_
   refine strT (H.lt_ [] [] [] [0, 1]) (fun w H => H.lt_ [] [] [] [1]) fun hS => ?_
   refine zS 10 [] rfl rfl rfl rfl hf hS (fun w H => rq_loadI hf H TF.ls3 0 1 rfl rfl rfl) fun a hf => ?_
   refine zp 11 hf hS fun a hf => ?_
   obtain ⟨y, hy, hR1⟩ := bs_ hR1
   refine nn 12 rfl (oC hf TF.cl112 (spec_l1Most_ok (S := TT) mk_int mk_int hy) fun v w a hp hf => ?_)
   obtain ⟨hb, hp⟩ := hp
   obtain rfl := VR_int hp
   have H := H.keep hb
   have hS := H.lt_ [] [] [] [0, 1]
   refine aS hS ?_
   refine zp 13 hf hS fun a hf => ?_
   refine dk ?_
   have hf := hf.pn [0, 3, 4]
   refine blk_n (then_n (reg (pz 3 hf fun a hf => ?_)))
   refine wl_end ?_
   have hf := hf.pn [0, 3, 4]
   have H := H.lt_ [] [] [] [2]
   exact then_n ⟨(y, w64 (i + 1)), hR1, hf, H⟩
  ·refine wp_exit (then_x (then_x (blk_e (?_))))
   have hf := hf.pn [0, 3, 4]
   have H := H.lt_ [] [] [] [0]
   exact ⟨(out', i), (Option.some.inj hR1).symm, hf, H⟩
 rintro a w ⟨⟨out3, i2⟩, rfl, hf, H⟩
 try dsimp only at hF
 refine then_n (sqz (pz 2 hf fun a hf => ?_))
 refine wer ?_
 obtain rfl := oi hF
 refine rT hf ?_
 exact ⟨_, rfl, H.bel, mk_int⟩
theorem spec_l12Greedy_ok {S : Nat → Prop} {v0_ : Value} {v1_ : Value} {list : List Request} {order : List Int} {r : List Block × Int × Bool} (h0 : VR w0 S v0_ list) (h1 : VR w0 S v1_ order) (hF : spec_l12Greedy fu list order = some r) :
    Calls Try.prog 64 [v0_, v1_].toArray w0 fun e w' => ∃ v, e = .returned v ∧ (Below w0.heap.size w0 w' ∧ ∃ F0, ∃ u0 u1 u2, v = .tuple #[u0, u1, u2] ∧ VO w' F0 u0 r.1 ∧ VR w' (St ⟨w0, []⟩ S [] [] [] true) u1 r.2.1 ∧ VR w' (St ⟨w0, []⟩ S [] [] [] true) u2 r.2.2 ∧ New w0 w' F0) := by
 obtain ⟨A, c, rfl, hl⟩ := VR_list h0
 obtain ⟨A2, c2, rfl, hl2⟩ := VR_list h1
 have H := Mem.start ⟨w0, []⟩ S
 have H := H.pA hl
 have H := H.pA hl2
 refine en Try.func64 fun a hf => ?_
 rw [spec_l12Greedy] at hF
 refine sqz (pz 3 hf fun a hf => ?_)
 refine wr (pz 2 hf fun a hf => ?_)
 obtain ⟨l, hl_, hF⟩ := bs_ hF
 refine wl0 rfl (op_make (z0 := (({ First := 0, Count := 0 } : Block) : Block)) hf H Try.underlying35 TF.ai94 rfl (by decide) rfl rfl (Block_mk (x := ({ First := 0, Count := 0 } : Block))) hl_ (by decide) fun A3 c3 a w hf H => ?_)
 refine pz 1 hf fun a hf => ?_
 refine we (sqz (pz 1 hf fun a hf => ?_))
 refine wl_end (then_n ?_)
 obtain ⟨out', hB1, hF⟩ := bs_ hF
 have hf := hf.pn [0, 1, 7, 8]
 have H := H.lt_ [] [true] [] [0, 1]
 refine loopC (fun (s : List Block × Int) (a : Act) (w : World) => match s with | (blocks, m) => ∃ (A4 : Option Addr) (c4 : Nat) (E : Go.TypeId), Fr a 53 [(0, (.slice A list.length c)), (1, (.slice A2 order.length c2)), (7, (.slice A4 blocks.length c4)), (8, (.int .i64 m))] ∧ Mem ⟨w0, []⟩ S [] [⟨.sh true, E, A4, c4, (blocks : List Block)⟩] [] [(false, MP.val [(.slice A2 order.length c2)] (order : List Int)), (false, MP.val [(.slice A list.length c)] (list : List Request))] w) (fun k (s : List Block × Int) => spec_l12Greedy_L1 fu list order k s.1 s.2 = some out') (fun s => out' = Out.next s) (l, 0) fu hB1 ⟨A3, c3, 94, hf, H⟩ (fun s h => by cases h) ?_ ?_
 ·rintro fk ⟨blocks, m⟩ a w hR1 hI
  replace hR1 : spec_l12Greedy_L1 fu list order (fk + 1) blocks m = some out' := hR1
  rw [spec_l12Greedy_L1] at hR1
  obtain ⟨A4, c4, E, hf, H⟩ := hI
  refine sq (sqz (pz 4 hf fun a hf => ?_))
  refine wl_end (then_n (ib hR1 hf (fun hc hR1 => ?_) fun hc hR1 => ?_))
  ·refine ws (pz 2 hf fun a hf => ?_)
   obtain ⟨e, he, hR1⟩ := bs_ hR1
   refine wl0 rfl (op_iaddr hf H Try.underlying31 TF.sz3 0 rfl rfl rfl he (by decide) fun p o cs a hf hr H => ?_)
   obtain rfl := hr
   refine oq hf (rq_loadI hf H TF.ls3 0 0 rfl rfl rfl) fun a hf => ?_
   refine pz 1 hf fun a hf => ?_
   refine wl_end (then_n (sq (dw [] 11 fun w hb => ?_)))
   have H := H.keep hb
   refine zp 0 hf trivial fun a hf => ?_
   refine zp 1 hf trivial fun a hf => ?_
   refine zp 2 hf trivial fun a hf => ?_
   refine zp 4 hf trivial fun a hf => ?_
   refine zp 5 hf trivial fun a hf => ?_
   obtain ⟨e2, he2, hR1⟩ := bs_ hR1
   obtain ⟨p2, o2, cs2, hx, hr2, H⟩ := pre_iaddr H Try.underlying28 TF.sz89 2 rfl he2
   refine tP 6 rfl rfl rfl rfl hf (by kernel_rfl) (fun _ => trivial) (fun w => rq_iaddrE hf rfl rfl rfl hx w) fun a hf => ?_
   obtain ⟨A5, c5, rfl, hl3⟩ := Request_cells hr2
   have H := H.pF hl3
   refine zp 7 hf trivial fun a hf => ?_
   refine strT (H.lt_ [] [false] [] [1]) (fun w H => trivial) fun hS => ?_
   refine zS 8 [] rfl rfl rfl rfl hf hS (fun w H => rq_loadI hf H TF.ls3 0 2 rfl rfl rfl) fun a hf => ?_
   obtain ⟨y, hy, hR1⟩ := bs_ hR1
   refine nn 3 rfl (oC hf TF.cl95 (spec_l12Taken_ok (S := TT) (mk_list (H.rt 4 rfl)) (mk_list (H.rowTrue 0 rfl)) mk_int hy) fun v w a hp hf => ?_)
   obtain ⟨hb, hp⟩ := hp
   obtain rfl := VR_int hp
   have H := H.keep hb
   have hS := H.lt_ [] [false] [] [1]
   refine aS hS ?_
   obtain ⟨y2, hy2, hR1⟩ := bs_ hR1
   refine nn 9 rfl (oC hf TF.cl94 (spec_l8Fits_ok (S := TT) mk_int mk_int hy2) fun v2 w a hp2 hf => ?_)
   obtain ⟨hb2, F, hp3, hN⟩ := hp2
   obtain ⟨A6, c6, rfl, hl4⟩ := VO_list hp3
   have H := H.aO1 hb2 hN hl4
   have H := H.lend 0 rfl
   have hS := H.lt_ [] [false] [false] [2]
   refine aS hS ?_
   refine zp 10 hf hS fun a hf => ?_
   refine dk ?_
   have hf := hf.pn [0, 1, 7, 8, 9, 10]
   refine then_n (sq (sqz (pz 3 hf fun a hf => ?_)))
   refine wl_end (then_n (ib hR1 hf (fun hc2 hR1 => ?_) fun hc2 hR1 => ?_))
   ·refine sq (reg (wl0 rfl (bl hf H 94 ([] : List Block) [] el0 fun A7 a w hf H => ?_)))
    refine pz 3 hf fun a hf => ?_
    refine wl_end (then_n (wp_ret (then_r (blk_r (then_r (then_r (blk_r (then_r (then_r (?_))))))))))
    have H := H.rowOwn 0 rfl rfl
    obtain ⟨F3, H⟩ := H.freezeOwn 0 rfl
    have H := H.lend 0 rfl
    obtain rfl := oi hR1
    replace hF := on_ret hF
    obtain rfl := oi hF
    refine ret_3 hf rfl (rv_tmp hf rfl) (rv_tmp hf rfl) (rv_tmp hf rfl) ?_
    have hN := H.ends1
    exact ⟨_, rfl, H.bel, F3, _, _, _, rfl, (mko_list (H.ownAt 0 rfl)), mk_int, mk_bool, by first | exact hN | simpa using hN⟩
   ·refine wp_skip (then_n (dw [12] 13 fun w hb => ?_))
    have H := H.keep hb
    refine zp 0 hf trivial fun a hf => ?_
    refine zp 1 hf trivial fun a hf => ?_
    refine zp 2 hf trivial fun a hf => ?_
    obtain ⟨e3, he3, hR1⟩ := bs_ hR1
    obtain ⟨p3, o3, cs3, hx2, hr3, H⟩ := pre_iaddr H Try.underlying31 TF.sz3 0 rfl he3
    refine tP 3 rfl rfl rfl rfl hf (by kernel_rfl) (fun _ => trivial) (fun w => rq_iaddrE hf rfl rfl rfl hx2 w) fun a hf => ?_
    obtain rfl := hr3
    refine strT (H.lt_ [] [false] [false] [0]) (fun w H => trivial) fun hS => ?_
    refine zS 4 [4, 10, 11, 12] rfl rfl rfl rfl hf hS (fun w H => rq_loadI hf H TF.ls3 0 0 rfl rfl rfl) fun a hf => ?_
    refine zp 5 hf hS fun a hf => ?_
    refine zp 6 hf hS fun a hf => ?_
    obtain ⟨e4, he4, hR1⟩ := bs_ hR1
    obtain ⟨p4, o4, cs4, hx3, hr4, H⟩ := pre_iaddr H Try.underlying28 TF.sz89 6 rfl he4
    refine zP 7 rfl rfl rfl rfl hf hS (fun w => rq_iaddrE hf rfl rfl rfl hx3 w) fun a hf => ?_
    obtain ⟨A8, c7, rfl, hl5⟩ := Request_cells hr4
    have H := H.pF hl5
    refine zp 8 hf hS fun a hf => ?_
    refine strT (H.lt_ [] [false] [false] [1, 2]) (fun w H => H.lt_ [] [] [] [1]) fun hS => ?_
    refine zS 9 [9, 10, 11, 12] rfl rfl rfl rfl hf hS (fun w H => rq_loadI hf H TF.ls3 0 2 rfl rfl rfl) fun a hf => ?_
    refine zP 10 rfl rfl rfl rfl hf hS (fun w => rq_build hf (cs := [(.int .i64 e3), (.int .i64 e4.Count)]) rfl (fun w => by kernel_rfl)) fun a hf => ?_
    obtain ⟨e5, he5, hR1⟩ := bs_ hR1
    refine nn 11 rfl (op_iaddrR hf H Try.underlying35 TF.sz94 0 rfl rfl rfl he5 (by decide) fun p5 o5 cs5 a hf hA hr5 hk => ?_)
    obtain rfl := Block_cells hr5
    have hS := H.lt_ [] [false] [false] [1, 2]
    refine aS hS ?_
    refine nn 12 rfl (op_storeR (e' := ({ First := e3, Count := e4.Count } : Block)) (o := o5) (off := 0) hf H TF.sz94 0 rfl rfl rfl rfl rfl (nle rfl) rfl hA he5 (st_full (Block_mk (x := ({ First := e3, Count := e4.Count } : Block)))) fun w H => ?_)
    replace hf : Fr a 53 [(0, (.slice A list.length c)), (1, (.slice A2 order.length c2)), (7, (.slice A4 blocks.length c4)), (8, (.int .i64 m)), (9, (.int .i64 e)), (10, (.slice A6 y2.length c6)), (38, (.slice A4 blocks.length c4)), (39, (.int .i64 e)), (40, (.slice A6 y2.length c6)), (41, (.pointer (some ⟨p3, o3 + 0, none⟩))), (42, (.int .i64 e3)), (43, (.slice A list.length c)), (44, (.int .i64 e)), (45, (.pointer (some ⟨p4, o4 + 0, none⟩))), (46, (.pointer (some ⟨p4, o4 + 2, none⟩))), (47, (.int .i64 e4.Count)), (48, (.agg #[(.int .i64 e3), (.int .i64 e4.Count)])), (49, (.pointer (some ⟨p5, o5 + 0, none⟩)))] := hf.prune [0, 1, 7, 8, 9, 10, 38, 39, 40, 41, 42, 43, 44, 45, 46, 47, 48, 49] rfl
    replace hf : Fr a 53 [(0, (.slice A list.length c)), (1, (.slice A2 order.length c2)), (7, (.slice A4 (blocks.set (e : Int).toNat ({ First := e3, Count := e4.Count } : Block)).length c4)), (8, (.int .i64 m)), (9, (.int .i64 e)), (10, (.slice A6 y2.length c6)), (38, (.slice A4 (blocks.set (e : Int).toNat ({ First := e3, Count := e4.Count } : Block)).length c4)), (39, (.int .i64 e)), (40, (.slice A6 y2.length c6)), (41, (.pointer (some ⟨p3, o3 + 0, none⟩))), (42, (.int .i64 e3)), (43, (.slice A list.length c)), (44, (.int .i64 e)), (45, (.pointer (some ⟨p4, o4 + 0, none⟩))), (46, (.pointer (some ⟨p4, o4 + 2, none⟩))), (47, (.int .i64 e4.Count)), (48, (.agg #[(.int .i64 e3), (.int .i64 e4.Count)])), (49, (.pointer (some ⟨p5, o5 + 0, none⟩)))] := by simpa only [List.length_set, Nat.add_zero] using hf
    refine ⟨fun h => absurd h (by decide), ?_⟩
    refine dk ?_
    have hf := hf.pn [0, 1, 7, 8]
    refine blk_n (then_n (reg (pz 3 hf fun a hf => ?_)))
    refine wl_end ?_
    have hf := hf.pn [0, 1, 7, 8]
    have H := H.lt_ [] [true] [false] [7, 8]
    exact then_n ⟨(blocks.set (e : Int).toNat ({ First := e3, Count := e4.Count } : Block), w64 (m + 1)), hR1, A4, c4, E, hf, H⟩
  ·refine wp_exit (then_x (then_x (blk_e (?_))))
   have hf := hf.pn [0, 1, 7, 8]
   have H := H.lt_ [] [true] [] [0, 1]
   exact ⟨(blocks, m), (Option.some.inj hR1).symm, A4, c4, E, hf, H⟩
 rintro a w ⟨⟨blocks2, m2⟩, rfl, A9, c8, E2, hf, H⟩
 replace hF := on_next hF
 try dsimp only at hF
 refine then_n (sqz (pz 2 hf fun a hf => ?_))
 obtain ⟨y3, hy3, hF⟩ := bs_ hF
 refine oc hf TF.cl96 (spec_l12Height_ok (S := TT) (mk_list (H.rowTrue 0 rfl)) hy3) fun v3 w a hp4 hf => ?_
 obtain ⟨hb3, hp4⟩ := hp4
 obtain rfl := VR_int hp4
 have H := H.keep hb3
 refine pz 3 hf fun a hf => ?_
 refine wer ?_
 have H := H.rowOwn 0 rfl rfl
 obtain ⟨F4, H⟩ := H.freezeOwn 0 rfl
 have H := H.lend 0 rfl
 obtain rfl := oi hF
 refine ret_3 hf rfl (rv_tmp hf rfl) (rv_tmp hf rfl) (rv_tmp hf rfl) ?_
 have hN := H.ends1
 exact ⟨_, rfl, H.bel, F4, _, _, _, rfl, (mko_list (H.ownAt 0 rfl)), mk_int, mk_bool, by first | exact hN | simpa using hN⟩
theorem spec_l12First_B_ok {fu : Nat} {rec_ : (List Request) → (List Int) → (Int) → Option (List Int × Bool)} (ih : ∀ {w0 : World} {S : Nat → Prop} {v0_ : Value} {v1_ : Value} {v2_ : Value} {list : List Request} {order : List Int} {height : Int} {r : List Int × Bool} (h0 : VR w0 S v0_ list) (h1 : VR w0 S v1_ order) (h2 : VR w0 S v2_ height) (hF : rec_ list order height = some r), Calls Try.prog 29 [v0_, v1_, v2_].toArray w0 fun e w' => ∃ v, e = .returned v ∧ (Below w0.heap.size w0 w' ∧ ∃ u0 u1, v = .tuple #[u0, u1] ∧ (VR w' (St ⟨w0, []⟩ S [] [] [] true) u0 r.1 ∨ (u0 = v1_ ∧ r.1 = order)) ∧ VR w' (St ⟨w0, []⟩ S [] [] [] true) u1 r.2)) {w0 : World} {S : Nat → Prop} {v0_ : Value} {v1_ : Value} {v2_ : Value} {list : List Request} {order : List Int} {height : Int} {r : List Int × Bool} (h0 : VR w0 S v0_ list) (h1 : VR w0 S v1_ order) (h2 : VR w0 S v2_ height) (hF : spec_l12First_B fu rec_ list order height = some r) :
    Calls Try.prog 29 [v0_, v1_, v2_].toArray w0 fun e w' => ∃ v, e = .returned v ∧ (Below w0.heap.size w0 w' ∧ ∃ u0 u1, v = .tuple #[u0, u1] ∧ (VR w' (St ⟨w0, []⟩ S [] [] [] true) u0 r.1 ∨ (u0 = v1_ ∧ r.1 = order)) ∧ VR w' (St ⟨w0, []⟩ S [] [] [] true) u1 r.2) := by
 obtain ⟨A, c, rfl, hl⟩ := VR_list h0
 obtain ⟨A2, c2, rfl, hl2⟩ := VR_list h1
 obtain rfl := VR_int h2
 have H := Mem.start ⟨w0, []⟩ S
 have H := H.pA hl
 have H := H.pA hl2
 refine en Try.func29 fun a hf => ?_
 rw [spec_l12First_B] at hF
 refine sqz (pz 2 hf fun a hf => ?_)
 refine we (sqz (pz 5 hf fun a hf => ?_))
 refine wl_end (then_n (ib hF hf (fun hc hF => ?_) fun hc hF => ?_))
 ·refine sqz (pz 2 hf fun a hf => ?_)
  obtain ⟨y, hy, hF⟩ := bs_ hF
  refine oc hf TF.cl64 (spec_l12Greedy_ok (S := TT) (mk_list (H.rt 1 rfl)) (mk_list (H.rt 0 rfl)) hy) fun v w a hp hf => ?_
  obtain ⟨hb, F, v2, v3, v4, rfl, hp2, hp3, hp4, hN⟩ := hp
  obtain ⟨A3, c3, rfl, hl3⟩ := VO_list hp2
  obtain rfl := VR_int hp3
  obtain rfl := VR_bool hp4
  have H := H.aO1 hb hN hl3
  have H := H.lend 0 rfl
  refine pz 7 hf fun a hf => ?_
  have hf := hf.pn [1, 2, 9, 10]
  refine wr (pz 3 hf fun a hf => ?_)
  refine iteB hF (fun hc2 hF => ?_) fun hc2 hF => ?_
  ·have hf := hf.lit 28 rfl hc2
   refine pz 6 hf fun a hf => ?_
   refine wl_end (then_n (wp_ret (then_r (?_))))
   obtain rfl := oi hF
   refine ret_2 hf rfl (rv_tmp hf rfl) (rv_tmp hf rfl) ?_
   exact ⟨_, rfl, H.bel, _, _, rfl, (.inr ⟨rfl, rfl⟩), mk_bool⟩
  ·have hf := hf.lit 28 rfl hc2
   refine pz 6 hf fun a hf => ?_
   refine wl_end (then_n (wp_ret (then_r (?_))))
   obtain rfl := oi hF
   refine ret_2 hf rfl (rv_tmp hf rfl) (rv_tmp hf rfl) ?_
   exact ⟨_, rfl, H.bel, _, _, rfl, (.inr ⟨rfl, rfl⟩), mk_bool⟩
 ·refine wp_skip (then_n (sq (sqz (pz 1 hf fun a hf => ?_))))
  refine wl_end (then_n ?_)
  obtain ⟨out', hB1, hF⟩ := bs_ hF
  have hf := hf.pn [0, 1, 2, 11]
  have H := H.lt_ [] [] [] [0, 1]
  refine loopC (fun (s : Int) (a : Act) (w : World) => match s with | i => Fr a 56 [(0, (.slice A list.length c)), (1, (.slice A2 order.length c2)), (2, (.int .i64 height)), (11, (.int .i64 i))] ∧ Mem ⟨w0, []⟩ S [] [] [] [(false, MP.val [(.slice A2 order.length c2)] (order : List Int)), (false, MP.val [(.slice A list.length c)] (list : List Request))] w) (fun k (s : Int) => spec_l12First_L1 fu list order height rec_ k s = some out') (fun s => out' = Out.next s) 0 fu hB1 ⟨hf, H⟩ (fun s h => by cases h) ?_ ?_
  ·rintro fk i a w hR1 hI
   replace hR1 : spec_l12First_L1 fu list order height rec_ (fk + 1) i = some out' := hR1
   rw [spec_l12First_L1] at hR1
   obtain ⟨hf, H⟩ := hI
   refine sq (sqz (pz 4 hf fun a hf => ?_))
   refine wl_end (then_n (ib hR1 hf (fun hc3 hR1 => ?_) fun hc3 hR1 => ?_))
   ·refine wp_skip (then_n (sq (wp_block (sq (sqz (pz 2 hf fun a hf => ?_))))))
    obtain ⟨y2, hy2, hR1⟩ := bs_ hR1
    refine oc hf TF.cl65 (spec_l1Has_ok (S := TT) (mk_list (H.rt 0 rfl)) mk_int hy2) fun v5 w a hp5 hf => ?_
    obtain ⟨hb2, hp5⟩ := hp5
    obtain rfl := VR_bool hp5
    have H := H.keep hb2
    refine wl_end (then_n (ib hR1 hf (fun hc4 hR1 => ?_) fun hc4 hR1 => ?_))
    ·refine wp_exit (then_x (blk_e (?_)))
     refine then_n (reg (pz 3 hf fun a hf => ?_))
     refine wl_end ?_
     have hf := hf.pn [0, 1, 2, 11]
     have H := H.lt_ [] [] [] [0, 1]
     exact then_n ⟨w64 (i + 1), hR1, hf, H⟩
    ·refine wp_skip (then_n (sqz (pz 2 hf fun a hf => ?_)))
     obtain ⟨y3, hy3, hR1⟩ := bs_ hR1
     refine oc hf TF.cl66 (spec_l1Own_ok (S := TT) (mk_list (H.rt 0 rfl)) hy3) fun v6 w a hp6 hf => ?_
     obtain ⟨hb3, F3, hp7, hN2⟩ := hp6
     obtain ⟨A4, c4, rfl, hl4⟩ := VO_list hp7
     have H := H.aO1 hb3 hN2 hl4
     have H := H.lend 0 rfl
     refine pz 1 hf fun a hf => ?_
     refine wl0 rfl (bl hf H 3 ([i] : List Int) [(.int .i64 i)] (el1 (y := i) (rfl)) fun A5 a w hf H => ?_)
     obtain ⟨Fs, E, H, -⟩ := H.thaw rfl
     have H := H.rowSh 0 rfl
     have H := H.pA hl
     have H := H.pA hl2
     obtain ⟨l, hl_, hR1⟩ := bs_ hR1
     refine wl0 rfl (op_appR hf H Try.underlying31 TF.ai3 rfl (by decide) 0 1 rfl rfl rfl rfl (.inr rfl) hl_ (by decide) fun E2 A6 c5 a w hf H => ?_)
     refine pz 1 hf fun a hf => ?_
     have H := H.freeze 0 rfl
     obtain ⟨y4, hy4, hR1⟩ := bs_ hR1
     refine oc hf TF.cl29 (ih (S := TT) (mk_list (H.rt 2 rfl)) (mk_list (H.rt 0 rfl)) mk_int hy4) fun v7 w a hp8 hf => ?_
     obtain ⟨hb4, v8, v9, rfl, hp9, hp10⟩ := hp8
     replace hp9 := H.thru hb4 0 rfl hp9
     obtain ⟨A7, c6, rfl, hl5⟩ := VR_list hp9
     obtain rfl := VR_bool hp10
     have H := H.keep hb4
     have H := H.pT hl5
     refine pz 5 hf fun a hf => ?_
     have hf := hf.pn [0, 1, 2, 11, 12, 13]
     refine wr (pz 1 hf fun a hf => ?_)
     refine wl_end (then_n (ib hR1 hf (fun hc5 hR1 => ?_) fun hc5 hR1 => ?_))
     ·refine sqz (pz 3 hf fun a hf => ?_)
      refine wl_end (then_n (wp_ret (blk_r (then_r (then_r (blk_r (then_r (then_r (?_)))))))))
      obtain rfl := oi hR1
      replace hF := on_ret hF
      obtain rfl := oi hF
      refine ret_2 hf rfl (rv_tmp hf rfl) (rv_tmp hf rfl) ?_
      exact ⟨_, rfl, H.bel, _, _, rfl, (.inl (mk_list (rep_end (α := List Int) (H.get 0 rfl)))), mk_bool⟩
     ·refine wp_skip (blk_n (then_n (reg (pz 3 hf fun a hf => ?_))))
      refine wl_end ?_
      have hf := hf.pn [0, 1, 2, 11]
      have H := H.lt_ [] [false] [] [2, 3]
      exact then_n ⟨w64 (i + 1), hR1, hf, H⟩
   ·refine wp_exit (then_x (then_x (blk_e (?_))))
    have hf := hf.pn [0, 1, 2, 11]
    have H := H.lt_ [] [] [] [0, 1]
    exact ⟨i, (Option.some.inj hR1).symm, hf, H⟩
  rintro a w ⟨i2, rfl, hf, H⟩
  replace hF := on_next hF
  refine then_n (sqz (pz 3 hf fun a hf => ?_))
  refine wer ?_
  obtain rfl := oi hF
  refine ret_2 hf rfl (rv_tmp hf rfl) (rv_tmp hf rfl) ?_
  exact ⟨_, rfl, H.bel, _, _, rfl, (.inr ⟨rfl, rfl⟩), mk_bool⟩
theorem spec_l12First_ok {fu : Nat} : ∀ {w0 : World} {S : Nat → Prop} {v0_ : Value} {v1_ : Value} {v2_ : Value} {list : List Request} {order : List Int} {height : Int} {r : List Int × Bool} (h0 : VR w0 S v0_ list) (h1 : VR w0 S v1_ order) (h2 : VR w0 S v2_ height) (hF : spec_l12First fu list order height = some r), Calls Try.prog 29 [v0_, v1_, v2_].toArray w0 fun e w' => ∃ v, e = .returned v ∧ (Below w0.heap.size w0 w' ∧ ∃ u0 u1, v = .tuple #[u0, u1] ∧ (VR w' (St ⟨w0, []⟩ S [] [] [] true) u0 r.1 ∨ (u0 = v1_ ∧ r.1 = order)) ∧ VR w' (St ⟨w0, []⟩ S [] [] [] true) u1 r.2) := by
  induction fu with
  | zero => intro w0 S v0_ v1_ v2_ list order height r h0 h1 h2 hF; rw [spec_l12First] at hF; cases hF
  | succ fu ih => intro w0 S v0_ v1_ v2_ list order height r h0 h1 h2 hF; rw [spec_l12First] at hF; exact spec_l12First_B_ok (rec_ := fun list order height => spec_l12First fu list order height) (fun h0 h1 h2 hF => ih h0 h1 h2 hF) h0 h1 h2 hF
theorem spec_GreedyOrder_ok {S : Nat → Prop} {v0_ : Value} {v1_ : Value} {n' : Network} {list : List Request} {r : List Int × Bool} (h0 : VR w0 S v0_ n') (h1 : VR w0 S v1_ list) (hF : spec_GreedyOrder fu n' list = some r) :
    Calls Try.prog 8 [v0_, v1_].toArray w0 fun e w' => ∃ v, e = .returned v ∧ (Below w0.heap.size w0 w' ∧ ∃ u0 u1, v = .tuple #[u0, u1] ∧ VR w' (St ⟨w0, []⟩ S [] [] [] true) u0 r.1 ∧ VR w' (St ⟨w0, []⟩ S [] [] [] true) u1 r.2) := by
 obtain ⟨A, c, A2, c2, rfl, hl, hl2⟩ := Network_open h0
 obtain ⟨A3, c3, rfl, hl3⟩ := VR_list h1
 have H := Mem.start ⟨w0, []⟩ S
 have H := H.pA hl
 have H := H.pA hl2
 have H := H.pA hl3
 refine en Try.func8 fun a hf => ?_
 rw [spec_GreedyOrder] at hF
 refine bx hf H fun b' a w hf H => ?_
 refine pz 2 hf fun a hf => ?_
 refine wl_end (then_n (sq (sq (reg (lN 0 hf H TF.la27 fun a hf => ?_)))))
 refine pz 1 hf fun a hf => ?_
 obtain ⟨y, hy, hF⟩ := bs_ hF
 refine oc hf TF.cl27 (spec_l12Good_ok (S := TT) (Network_mkv (x := n') (H.rt 2 rfl) (H.rt 1 rfl)) (mk_list (H.rt 0 rfl)) hy) fun v w a hp hf => ?_
 obtain ⟨hb, hp⟩ := hp
 obtain rfl := VR_bool hp
 have H := H.keep hb
 refine pz 1 hf fun a hf => ?_
 refine wl_end (then_n (ib hF hf (fun hc hF => ?_) fun hc hF => ?_))
 ·refine sq (reg (wl0 rfl (bl hf H 3 ([] : List Int) [] el0 fun A4 a w hf H => ?_)))
  refine pz 2 hf fun a hf => ?_
  refine wl_end (then_n (wp_ret (then_r (?_))))
  have H := H.freeze 0 rfl
  obtain rfl := oi hF
  refine ret_2 hf rfl (rv_tmp hf rfl) (rv_tmp hf rfl) ?_
  exact ⟨_, rfl, H.bel, _, _, rfl, (mk_list (rep_end (α := List Int) (H.get 0 rfl))), mk_bool⟩
 ·refine wp_skip (then_n (sqz (pz 1 hf fun a hf => ?_)))
  obtain ⟨y2, hy2, hF⟩ := bs_ hF
  refine oc hf TF.cl28 (spec_l12Exact_ok (S := TT) (mk_list (H.rt 0 rfl)) hy2) fun v2 w a hp2 hf => ?_
  obtain ⟨hb2, F, v3, v4, v5, rfl, hp3, hp4, hp5, hN⟩ := hp2
  obtain ⟨A5, c4, rfl, hl4⟩ := VO_list hp3
  obtain rfl := VR_int hp4
  obtain rfl := VR_bool hp5
  have H := H.aO1 hb2 hN hl4
  have H := H.lend 0 rfl
  refine pz 7 hf fun a hf => ?_
  have hf := hf.pn [1, 7, 8]
  refine we (sqz (pz 2 hf fun a hf => ?_))
  refine wl_end (then_n (ib hF hf (fun hc2 hF => ?_) fun hc2 hF => ?_))
  ·refine sq (reg (wl0 rfl (bl hf H 3 ([] : List Int) [] el0 fun A6 a w hf H => ?_)))
   refine pz 2 hf fun a hf => ?_
   refine wl_end (then_n (wp_ret (then_r (?_))))
   have H := H.freeze 0 rfl
   obtain rfl := oi hF
   refine ret_2 hf rfl (rv_tmp hf rfl) (rv_tmp hf rfl) ?_
   exact ⟨_, rfl, H.bel, _, _, rfl, (mk_list (rep_end (α := List Int) (H.get 0 rfl))), mk_bool⟩
  ·refine wp_skip (then_n (sqz (pz 1 hf fun a hf => ?_)))
   refine wl0 rfl (bl hf H 3 ([] : List Int) [] el0 fun A7 a w hf H => ?_)
   refine pz 1 hf fun a hf => ?_
   have H := H.freeze 0 rfl
   obtain ⟨y3, hy3, hF⟩ := bs_ hF
   refine oc hf TF.cl29 (spec_l12First_ok (S := TT) (mk_list (H.rt 2 rfl)) (mk_list (H.rt 0 rfl)) mk_int hy3) fun v6 w a hp6 hf => ?_
   obtain ⟨hb3, v7, v8, rfl, hp7, hp8⟩ := hp6
   replace hp7 := H.thru hb3 0 rfl hp7
   obtain ⟨A8, c5, rfl, hl5⟩ := VR_list hp7
   obtain rfl := VR_bool hp8
   have H := H.keep hb3
   have H := H.pT hl5
   refine pz 5 hf fun a hf => ?_
   refine we (sqz (pz 2 hf fun a hf => ?_))
   have hf := hf.pn [9, 33]
   refine wl_end (then_n (ib hF hf (fun hc3 hF => ?_) fun hc3 hF => ?_))
   ·refine sq (reg (wl0 rfl (bl hf H 3 ([] : List Int) [] el0 fun A9 a w hf H => ?_)))
    refine pz 2 hf fun a hf => ?_
    refine wl_end (then_n (wp_ret (then_r (?_))))
    have H := H.freeze 0 rfl
    obtain rfl := oi hF
    refine ret_2 hf rfl (rv_tmp hf rfl) (rv_tmp hf rfl) ?_
    exact ⟨_, rfl, H.bel, _, _, rfl, (mk_list (rep_end (α := List Int) (H.get 0 rfl))), mk_bool⟩
   ·refine wp_skip (then_n (sqz (pz 3 hf fun a hf => ?_)))
    refine wer ?_
    obtain rfl := oi hF
    refine ret_2 hf rfl (rv_tmp hf rfl) (rv_tmp hf rfl) ?_
    exact ⟨_, rfl, H.bel, _, _, rfl, (mk_list (rep_end (α := List Int) (H.get 0 rfl))), mk_bool⟩
theorem impl_AssignGreedy_ok {S : Nat → Prop} {v0_ : Value} {v1_ : Value} {v2_ : Value} {n' : Network} {list : List Request} {order : List Int} {r : List Block × Int × Bool} (h0 : VR w0 S v0_ n') (h1 : VR w0 S v1_ list) (h2 : VR w0 S v2_ order) (hF : impl_AssignGreedy fu n' list order = some r) :
    Calls Try.prog 11 [v0_, v1_, v2_].toArray w0 fun e w' => ∃ v, e = .returned v ∧ (Below w0.heap.size w0 w' ∧ ∃ F0, ∃ u0 u1 u2, v = .tuple #[u0, u1, u2] ∧ VO w' F0 u0 r.1 ∧ VR w' (St ⟨w0, []⟩ S [] [] [] true) u1 r.2.1 ∧ VR w' (St ⟨w0, []⟩ S [] [] [] true) u2 r.2.2 ∧ New w0 w' F0) := by
 obtain ⟨A, c, A2, c2, rfl, hl, hl2⟩ := Network_open h0
 obtain ⟨A3, c3, rfl, hl3⟩ := VR_list h1
 obtain ⟨A4, c4, rfl, hl4⟩ := VR_list h2
 have H := Mem.start ⟨w0, []⟩ S
 have H := H.pA hl
 have H := H.pA hl2
 have H := H.pA hl3
 have H := H.pA hl4
 refine en Try.func11 fun a hf => ?_
 rw [impl_AssignGreedy] at hF
 refine bx hf H fun b' a w hf H => ?_
 refine pz 3 hf fun a hf => ?_
 refine wr (pz 1 hf fun a hf => ?_)
 obtain ⟨y, hy, hF⟩ := bs_ hF
 refine oc hf TF.cl33 (slices_Clone_int_int_ok (S := TT) (mk_list (H.rt 0 rfl)) hy) fun v w a hp hf => ?_
 obtain ⟨hb, F, hp2, hN⟩ := hp
 obtain ⟨A5, c5, rfl, hl5⟩ := VO_list hp2
 have H := H.aO1 hb hN hl5
 have H := H.lend 0 rfl
 refine pz 1 hf fun a hf => ?_
 refine wr (pz 1 hf fun a hf => ?_)
 obtain ⟨y2, hy2, hF⟩ := bs_ hF
 refine oc hf TF.cl34 (slices_Sort_int_int_ok (S := TT) (F := F) (cs := [(.slice A5 y.length c5)]) (H.ownAt 0 rfl) H.diNd.1 hy2) fun v2 w a hp3 hf => ?_
 obtain ⟨hch, hv, F3, ho, hbk⟩ := hp3
 subst hv
 have H := H.wrote rfl hch ho hbk
 have H := H.pA hl
 have H := H.pA hl2
 have H := H.pA hl3
 have H := H.pA hl4
 have H := H.lend 0 rfl
 refine wl_end (then_n (sq (sq ?_)))
 obtain ⟨c6, hGc6, hF⟩ := bs_ hF
 have fh := hf.prune [1, 2] rfl
 have Hm := H.lt_ [false] [] [false] [1, 2]
 refine midF 33 (.bool c6) fh Hm ?_ fun a w hf H => ?_
 ·refine reg (lN 0 hf H TF.la27 fun a hf => ?_)
  refine pz 1 hf fun a hf => ?_
  obtain ⟨y3, hy3, hGc6⟩ := bs_ hGc6
  refine oc hf TF.cl30 (impl_IsValidRequests_ok (S := TT) (Network_mkv (x := n') (H.rt 4 rfl) (H.rt 3 rfl)) (mk_list (H.rt 2 rfl)) hy3) fun v3 w a hp4 hf => ?_
  obtain ⟨hb2, hp4⟩ := hp4
  obtain rfl := VR_bool hp4
  have H := H.keep hb2
  refine pz 2 hf fun a hf => ?_
  refine iteB hGc6 (fun hc hGc6 => ?_) fun hc hGc6 => ?_
  ·have hf := hf.lit 20 rfl hc
   refine pz 13 hf fun a hf => ?_
   obtain rfl := oi hGc6
   have hf := hf.pn [33, 1, 2]
   have H := H.lt_ [false] [] [false] [1, 2]
   exact wl_end ⟨hf, H⟩
  ·have hf := hf.lit 20 rfl hc
   refine pz 7 hf fun a hf => ?_
   refine iteB hGc6 (fun hc2 hGc6 => ?_) fun hc2 hGc6 => ?_
   ·have hf := hf.lit 27 rfl hc2
    refine pz 6 hf fun a hf => ?_
    obtain rfl := oi hGc6
    have hf := hf.pn [33, 1, 2]
    have H := H.lt_ [false] [] [false] [1, 2]
    exact wl_end ⟨hf, H⟩
   ·have hf := hf.lit 27 rfl hc2
    refine pz 3 hf fun a hf => ?_
    obtain ⟨y4, hy4, hGc6⟩ := bs_ hGc6
    refine wlg hf rfl rfl rfl (oC hf TF.cl35 (impl_isSet_ok (S := TT) (mk_list (H.rt 0 rfl)) mk_int hy4) fun v4 w a hp5 hf => ?_)
    obtain ⟨hb3, hp5⟩ := hp5
    obtain rfl := VR_bool hp5
    have H := H.keep hb3
    refine pz 2 hf fun a hf => ?_
    obtain rfl := oi hGc6
    have hf := hf.pn [33, 1, 2]
    have H := H.lt_ [false] [] [false] [1, 2]
    exact wl_end ⟨hf, H⟩
 refine then_n (ib hF hf (fun hc3 hF => ?_) fun hc3 hF => ?_)
 ·refine sqz (pz 3 hf fun a hf => ?_)
  refine wl_end (then_n (wp_ret (then_r (?_))))
  have H := H.ownNil (Block)
  have H := H.lend 0 rfl
  obtain rfl := oi hF
  refine ret_3 hf rfl (rv_tmp hf rfl) (rv_tmp hf rfl) (rv_tmp hf rfl) ?_
  have hN := H.ends1
  exact ⟨_, rfl, H.bel, [], _, _, _, rfl, (mko_list (H.ownAt 0 rfl)), mk_int, mk_bool, by first | exact hN | simpa using hN⟩
 ·refine wp_skip (then_n (sqz (pz 2 hf fun a hf => ?_)))
  obtain ⟨y5, hy5, hF⟩ := bs_ hF
  refine oc hf TF.cl24 (impl_greedy_ok (S := TT) (mk_list (H.rt 1 rfl)) (mk_list (H.rt 0 rfl)) hy5) fun v5 w a hp6 hf => ?_
  obtain ⟨hb4, F4, v6, v7, rfl, hp7, hp8, hN2⟩ := hp6
  obtain ⟨A6, c7, rfl, hl6⟩ := VO_list hp7
  obtain rfl := VR_bool hp8
  have H := H.aO1 hb4 hN2 hl6
  have H := H.lend 0 rfl
  refine pz 5 hf fun a hf => ?_
  refine we (sqz (pz 2 hf fun a hf => ?_))
  refine wl_end (then_n (ib hF hf (fun hc4 hF => ?_) fun hc4 hF => ?_))
  ·refine sqz (pz 3 hf fun a hf => ?_)
   have hf := hf.pn [6, 7, 8]
   refine wl_end (then_n (wp_ret (then_r (?_))))
   have H := H.ownNil (Block)
   have H := H.lend 0 rfl
   obtain rfl := oi hF
   refine ret_3 hf rfl (rv_tmp hf rfl) (rv_tmp hf rfl) (rv_tmp hf rfl) ?_
   have hN := H.ends1
   exact ⟨_, rfl, H.bel, [], _, _, _, rfl, (mko_list (H.ownAt 0 rfl)), mk_int, mk_bool, by first | exact hN | simpa using hN⟩
  ·refine wp_skip (then_n (sqz (pz 2 hf fun a hf => ?_)))
   obtain ⟨y6, hy6, hF⟩ := bs_ hF
   refine oc hf TF.cl25 (impl_heightOf_ok (S := TT) (mk_list (H.rt 0 rfl)) hy6) fun v8 w a hp9 hf => ?_
   obtain ⟨hb5, hp9⟩ := hp9
   obtain rfl := VR_int hp9
   have H := H.keep hb5
   refine pz 3 hf fun a hf => ?_
   have hf := hf.pn [6, 7, 8]
   refine wer ?_
   obtain rfl := oi hF
   refine ret_3 hf rfl (rv_tmp hf rfl) (rv_tmp hf rfl) (rv_tmp hf rfl) ?_
   have hN := H.ends1
   exact ⟨_, rfl, H.bel, F4, _, _, _, rfl, (mko_list (H.ownAt 0 rfl)), mk_int, mk_bool, by first | exact hN | simpa using hN⟩
theorem laws_FnGreedyOrder_ok {S : Nat → Prop} {v0_ : Value} {code : List By} {r : Bool} (h0 : VR w0 S v0_ code) (hF : laws_FnGreedyOrder fu code = some r) :
    Calls Try.prog 3 [v0_].toArray w0 fun e w' => ∃ v, e = .returned v ∧ (Below w0.heap.size w0 w' ∧ VR w' (St ⟨w0, []⟩ S [] [] [] true) v r) := by
 obtain ⟨A, c, rfl, hl⟩ := VR_list h0
 have H := Mem.start ⟨w0, []⟩ S
 have H := H.pA hl
 refine en Try.func3 fun a hf => ?_
 rw [laws_FnGreedyOrder] at hF
 refine sqz (pz 1 hf fun a hf => ?_)
 refine we (sqz (pz 1 hf fun a hf => ?_))
 obtain ⟨y, hy, hF⟩ := bs_ hF
 refine oc hf TF.cl5 (laws_vBig_ok (S := TT) (mk_list (H.rt 0 rfl)) hy) fun v w a hp hf => ?_
 obtain ⟨hb, hp⟩ := hp
 obtain rfl := VR_bool hp
 have H := H.keep hb
 refine wl_end (then_n (ib hF hf (fun hc hF => ?_) fun hc hF => ?_))
 ·refine sqz (pz 1 hf fun a hf => ?_)
  refine wl_end (then_n (wp_ret (then_r (?_))))
  obtain rfl := oi hF
  refine rT hf ?_
  exact ⟨_, rfl, H.bel, mk_bool⟩
 ·refine wp_skip (then_n (sqz (pz 1 hf fun a hf => ?_)))
  obtain ⟨y2, hy2, hF⟩ := bs_ hF
  refine oc hf TF.cl6 (spec_DrawGreedyOrder_ok (S := TT) (mk_list (H.rt 0 rfl)) hy2) fun v2 w a hp2 hf => ?_
  obtain ⟨A2, c2, A3, c3, A4, c4, rfl, Hc⟩ := hp2
  have H := H.comp Hc (.inl rfl)
  refine pz 3 hf fun a hf => ?_
  refine aL hf H TF.zv27 fun b' a w hf H => ?_
  refine sB 0 hf H TF.sz27 fun w H => ?_
  refine pz 1 hf fun a hf => ?_
  refine wr (lN 0 hf H TF.la27 fun a hf => ?_)
  refine pz 1 hf fun a hf => ?_
  obtain ⟨y3, hy3, hF⟩ := bs_ hF
  refine oc hf TF.cl7 (impl_GreedyOrder_ok (S := TT) (Network_mkv (x := y2.1) (H.rt 0 rfl) (H.rt 1 rfl)) (mk_list (H.rt 2 rfl)) hy3) fun v3 w a hp3 hf => ?_
  obtain ⟨hb2, F, v4, v5, rfl, hp4, hp5, hN⟩ := hp3
  obtain ⟨A5, c5, rfl, hl2⟩ := VO_list hp4
  obtain rfl := VR_bool hp5
  have H := H.aO1 hb2 hN hl2
  have H := H.lend 0 rfl
  refine pz 5 hf fun a hf => ?_
  have hf := hf.pn [3, 4, 5, 6]
  refine wl_end (then_n (sq (sq (reg (lN 0 hf H TF.la27 fun a hf => ?_)))))
  refine pz 1 hf fun a hf => ?_
  obtain ⟨y4, hy4, hF⟩ := bs_ hF
  refine oc hf TF.cl8 (spec_GreedyOrder_ok (S := TT) (Network_mkv (x := y2.1) (H.rt 1 rfl) (H.rt 2 rfl)) (mk_list (H.rt 3 rfl)) hy4) fun v6 w a hp6 hf => ?_
  obtain ⟨hb3, v7, v8, rfl, hp7, hp8⟩ := hp6
  obtain ⟨A6, c6, rfl, hl3⟩ := VR_list hp7
  obtain rfl := VR_bool hp8
  obtain ⟨F3, H⟩ := H.addRo hb3 (p := MP.val [(.slice A6 y4.1.length c6)] (y4.1 : List Int)) hl3
  have H := H.lendQ 0 (q := MP.val [(.slice A6 y4.1.length c6)] (y4.1 : List Int)) rfl fun _ _ h => h
  refine pz 5 hf fun a hf => ?_
  refine wl_end (then_n (sq ?_))
  obtain ⟨c7, hGc7, hF⟩ := bs_ hF
  have fh := hf.prune [3, 4, 5, 6] rfl
  have Hm := H.lt_ [true] [] [false, true] [1, 2, 3, 4]
  refine midF 42 (.bool c7) fh Hm ?_ fun a w hf H => ?_
  ·refine reg (pz 4 hf fun a hf => ?_)
   refine iteB hGc7 (fun hc2 hGc7 => ?_) fun hc2 hGc7 => ?_
   ·have hf := hf.lit 37 rfl hc2
    refine pz 5 hf fun a hf => ?_
    obtain rfl := oi hGc7
    have hf := hf.pn [42, 3, 4, 5, 6]
    have H := H.lt_ [true] [] [false, true] [1, 2, 3, 4]
    exact wl_end ⟨hf, H⟩
   ·have hf := hf.lit 37 rfl hc2
    refine pz 2 hf fun a hf => ?_
    obtain ⟨y5, hy5, hGc7⟩ := bs_ hGc7
    refine wlg hf rfl rfl rfl (oC hf TF.cl9 (laws_vInts_ok (S := TT) (mk_list (H.rt 1 rfl)) (mk_list (H.rt 0 rfl)) hy5) fun v9 w a hp9 hf => ?_)
    obtain ⟨hb4, hp9⟩ := hp9
    obtain rfl := VR_bool hp9
    have H := H.keep hb4
    refine pz 2 hf fun a hf => ?_
    obtain rfl := oi hGc7
    have hf := hf.pn [42, 3, 4, 5, 6]
    have H := H.lt_ [true] [] [false, true] [1, 2, 3, 4]
    exact wl_end ⟨hf, H⟩
  refine then_n (ib hF hf (fun hc3 hF => ?_) fun hc3 hF => ?_)
  ·refine sqz (pz 1 hf fun a hf => ?_)
   refine wl_end (then_n (wp_ret (then_r (?_))))
   obtain rfl := oi hF
   refine rT hf ?_
   exact ⟨_, rfl, H.bel, mk_bool⟩
  ·refine wp_skip (then_n (sq (sqz (pz 2 hf fun a hf => ?_))))
   refine wl_end (then_n (ib hF hf (fun hc4 hF => ?_) fun hc4 hF => ?_))
   ·refine sqz (pz 4 hf fun a hf => ?_)
    refine wl_end (then_n (wp_ret (then_r (?_))))
    obtain rfl := oi hF
    refine rT hf ?_
    exact ⟨_, rfl, H.bel, mk_bool⟩
   ·refine wp_skip (then_n (sq (reg (lN 0 hf H TF.la27 fun a hf => ?_))))
    refine pz 1 hf fun a hf => ?_
    obtain ⟨y6, hy6, hF⟩ := bs_ hF
    refine oc hf TF.cl10 (impl_AssignExact_ok (S := TT) (Network_mkv (x := y2.1) (H.rt 1 rfl) (H.rt 2 rfl)) (mk_list (H.rt 3 rfl)) hy6) fun v10 w a hp10 hf => ?_
    obtain ⟨hb5, F4, v11, v12, v13, rfl, hp11, hp12, hp13, hN2⟩ := hp10
    obtain ⟨A7, c8, rfl, hl4⟩ := VO_list hp11
    obtain rfl := VR_int hp12
    obtain rfl := VR_bool hp13
    have H := H.aO1 hb5 hN2 hl4
    have H := H.lend 0 rfl
    refine pz 7 hf fun a hf => ?_
    refine wr (lN 0 hf H TF.la27 fun a hf => ?_)
    refine pz 2 hf fun a hf => ?_
    obtain ⟨y7, hy7, hF⟩ := bs_ hF
    refine oc hf TF.cl11 (impl_AssignGreedy_ok (S := TT) (Network_mkv (x := y2.1) (H.rt 2 rfl) (H.rt 3 rfl)) (mk_list (H.rt 4 rfl)) (mk_list (H.rt 1 rfl)) hy7) fun v14 w a hp14 hf => ?_
    obtain ⟨hb6, F6, v15, v16, v17, rfl, hp15, hp16, hp17, hN3⟩ := hp14
    obtain ⟨A8, c9, rfl, hl5⟩ := VO_list hp15
    obtain rfl := VR_int hp16
    obtain rfl := VR_bool hp17
    have H := H.aO1 hb6 hN3 hl5
    have H := H.lend 0 rfl
    refine pz 7 hf fun a hf => ?_
    have hf := hf.pn [10, 11, 13, 14]
    refine wl_end (then_n (sq ?_))
    obtain ⟨c10, hGc10, hF⟩ := bs_ hF
    have fh2 := hf.prune [] rfl
    have Hm2 := H.lt_ [false] [] [false, false, false] []
    refine midF 2 (.bool c10) fh2 Hm2 ?_ fun a w hf H => ?_
    ·refine reg (pz 2 hf fun a hf => ?_)
     refine iteB hGc10 (fun hc5 hGc10 => ?_) fun hc5 hGc10 => ?_
     ·have hf := hf.lit 64 rfl hc5
      refine pz 3 hf fun a hf => ?_
      refine iteB hGc10 (fun hc6 hGc10 => ?_) fun hc6 hGc10 => ?_
      ·have hf := hf.lit 67 rfl hc6
       refine pz 5 hf fun a hf => ?_
       obtain rfl := oi hGc10
       have hf := hf.pn [2]
       have H := H.lt_ [false] [] [false, false, false] []
       exact wl_end ⟨hf, H⟩
      ·have hf := hf.lit 67 rfl hc6
       refine pz 5 hf fun a hf => ?_
       obtain rfl := oi hGc10
       have hf := hf.pn [2]
       have H := H.lt_ [false] [] [false, false, false] []
       exact wl_end ⟨hf, H⟩
     ·have hf := hf.lit 64 rfl hc5
      refine pz 8 hf fun a hf => ?_
      obtain rfl := oi hGc10
      have hf := hf.pn [2]
      have H := H.lt_ [false] [] [false, false, false] []
      exact wl_end ⟨hf, H⟩
    refine then_n (wp_ret (?_))
    obtain rfl := oi hF
    refine rT hf ?_
    exact ⟨_, rfl, H.bel, mk_bool⟩
end AT
