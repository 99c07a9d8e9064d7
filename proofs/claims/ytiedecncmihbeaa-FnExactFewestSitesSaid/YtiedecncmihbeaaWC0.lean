/- The Go functions do what is told of them, by program (gen.py). -/
import Derived.Test.YtiedecncmihbeaaT
import Derived.Test.YtiedecncmihbeaaK
set_option linter.unusedVariables false
set_option linter.unusedSimpArgs false
set_option maxRecDepth 100000
set_option maxHeartbeats 1000000
namespace AT
open Go Go.RowKit Go.Proofs
variable {fu : Nat} {w0 : World}
theorem laws_szStringS_ok {S : Nat → Prop} {v0_ : Value} {v1_ : Value} {a' : List ByteArray} {left : Int} {r : Int} (h0 : VR w0 S v0_ a') (h1 : VR w0 S v1_ left) (hF : laws_szStringS fu a' left = some r) :
    Calls Try.prog 17 [v0_, v1_].toArray w0 fun e w' => ∃ v, e = .returned v ∧ (Below w0.heap.size w0 w' ∧ VR w' (St ⟨w0, []⟩ S [] [] [] true) v r) := by
 obtain ⟨A, c, rfl, hl⟩ := VR_list h0
 obtain rfl := VR_int h1
 have H := Mem.start ⟨w0, []⟩ S
 have H := H.pA hl
 refine en Try.func17 fun a hf => ?_
 rw [laws_szStringS] at hF
 refine sqz (pz 1 hf fun a hf => ?_)
 refine wr (pz 5 hf fun a hf => ?_)
 refine we (sqz (pz 2 hf fun a hf => ?_))
 refine wl_end (then_n (ib hF hf (fun hc hF => ?_) fun hc hF => ?_))
 ·refine sqz (pz 1 hf fun a hf => ?_)
  refine wl_end (then_n (wp_ret (then_r (?_))))
  obtain rfl := oi hF
  refine rT hf ?_
  exact ⟨_, rfl, H.bel, mk_int⟩
 ·refine wp_skip (then_n (sq (sqz (pz 1 hf fun a hf => ?_))))
  refine wl_end (then_n ?_)
  obtain ⟨out', hB1, hF⟩ := bs_ hF
  have hf := hf.pn [0, 1, 5]
  have H := H.lt_ [] [] [] [0]
  refine loopC (fun (s : Int × Int) (a : Act) (w : World) => match s with | (left2, i) => Fr a 28 [(0, (.slice A a'.length c)), (1, (.int .i64 left2)), (5, (.int .i64 i))] ∧ Mem ⟨w0, []⟩ S [] [] [] [(false, MP.val [(.slice A a'.length c)] (a' : List ByteArray))] w) (fun k (s : Int × Int) => laws_szStringS_L1 fu a' k s.1 s.2 = some out') (fun s => out' = Out.next s) (w64 (left - (a'.length : Int)), 0) fu hB1 ⟨hf, H⟩ (fun s h => by cases h) ?_ ?_
  ·rintro fk ⟨left2, i⟩ a w hR1 hI
   replace hR1 : laws_szStringS_L1 fu a' (fk + 1) left2 i = some out' := hR1
   rw [laws_szStringS_L1] at hR1
   obtain ⟨hf, H⟩ := hI
   refine sq (sqz (pz 4 hf fun a hf => ?_))
   refine wl_end (then_n (ib hR1 hf (fun hc2 hR1 => ?_) fun hc2 hR1 => ?_))
   ·refine ws (pz 3 hf fun a hf => ?_)
    obtain ⟨e, he, hR1⟩ := bs_ hR1
    refine wl0 rfl (op_iaddr hf H Try.underlying22 TF.sz9 0 rfl rfl rfl he (by decide) fun p o cs a hf hr H => ?_)
    obtain rfl := hr
    refine oq hf (rq_loadI hf H TF.ls9 0 0 rfl rfl rfl) fun a hf => ?_
    refine pz 3 hf fun a hf => ?_
    refine wr (pz 2 hf fun a hf => ?_)
    refine wl_end (then_n (ib hR1 hf (fun hc3 hR1 => ?_) fun hc3 hR1 => ?_))
    ·refine sqz (pz 1 hf fun a hf => ?_)
     have hf := hf.pn [4]
     refine wl_end (then_n (wp_ret (blk_r (then_r (then_r (blk_r (then_r (then_r (?_)))))))))
     obtain rfl := oi hR1
     replace hF := on_ret hF
     obtain rfl := oi hF
     refine rT hf ?_
     exact ⟨_, rfl, H.bel, mk_int⟩
    ·refine wp_skip (blk_n (then_n (reg (pz 3 hf fun a hf => ?_))))
     have hf := hf.pn [0, 1, 5]
     refine wl_end ?_
     have hf := hf.pn [0, 1, 5]
     have H := H.lt_ [] [] [] [1]
     exact then_n ⟨(w64 (left2 - (e.size : Int)), w64 (i + 1)), hR1, hf, H⟩
   ·refine wp_exit (then_x (then_x (blk_e (?_))))
    have hf := hf.pn [0, 1, 5]
    have H := H.lt_ [] [] [] [0]
    exact ⟨(left2, i), (Option.some.inj hR1).symm, hf, H⟩
  rintro a w ⟨⟨left3, i2⟩, rfl, hf, H⟩
  replace hF := on_next hF
  try dsimp only at hF
  refine then_n (sqz (pz 2 hf fun a hf => ?_))
  refine wer ?_
  obtain rfl := oi hF
  refine rT hf ?_
  exact ⟨_, rfl, H.bel, mk_int⟩
theorem laws_szFiberS_ok {S : Nat → Prop} {v0_ : Value} {v1_ : Value} {a' : List Fiber} {left : Int} {r : Int} (h0 : VR w0 S v0_ a') (h1 : VR w0 S v1_ left) (hF : laws_szFiberS fu a' left = some r) :
    Calls Try.prog 18 [v0_, v1_].toArray w0 fun e w' => ∃ v, e = .returned v ∧ (Below w0.heap.size w0 w' ∧ VR w' (St ⟨w0, []⟩ S [] [] [] true) v r) := by
 obtain ⟨A, c, rfl, hl⟩ := VR_list h0
 obtain rfl := VR_int h1
 have H := Mem.start ⟨w0, []⟩ S
 have H := H.pA hl
 refine en Try.func18 fun a hf => ?_
 rw [laws_szFiberS] at hF
 refine sqz (pz 1 hf fun a hf => ?_)
 refine wr (pz 5 hf fun a hf => ?_)
 refine we (sqz (pz 2 hf fun a hf => ?_))
 refine wl_end (then_n (ib hF hf (fun hc hF => ?_) fun hc hF => ?_))
 ·refine sqz (pz 1 hf fun a hf => ?_)
  refine wl_end (then_n (wp_ret (then_r (?_))))
  obtain rfl := oi hF
  refine rT hf ?_
  exact ⟨_, rfl, H.bel, mk_int⟩
 ·refine wp_skip (then_n (sqz (pz 2 hf fun a hf => ?_)))
  refine wer ?_
  obtain rfl := oi hF
  refine rT hf ?_
  exact ⟨_, rfl, H.bel, mk_int⟩
theorem laws_szNetwork_ok {S : Nat → Prop} {v0_ : Value} {v1_ : Value} {a' : Network} {left : Int} {r : Int} (h0 : VR w0 S v0_ a') (h1 : VR w0 S v1_ left) (hF : laws_szNetwork fu a' left = some r) :
    Calls Try.prog 5 [v0_, v1_].toArray w0 fun e w' => ∃ v, e = .returned v ∧ (Below w0.heap.size w0 w' ∧ VR w' (St ⟨w0, []⟩ S [] [] [] true) v r) := by
 obtain ⟨A, c, A2, c2, rfl, hl, hl2⟩ := Network_open h0
 obtain rfl := VR_int h1
 have H := Mem.start ⟨w0, []⟩ S
 have H := H.pA hl
 have H := H.pA hl2
 refine en Try.func5 fun a hf => ?_
 rw [laws_szNetwork] at hF
 refine bx hf H fun b' a w hf H => ?_
 refine pz 1 hf fun a hf => ?_
 refine wr (pz 1 hf fun a hf => ?_)
 refine lB 0 hf H TF.ls22 fun a hf => ?_
 refine pz 1 hf fun a hf => ?_
 obtain ⟨y, hy, hF⟩ := bs_ hF
 refine oc hf TF.cl17 (laws_szStringS_ok (S := TT) (mk_list (H.rt 1 rfl)) mk_int hy) fun v w a hp hf => ?_
 obtain ⟨hb, hp⟩ := hp
 obtain rfl := VR_int hp
 have H := H.keep hb
 refine pz 1 hf fun a hf => ?_
 refine we (sqz (pz 2 hf fun a hf => ?_))
 refine wl_end (then_n (ib hF hf (fun hc hF => ?_) fun hc hF => ?_))
 ·refine sqz (pz 1 hf fun a hf => ?_)
  refine wl_end (then_n (wp_ret (then_r (?_))))
  obtain rfl := oi hF
  refine rT hf ?_
  exact ⟨_, rfl, H.bel, mk_int⟩
 ·refine wp_skip (then_n (sqz (pz 1 hf fun a hf => ?_)))
  refine lB 0 hf H TF.ls23 fun a hf => ?_
  refine pz 1 hf fun a hf => ?_
  obtain ⟨y2, hy2, hF⟩ := bs_ hF
  refine oc hf TF.cl18 (laws_szFiberS_ok (S := TT) (mk_list (H.rt 0 rfl)) mk_int hy2) fun v2 w a hp2 hf => ?_
  obtain ⟨hb2, hp2⟩ := hp2
  obtain rfl := VR_int hp2
  have H := H.keep hb2
  refine pz 1 hf fun a hf => ?_
  have hf := hf.pn [1]
  refine we (sqz (pz 2 hf fun a hf => ?_))
  refine wl_end (then_n (ib hF hf (fun hc2 hF => ?_) fun hc2 hF => ?_))
  ·refine sqz (pz 1 hf fun a hf => ?_)
   refine wl_end (then_n (wp_ret (then_r (?_))))
   obtain rfl := oi hF
   refine rT hf ?_
   exact ⟨_, rfl, H.bel, mk_int⟩
  ·refine wp_skip (then_n (sqz (pz 2 hf fun a hf => ?_)))
   refine wer ?_
   obtain rfl := oi hF
   refine rT hf ?_
   exact ⟨_, rfl, H.bel, mk_int⟩
theorem laws_toStringS_ok {S : Nat → Prop} {v0_ : Value} {a' : List ByteArray} {r : List ByteArray} (h0 : VR w0 S v0_ a') (hF : laws_toStringS fu a' = some r) :
    Calls Try.prog 23 [v0_].toArray w0 fun e w' => ∃ v, e = .returned v ∧ (Below w0.heap.size w0 w' ∧ ∃ F0, VO w' F0 v r ∧ New w0 w' F0) := by
 obtain ⟨A, c, rfl, hl⟩ := VR_list h0
 have H := Mem.start ⟨w0, []⟩ S
 have H := H.pA hl
 refine en Try.func23 fun a hf => ?_
 rw [laws_toStringS] at hF
 refine sqz (pz 1 hf fun a hf => ?_)
 refine wr (pz 2 hf fun a hf => ?_)
 obtain ⟨l, hl_, hF⟩ := bs_ hF
 refine wl0 rfl (op_make (z0 := (ByteArray.empty : ByteArray)) hf H Try.underlying22 TF.ai9 rfl (by decide) rfl rfl rfl hl_ (by decide) fun A2 c2 a w hf H => ?_)
 refine pz 1 hf fun a hf => ?_
 refine we (sqz (pz 1 hf fun a hf => ?_))
 refine wl_end (then_n ?_)
 obtain ⟨out2, hB1, hF⟩ := bs_ hF
 have hf := hf.pn [0, 3, 4]
 have H := H.lt_ [] [true] [] [0]
 refine loopC (fun (s : List ByteArray × Int) (a : Act) (w : World) => match s with | (out', i) => ∃ (A3 : Option Addr) (c3 : Nat) (E : Go.TypeId), Fr a 22 [(0, (.slice A a'.length c)), (3, (.slice A3 out'.length c3)), (4, (.int .i64 i))] ∧ Mem ⟨w0, []⟩ S [] [⟨.sh true, E, A3, c3, (out' : List ByteArray)⟩] [] [(false, MP.val [(.slice A a'.length c)] (a' : List ByteArray))] w) (fun k (s : List ByteArray × Int) => laws_toStringS_L1 fu a' k s.1 s.2 = some out2) (fun s => out2 = s) (l, 0) fu hB1 ⟨A2, c2, 9, hf, H⟩ (fun s h => by cases h) ?_ ?_
 ·rintro fk ⟨out', i⟩ a w hR1 hI
  replace hR1 : laws_toStringS_L1 fu a' (fk + 1) out' i = some out2 := hR1
  rw [laws_toStringS_L1] at hR1
  obtain ⟨A3, c3, E, hf, H⟩ := hI
  refine sq (sqz (pz 4 hf fun a hf => ?_))
  refine wl_end (then_n (ib hR1 hf (fun hc hR1 => ?_) fun hc hR1 => ?_))
  ·refine wp_skip (then_n (sq (wp_block (reg (pz 4 hf fun a hf => ?_)))))
   obtain ⟨e, he, hR1⟩ := bs_ hR1
   refine wl0 rfl (op_iaddr hf H Try.underlying22 TF.sz9 0 rfl rfl rfl he (by decide) fun p o cs a hf hr H => ?_)
   obtain rfl := hr
   refine oq hf (rq_loadI hf H TF.ls9 0 0 rfl rfl rfl) fun a hf => ?_
   obtain ⟨e2, he2, hR1⟩ := bs_ hR1
   refine wl0 rfl (op_iaddrR hf H Try.underlying22 TF.sz9 0 rfl rfl rfl he2 (by decide) fun p2 o2 cs2 a hf hA hr2 hk => ?_)
   obtain rfl := hr2
   refine wl0 rfl (op_storeR (e' := e) (o := o2) (off := 0) hf H TF.sz9 0 rfl rfl rfl rfl rfl (nle rfl) rfl hA he2 (st_full rfl) fun w H => ?_)
   replace hf : Fr a 22 [(0, (.slice A a'.length c)), (3, (.slice A3 out'.length c3)), (4, (.int .i64 i)), (14, (.slice A3 out'.length c3)), (15, (.int .i64 i)), (16, (.slice A a'.length c)), (17, (.int .i64 i)), (18, (.pointer (some ⟨p, o + 0, none⟩))), (19, (.string e)), (20, (.pointer (some ⟨p2, o2 + 0, none⟩)))] := hf.prune [0, 3, 4, 14, 15, 16, 17, 18, 19, 20] rfl
   replace hf : Fr a 22 [(0, (.slice A a'.length c)), (3, (.slice A3 (out'.set (i : Int).toNat e).length c3)), (4, (.int .i64 i)), (14, (.slice A3 (out'.set (i : Int).toNat e).length c3)), (15, (.int .i64 i)), (16, (.slice A a'.length c)), (17, (.int .i64 i)), (18, (.pointer (some ⟨p, o + 0, none⟩))), (19, (.string e)), (20, (.pointer (some ⟨p2, o2 + 0, none⟩)))] := by simpa only [List.length_set, Nat.add_zero] using hf
   refine wl_end (blk_n (then_n (reg (pz 3 hf fun a hf => ?_))))
   refine wl_end ?_
   have hf := hf.pn [0, 3, 4]
   have H := H.lt_ [] [true] [] [1]
   exact then_n ⟨(out'.set (i : Int).toNat e, w64 (i + 1)), hR1, A3, c3, E, hf, H⟩
  ·refine wp_exit (then_x (then_x (blk_e (?_))))
   have hf := hf.pn [0, 3, 4]
   have H := H.lt_ [] [true] [] [0]
   exact ⟨(out', i), (Option.some.inj hR1).symm, A3, c3, E, hf, H⟩
 rintro a w ⟨⟨out3, i2⟩, rfl, A4, c4, E2, hf, H⟩
 try dsimp only at hF
 refine then_n (sqz (pz 2 hf fun a hf => ?_))
 refine wer ?_
 have H := H.rowOwn 0 rfl rfl
 obtain ⟨F, H⟩ := H.freezeOwn 0 rfl
 have H := H.lend 0 rfl
 obtain rfl := oi hF
 refine rT hf ?_
 have hN := H.ends1
 exact ⟨_, rfl, H.bel, F, (mko_list (H.ownAt 0 rfl)), hN⟩
theorem laws_toFiber_ok {S : Nat → Prop} {v0_ : Value} {a' : Fiber} {r : Fiber} (h0 : VR w0 S v0_ a') (hF : laws_toFiber fu a' = some r) :
    Calls Try.prog 42 [v0_].toArray w0 fun e w' => ∃ v, e = .returned v ∧ (Below w0.heap.size w0 w' ∧ VR w' (St ⟨w0, []⟩ S [] [] [] true) v r) := by
 obtain rfl := Fiber_open h0
 have H := Mem.start ⟨w0, []⟩ S
 refine en Try.func42 fun a hf => ?_
 rw [laws_toFiber] at hF
 refine bx hf H fun b' a w hf H => ?_
 refine aL hf H TF.zv63 fun b2 a w hf H => ?_
 refine wr (aL hf H TF.zv63 fun b3 a w hf H => ?_)
 refine wr (pz 1 hf fun a hf => ?_)
 refine lB 2 hf H TF.ls3 fun a hf => ?_
 refine pz 1 hf fun a hf => ?_
 refine sB 0 hf H TF.sz3 fun w H => ?_
 refine wr (pz 1 hf fun a hf => ?_)
 refine lB 2 hf H TF.ls3 fun a hf => ?_
 refine pz 1 hf fun a hf => ?_
 refine sB 0 hf H TF.sz3 fun w H => ?_
 refine wr (pz 1 hf fun a hf => ?_)
 refine lB 2 hf H TF.ls3 fun a hf => ?_
 refine pz 1 hf fun a hf => ?_
 refine sB 0 hf H TF.sz3 fun w H => ?_
 refine wr (pz 1 hf fun a hf => ?_)
 refine lB 2 hf H TF.ls3 fun a hf => ?_
 refine pz 1 hf fun a hf => ?_
 refine sB 0 hf H TF.sz3 fun w H => ?_
 have hf := hf.pn [2, 3]
 refine wr (lN 0 hf H TF.la63 fun a hf => ?_)
 refine sB 1 hf H TF.sz63 fun w H => ?_
 refine wer ?_
 obtain rfl := oi hF
 refine ret_1 hf rfl (rv_cellN hf H 1 TF.la63 rfl rfl rfl) ?_
 exact ⟨_, rfl, H.bel, Fiber_mkv⟩
theorem laws_toFiberS_ok {S : Nat → Prop} {v0_ : Value} {a' : List Fiber} {r : List Fiber} (h0 : VR w0 S v0_ a') (hF : laws_toFiberS fu a' = some r) :
    Calls Try.prog 24 [v0_].toArray w0 fun e w' => ∃ v, e = .returned v ∧ (Below w0.heap.size w0 w' ∧ ∃ F0, VO w' F0 v r ∧ New w0 w' F0) := by
 obtain ⟨A, c, rfl, hl⟩ := VR_list h0
 have H := Mem.start ⟨w0, []⟩ S
 have H := H.pA hl
 refine en Try.func24 fun a hf => ?_
 rw [laws_toFiberS] at hF
 refine sqz (pz 1 hf fun a hf => ?_)
 refine wr (pz 2 hf fun a hf => ?_)
 obtain ⟨l, hl_, hF⟩ := bs_ hF
 refine wl0 rfl (op_make (z0 := (({ A := 0, B := 0, Length := 0, Risk := 0 } : Fiber) : Fiber)) hf H Try.underlying30 TF.ai63 rfl (by decide) rfl rfl (Fiber_mk (x := ({ A := 0, B := 0, Length := 0, Risk := 0 } : Fiber))) hl_ (by decide) fun A2 c2 a w hf H => ?_)
 refine pz 1 hf fun a hf => ?_
 refine we (sqz (pz 1 hf fun a hf => ?_))
 refine wl_end (then_n ?_)
 obtain ⟨out2, hB1, hF⟩ := bs_ hF
 have hf := hf.pn [0, 3, 4]
 have H := H.lt_ [] [true] [] [0]
 refine loopC (fun (s : List Fiber × Int) (a : Act) (w : World) => match s with | (out', i) => ∃ (A3 : Option Addr) (c3 : Nat) (E : Go.TypeId), Fr a 23 [(0, (.slice A a'.length c)), (3, (.slice A3 out'.length c3)), (4, (.int .i64 i))] ∧ Mem ⟨w0, []⟩ S [] [⟨.sh true, E, A3, c3, (out' : List Fiber)⟩] [] [(false, MP.val [(.slice A a'.length c)] (a' : List Fiber))] w) (fun k (s : List Fiber × Int) => laws_toFiberS_L1 fu a' k s.1 s.2 = some out2) (fun s => out2 = s) (l, 0) fu hB1 ⟨A2, c2, 63, hf, H⟩ (fun s h => by cases h) ?_ ?_
 ·rintro fk ⟨out', i⟩ a w hR1 hI
  replace hR1 : laws_toFiberS_L1 fu a' (fk + 1) out' i = some out2 := hR1
  rw [laws_toFiberS_L1] at hR1
  obtain ⟨A3, c3, E, hf, H⟩ := hI
  refine sq (sqz (pz 4 hf fun a hf => ?_))
  refine wl_end (then_n (ib hR1 hf (fun hc hR1 => ?_) fun hc hR1 => ?_))
  ·refine wp_skip (then_n (sq (wp_block (reg (pz 4 hf fun a hf => ?_)))))
   obtain ⟨e, he, hR1⟩ := bs_ hR1
   refine wl0 rfl (op_iaddr hf H Try.underlying23 TF.sz68 0 rfl rfl rfl he (by decide) fun p o cs a hf hr H => ?_)
   obtain rfl := Fiber_cells hr
   refine oq hf (rq_loadIN hf H TF.la68 0 0 rfl rfl rfl rfl) fun a hf => ?_
   obtain ⟨y, hy, hR1⟩ := bs_ hR1
   refine oc hf TF.cl42 (laws_toFiber_ok (S := TT) Fiber_mkv hy) fun v w a hp hf => ?_
   obtain ⟨hb, hp⟩ := hp
   obtain rfl := Fiber_open hp
   have H := H.keep hb
   obtain ⟨e2, he2, hR1⟩ := bs_ hR1
   refine wl0 rfl (op_iaddrR hf H Try.underlying30 TF.sz63 0 rfl rfl rfl he2 (by decide) fun p2 o2 cs2 a hf hA hr2 hk => ?_)
   obtain rfl := Fiber_cells hr2
   refine wl0 rfl (op_storeR (e' := y) (o := o2) (off := 0) hf H TF.sz63 0 rfl rfl rfl rfl rfl (nle rfl) rfl hA he2 (st_full (Fiber_mk (x := y))) fun w H => ?_)
   replace hf : Fr a 23 [(0, (.slice A a'.length c)), (3, (.slice A3 out'.length c3)), (4, (.int .i64 i)), (14, (.slice A3 out'.length c3)), (15, (.int .i64 i)), (16, (.slice A a'.length c)), (17, (.int .i64 i)), (18, (.pointer (some ⟨p, o + 0, none⟩))), (19, (.agg #[(.int .i64 e.A), (.int .i64 e.B), (.int .i64 e.Length), (.int .i64 e.Risk)])), (20, (.agg #[(.int .i64 y.A), (.int .i64 y.B), (.int .i64 y.Length), (.int .i64 y.Risk)])), (21, (.pointer (some ⟨p2, o2 + 0, none⟩)))] := hf.prune [0, 3, 4, 14, 15, 16, 17, 18, 19, 20, 21] rfl
   replace hf : Fr a 23 [(0, (.slice A a'.length c)), (3, (.slice A3 (out'.set (i : Int).toNat y).length c3)), (4, (.int .i64 i)), (14, (.slice A3 (out'.set (i : Int).toNat y).length c3)), (15, (.int .i64 i)), (16, (.slice A a'.length c)), (17, (.int .i64 i)), (18, (.pointer (some ⟨p, o + 0, none⟩))), (19, (.agg #[(.int .i64 e.A), (.int .i64 e.B), (.int .i64 e.Length), (.int .i64 e.Risk)])), (20, (.agg #[(.int .i64 y.A), (.int .i64 y.B), (.int .i64 y.Length), (.int .i64 y.Risk)])), (21, (.pointer (some ⟨p2, o2 + 0, none⟩)))] := by simpa only [List.length_set, Nat.add_zero] using hf
   refine wl_end (blk_n (then_n (reg (pz 3 hf fun a hf => ?_))))
   refine wl_end ?_
   have hf := hf.pn [0, 3, 4]
   have H := H.lt_ [] [true] [] [1]
   exact then_n ⟨(out'.set (i : Int).toNat y, w64 (i + 1)), hR1, A3, c3, E, hf, H⟩
  ·refine wp_exit (then_x (then_x (blk_e (?_))))
   have hf := hf.pn [0, 3, 4]
   have H := H.lt_ [] [true] [] [0]
   exact ⟨(out', i), (Option.some.inj hR1).symm, A3, c3, E, hf, H⟩
 rintro a w ⟨⟨out3, i2⟩, rfl, A4, c4, E2, hf, H⟩
 try dsimp only at hF
 refine then_n (sqz (pz 2 hf fun a hf => ?_))
 refine wer ?_
 have H := H.rowOwn 0 rfl rfl
 obtain ⟨F, H⟩ := H.freezeOwn 0 rfl
 have H := H.lend 0 rfl
 obtain rfl := oi hF
 refine rT hf ?_
 have hN := H.ends1
 exact ⟨_, rfl, H.bel, F, (mko_list (H.ownAt 0 rfl)), hN⟩
theorem laws_toNetwork_ok {S : Nat → Prop} {v0_ : Value} {a' : Network} {r : Network} (h0 : VR w0 S v0_ a') (hF : laws_toNetwork fu a' = some r) :
    Calls Try.prog 7 [v0_].toArray w0 fun e w' => ∃ v, e = .returned v ∧ (Below w0.heap.size w0 w' ∧ ∃ F0, VO w' F0 v r ∧ New w0 w' F0) := by
 obtain ⟨A, c, A2, c2, rfl, hl, hl2⟩ := Network_open h0
 have H := Mem.start ⟨w0, []⟩ S
 have H := H.pA hl
 have H := H.pA hl2
 refine en Try.func7 fun a hf => ?_
 rw [laws_toNetwork] at hF
 refine bx hf H fun b' a w hf H => ?_
 refine aL hf H TF.zv32 fun b2 a w hf H => ?_
 refine wr (aL hf H TF.zv32 fun b3 a w hf H => ?_)
 refine wr (pz 1 hf fun a hf => ?_)
 refine lB 2 hf H TF.ls22 fun a hf => ?_
 obtain ⟨y, hy, hF⟩ := bs_ hF
 refine oc hf TF.cl23 (laws_toStringS_ok (S := TT) (mk_list (H.rt 1 rfl)) hy) fun v w a hp hf => ?_
 obtain ⟨hb, F, hp2, hN⟩ := hp
 obtain ⟨A3, c3, rfl, hl3⟩ := VO_list hp2
 have H := H.aO1 hb hN hl3
 have H := H.lend 0 rfl
 refine pz 1 hf fun a hf => ?_
 refine sB 0 hf H TF.sz22 fun w H => ?_
 refine wr (pz 1 hf fun a hf => ?_)
 refine lB 2 hf H TF.ls23 fun a hf => ?_
 obtain ⟨y2, hy2, hF⟩ := bs_ hF
 refine oc hf TF.cl24 (laws_toFiberS_ok (S := TT) (mk_list (H.rt 1 rfl)) hy2) fun v2 w a hp3 hf => ?_
 obtain ⟨hb2, F3, hp4, hN2⟩ := hp3
 obtain ⟨A4, c4, rfl, hl4⟩ := VO_list hp4
 have H := H.aO1 hb2 hN2 hl4
 have H := H.lend 0 rfl
 refine pz 1 hf fun a hf => ?_
 refine sB 0 hf H TF.sz30 fun w H => ?_
 refine wr (lN 0 hf H TF.la32 fun a hf => ?_)
 refine sB 1 hf H TF.sz32 fun w H => ?_
 refine wer ?_
 have H := H.frontD 1 rfl
 obtain rfl := oi hF
 refine ret_1 hf rfl (rv_cellN hf H 1 TF.la32 rfl rfl rfl) ?_
 have hN := H.ends2
 exact ⟨_, rfl, H.bel, (F ++ F3), ⟨_, Network_ownmk (x := ({ Nodes := y, Fibers := y2 } : Network)) (H.ownAt 0 rfl) (H.ownAt 1 rfl), rfl⟩, hN⟩
theorem spec_l1In_ok {S : Nat → Prop} {v0_ : Value} {v1_ : Value} {v2_ : Value} {x1 : Int} {a' : Int} {b' : Int} {r : Bool} (h0 : VR w0 S v0_ x1) (h1 : VR w0 S v1_ a') (h2 : VR w0 S v2_ b') (hF : spec_l1In fu x1 a' b' = some r) :
    Calls Try.prog 21 [v0_, v1_, v2_].toArray w0 fun e w' => ∃ v, e = .returned v ∧ (Below w0.heap.size w0 w' ∧ VR w' (St ⟨w0, []⟩ S [] [] [] true) v r) := by
 obtain rfl := VR_int h0
 obtain rfl := VR_int h1
 obtain rfl := VR_int h2
 have H := Mem.start ⟨w0, []⟩ S
 refine en Try.func21 fun a hf => ?_
 rw [spec_l1In] at hF
 refine sqz (pz 1 hf fun a hf => ?_)
 refine wl_end (then_n (sq ?_))
 obtain ⟨c, hGc, hF⟩ := bs_ hF
 have fh := hf.prune [] rfl
 have Hm := H.lt_ [] [] [] []
 refine midF 6 (.bool c) fh Hm ?_ fun a w hf H => ?_
 ·refine reg (pz 4 hf fun a hf => ?_)
  refine iteB hGc (fun hc hGc => ?_) fun hc hGc => ?_
  ·have hf := hf.lit 10 rfl hc
   refine pz 5 hf fun a hf => ?_
   obtain rfl := oi hGc
   have hf := hf.pn [6]
   have H := H.lt_ [] [] [] []
   exact wl_end ⟨hf, H⟩
  ·have hf := hf.lit 10 rfl hc
   refine pz 5 hf fun a hf => ?_
   obtain rfl := oi hGc
   have hf := hf.pn [6]
   have H := H.lt_ [] [] [] []
   exact wl_end ⟨hf, H⟩
 refine then_n (wp_ret (?_))
 obtain rfl := oi hF
 refine rT hf ?_
 exact ⟨_, rfl, H.bel, mk_bool⟩
theorem spec_l2Sign_ok {S : Nat → Prop} {v0_ : Value} {b' : By} {r : Bool} (h0 : VR w0 S v0_ b') (hF : spec_l2Sign fu b' = some r) :
    Calls Try.prog 54 [v0_].toArray w0 fun e w' => ∃ v, e = .returned v ∧ (Below w0.heap.size w0 w' ∧ VR w' (St ⟨w0, []⟩ S [] [] [] true) v r) := by
 obtain rfl := VR_by h0
 have H := Mem.start ⟨w0, []⟩ S
 refine en Try.func54 fun a hf => ?_
 rw [spec_l2Sign] at hF
 refine sqz (pz 1 hf fun a hf => ?_)
 refine wl_end (then_n (sq ?_))
 obtain ⟨c, hGc, hF⟩ := bs_ hF
 have fh := hf.prune [] rfl
 have Hm := H.lt_ [] [] [] []
 refine midF 2 (.bool c) fh Hm ?_ fun a w hf H => ?_
 ·refine reg (pz 1 hf fun a hf => ?_)
  refine oq hf (rq_geK hf rfl rfl) fun a hf => ?_
  refine pz 1 hf fun a hf => ?_
  refine iteB hGc (fun hc hGc => ?_) fun hc hGc => ?_
  ·have hf := hf.lit 5 rfl hc
   refine pz 1 hf fun a hf => ?_
   refine wlg hf rfl rfl rfl (op_q hf (rq_leK hf rfl rfl) rfl (by decide) fun a hf => ?_)
   refine pz 2 hf fun a hf => ?_
   refine iteB hGc (fun hc2 hGc => ?_) fun hc2 hGc => ?_
   ·have hf := hf.lit 9 rfl hc2
    refine pz 3 hf fun a hf => ?_
    refine wlsu hf rfl rfl rfl rfl (by decide) fun a hf => ?_
    refine wlsu hf rfl rfl rfl rfl (by decide) fun a hf => ?_
    refine pz 3 hf fun a hf => ?_
    obtain rfl := oi hGc
    have hf := hf.pn [2]
    have H := H.lt_ [] [] [] []
    exact wl_end ⟨hf, H⟩
   ·have hf := hf.lit 9 rfl hc2
    refine pz 1 hf fun a hf => ?_
    refine wlg hf rfl rfl rfl (op_q hf (rq_geK hf rfl rfl) rfl (by decide) fun a hf => ?_)
    refine pz 1 hf fun a hf => ?_
    refine iteB hGc (fun hc3 hGc => ?_) fun hc3 hGc => ?_
    ·have hf := hf.lit 12 rfl hc3
     refine pz 1 hf fun a hf => ?_
     refine wlg hf rfl rfl rfl (op_q hf (rq_leK hf rfl rfl) rfl (by decide) fun a hf => ?_)
     refine pz 3 hf fun a hf => ?_
     obtain rfl := oi hGc
     have hf := hf.pn [2]
     have H := H.lt_ [] [] [] []
     exact wl_end ⟨hf, H⟩
    ·have hf := hf.lit 12 rfl hc3
     refine pz 5 hf fun a hf => ?_
     obtain rfl := oi hGc
     have hf := hf.pn [2]
     have H := H.lt_ [] [] [] []
     exact wl_end ⟨hf, H⟩
  ·have hf := hf.lit 5 rfl hc
   refine pz 5 hf fun a hf => ?_
   refine wlg hf rfl rfl rfl (op_q hf (rq_geK hf rfl rfl) rfl (by decide) fun a hf => ?_)
   refine pz 1 hf fun a hf => ?_
   refine iteB hGc (fun hc4 hGc => ?_) fun hc4 hGc => ?_
   ·have hf := hf.lit 12 rfl hc4
    refine pz 1 hf fun a hf => ?_
    refine wlg hf rfl rfl rfl (op_q hf (rq_leK hf rfl rfl) rfl (by decide) fun a hf => ?_)
    refine pz 3 hf fun a hf => ?_
    obtain rfl := oi hGc
    have hf := hf.pn [2]
    have H := H.lt_ [] [] [] []
    exact wl_end ⟨hf, H⟩
   ·have hf := hf.lit 12 rfl hc4
    refine pz 5 hf fun a hf => ?_
    obtain rfl := oi hGc
    have hf := hf.pn [2]
    have H := H.lt_ [] [] [] []
    exact wl_end ⟨hf, H⟩
 refine then_n (wp_ret (?_))
 obtain rfl := oi hF
 refine rT hf ?_
 exact ⟨_, rfl, H.bel, mk_bool⟩
theorem spec_l2Name_ok {S : Nat → Prop} {v0_ : Value} {s' : ByteArray} {r : Bool} (h0 : VR w0 S v0_ s') (hF : spec_l2Name fu s' = some r) :
    Calls Try.prog 36 [v0_].toArray w0 fun e w' => ∃ v, e = .returned v ∧ (Below w0.heap.size w0 w' ∧ VR w' (St ⟨w0, []⟩ S [] [] [] true) v r) := by
 obtain rfl := VR_str h0
 have H := Mem.start ⟨w0, []⟩ S
 refine en Try.func36 fun a hf => ?_
 rw [spec_l2Name] at hF
 refine sqz (pz 1 hf fun a hf => ?_)
 refine wl_end (then_n (sq (sq ?_)))
 obtain ⟨c, hGc, hF⟩ := bs_ hF
 have fh := hf.prune [0] rfl
 have Hm := H.lt_ [] [] [] []
 refine midF 17 (.bool c) fh Hm ?_ fun a w hf H => ?_
 ·refine reg (pz 2 hf fun a hf => ?_)
  obtain ⟨y, hy, hGc⟩ := bs_ hGc
  refine oc hf TF.cl21 (spec_l1In_ok (S := TT) mk_int mk_int mk_int hy) fun v w a hp hf => ?_
  obtain ⟨hb, hp⟩ := hp
  obtain rfl := VR_bool hp
  have H := H.keep hb
  refine pz 2 hf fun a hf => ?_
  refine iteB hGc (fun hc hGc => ?_) fun hc hGc => ?_
  ·have hf := hf.lit 8 rfl hc
   refine pz 9 hf fun a hf => ?_
   obtain rfl := oi hGc
   have hf := hf.pn [17, 0]
   have H := H.lt_ [] [] [] []
   exact wl_end ⟨hf, H⟩
  ·have hf := hf.lit 8 rfl hc
   refine pz 1 hf fun a hf => ?_
   obtain ⟨e, he, hGc⟩ := bs_ hGc
   refine wlg hf rfl rfl rfl (op_q hf (rq_indexS hf Try.underlying9 rfl rfl he) rfl (by decide) fun a hf => ?_)
   refine wlg hf rfl rfl rfl (op_q hf (rq_ltK hf rfl rfl) rfl (by decide) fun a hf => ?_)
   refine pz 2 hf fun a hf => ?_
   refine iteB hGc (fun hc2 hGc => ?_) fun hc2 hGc => ?_
   ·have hf := hf.lit 13 rfl hc2
    refine pz 4 hf fun a hf => ?_
    obtain rfl := oi hGc
    have hf := hf.pn [17, 0]
    have H := H.lt_ [] [] [] []
    exact wl_end ⟨hf, H⟩
   ·have hf := hf.lit 13 rfl hc2
    refine pz 1 hf fun a hf => ?_
    obtain ⟨e2, he2, hGc⟩ := bs_ hGc
    refine wlg hf rfl rfl rfl (op_q hf (rq_indexS hf Try.underlying9 rfl rfl he2) rfl (by decide) fun a hf => ?_)
    refine wlg hf rfl rfl rfl (op_q hf (rq_gtK hf rfl rfl) rfl (by decide) fun a hf => ?_)
    refine pz 1 hf fun a hf => ?_
    obtain rfl := oi hGc
    have hf := hf.pn [17, 0]
    have H := H.lt_ [] [] [] []
    exact wl_end ⟨hf, H⟩
 refine then_n (ib hF hf (fun hc3 hF => ?_) fun hc3 hF => ?_)
 ·refine sqz (pz 1 hf fun a hf => ?_)
  refine wl_end (then_n (wp_ret (then_r (?_))))
  obtain rfl := oi hF
  refine rT hf ?_
  exact ⟨_, rfl, H.bel, mk_bool⟩
 ·refine wp_skip (then_n (sq (sqz (pz 1 hf fun a hf => ?_))))
  refine wl_end (then_n ?_)
  obtain ⟨out', hB1, hF⟩ := bs_ hF
  have hf := hf.pn [0, 3]
  have H := H.lt_ [] [] [] []
  refine loopC (fun (s : Int) (a : Act) (w : World) => match s with | i => Fr a 29 [(0, (.string s')), (3, (.int .i64 i))] ∧ Mem ⟨w0, []⟩ S [] [] [] [] w) (fun k (s : Int) => spec_l2Name_L1 fu s' k s = some out') (fun s => out' = Out.next s) 0 fu hB1 ⟨hf, H⟩ (fun s h => by cases h) ?_ ?_
  ·rintro fk i a w hR1 hI
   replace hR1 : spec_l2Name_L1 fu s' (fk + 1) i = some out' := hR1
   rw [spec_l2Name_L1] at hR1
   obtain ⟨hf, H⟩ := hI
   refine sq (sqz (pz 4 hf fun a hf => ?_))
   refine wl_end (then_n (ib hR1 hf (fun hc4 hR1 => ?_) fun hc4 hR1 => ?_))
   ·refine ws (pz 2 hf fun a hf => ?_)
    obtain ⟨e3, he3, hR1⟩ := bs_ hR1
    refine oq hf (rq_indexS hf Try.underlying9 rfl rfl he3) fun a hf => ?_
    obtain ⟨y2, hy2, hR1⟩ := bs_ hR1
    refine oc hf TF.cl54 (spec_l2Sign_ok (S := TT) mk_by hy2) fun v2 w a hp2 hf => ?_
    obtain ⟨hb2, hp2⟩ := hp2
    obtain rfl := VR_bool hp2
    have H := H.keep hb2
    refine pz 1 hf fun a hf => ?_
    refine wl_end (then_n (ib hR1 hf (fun hc5 hR1 => ?_) fun hc5 hR1 => ?_))
    ·refine sqz (pz 1 hf fun a hf => ?_)
     refine wl_end (then_n (wp_ret (blk_r (then_r (then_r (blk_r (then_r (then_r (?_)))))))))
     obtain rfl := oi hR1
     replace hF := on_ret hF
     obtain rfl := oi hF
     refine rT hf ?_
     exact ⟨_, rfl, H.bel, mk_bool⟩
    ·refine wp_skip (blk_n (then_n (reg (pz 3 hf fun a hf => ?_))))
     refine wl_end ?_
     have hf := hf.pn [0, 3]
     have H := H.lt_ [] [] [] []
     exact then_n ⟨w64 (i + 1), hR1, hf, H⟩
   ·refine wp_exit (then_x (then_x (blk_e (?_))))
    have hf := hf.pn [0, 3]
    have H := H.lt_ [] [] [] []
    exact ⟨i, (Option.some.inj hR1).symm, hf, H⟩
  rintro a w ⟨i2, rfl, hf, H⟩
  replace hF := on_next hF
  refine then_n (sqz (pz 1 hf fun a hf => ?_))
  refine wer ?_
  obtain rfl := oi hF
  refine rT hf ?_
  exact ⟨_, rfl, H.bel, mk_bool⟩
theorem spec_l2Find_ok {S : Nat → Prop} {v0_ : Value} {v1_ : Value} {list : List ByteArray} {name : ByteArray} {r : Int} (h0 : VR w0 S v0_ list) (h1 : VR w0 S v1_ name) (hF : spec_l2Find fu list name = some r) :
    Calls Try.prog 37 [v0_, v1_].toArray w0 fun e w' => ∃ v, e = .returned v ∧ (Below w0.heap.size w0 w' ∧ VR w' (St ⟨w0, []⟩ S [] [] [] true) v r) := by
 obtain ⟨A, c, rfl, hl⟩ := VR_list h0
 obtain rfl := VR_str h1
 have H := Mem.start ⟨w0, []⟩ S
 have H := H.pA hl
 refine en Try.func37 fun a hf => ?_
 rw [spec_l2Find] at hF
 refine sqz (pz 1 hf fun a hf => ?_)
 refine we (sqz (pz 1 hf fun a hf => ?_))
 refine wl_end (then_n ?_)
 obtain ⟨out', hB1, hF⟩ := bs_ hF
 have hf := hf.pn [0, 1, 5]
 have H := H.lt_ [] [] [] [0]
 refine loopC (fun (s : Int) (a : Act) (w : World) => match s with | i => Fr a 19 [(0, (.slice A list.length c)), (1, (.string name)), (5, (.int .i64 i))] ∧ Mem ⟨w0, []⟩ S [] [] [] [(false, MP.val [(.slice A list.length c)] (list : List ByteArray))] w) (fun k (s : Int) => spec_l2Find_L1 fu list name k s = some out') (fun s => out' = Out.next s) 0 fu hB1 ⟨hf, H⟩ (fun s h => by cases h) ?_ ?_
 ·rintro fk i a w hR1 hI
  replace hR1 : spec_l2Find_L1 fu list name (fk + 1) i = some out' := hR1
  rw [spec_l2Find_L1] at hR1
  obtain ⟨hf, H⟩ := hI
  refine sq (sqz (pz 4 hf fun a hf => ?_))
  refine wl_end (then_n (ib hR1 hf (fun hc hR1 => ?_) fun hc hR1 => ?_))
  ·refine ws (pz 2 hf fun a hf => ?_)
   obtain ⟨e, he, hR1⟩ := bs_ hR1
   refine wl0 rfl (op_iaddr hf H Try.underlying22 TF.sz9 0 rfl rfl rfl he (by decide) fun p o cs a hf hr H => ?_)
   obtain rfl := hr
   refine oq hf (rq_loadI hf H TF.ls9 0 0 rfl rfl rfl) fun a hf => ?_
   refine pz 2 hf fun a hf => ?_
   refine wl_end (then_n (ib hR1 hf (fun hc2 hR1 => ?_) fun hc2 hR1 => ?_))
   ·refine sqz (pz 2 hf fun a hf => ?_)
    have hf := hf.pn [4]
    refine wl_end (then_n (wp_ret (blk_r (then_r (then_r (blk_r (then_r (then_r (?_)))))))))
    obtain rfl := oi hR1
    replace hF := on_ret hF
    obtain rfl := oi hF
    refine rT hf ?_
    exact ⟨_, rfl, H.bel, mk_int⟩
   ·refine wp_skip (blk_n (then_n (reg (pz 3 hf fun a hf => ?_))))
    refine wl_end ?_
    have hf := hf.pn [0, 1, 5]
    have H := H.lt_ [] [] [] [1]
    exact then_n ⟨w64 (i + 1), hR1, hf, H⟩
  ·refine wp_exit (then_x (then_x (blk_e (?_))))
   have hf := hf.pn [0, 1, 5]
   have H := H.lt_ [] [] [] [0]
   exact ⟨i, (Option.some.inj hR1).symm, hf, H⟩
 rintro a w ⟨i2, rfl, hf, H⟩
 replace hF := on_next hF
 refine then_n (sqz (pz 1 hf fun a hf => ?_))
 refine wer ?_
 obtain rfl := oi hF
 refine rT hf ?_
 exact ⟨_, rfl, H.bel, mk_int⟩
theorem spec_l2Fiber_ok {S : Nat → Prop} {v0_ : Value} {v1_ : Value} {f : Fiber} {nodes : Int} {r : Bool} (h0 : VR w0 S v0_ f) (h1 : VR w0 S v1_ nodes) (hF : spec_l2Fiber fu f nodes = some r) :
    Calls Try.prog 38 [v0_, v1_].toArray w0 fun e w' => ∃ v, e = .returned v ∧ (Below w0.heap.size w0 w' ∧ VR w' (St ⟨w0, []⟩ S [] [] [] true) v r) := by
 obtain rfl := Fiber_open h0
 obtain rfl := VR_int h1
 have H := Mem.start ⟨w0, []⟩ S
 refine en Try.func38 fun a hf => ?_
 rw [spec_l2Fiber] at hF
 refine bx hf H fun b' a w hf H => ?_
 refine pz 1 hf fun a hf => ?_
 refine wl_end (then_n (sq ?_))
 obtain ⟨c, hGc, hF⟩ := bs_ hF
 have fh := hf.prune [] rfl
 have Hm := H.lt_ [false] [] [] []
 refine midF 4 (.bool c) fh Hm ?_ fun a w hf H => ?_
 ·refine reg (pz 1 hf fun a hf => ?_)
  refine lB 0 hf H TF.ls3 fun a hf => ?_
  refine pz 2 hf fun a hf => ?_
  obtain ⟨y, hy, hGc⟩ := bs_ hGc
  refine oc hf TF.cl21 (spec_l1In_ok (S := TT) mk_int mk_int mk_int hy) fun v w a hp hf => ?_
  obtain ⟨hb, hp⟩ := hp
  obtain rfl := VR_bool hp
  have H := H.keep hb
  refine pz 1 hf fun a hf => ?_
  refine iteB hGc (fun hc hGc => ?_) fun hc hGc => ?_
  ·have hf := hf.lit 10 rfl hc
   refine pz 1 hf fun a hf => ?_
   refine wlg hf rfl rfl rfl (op_q hf (rq_loadB hf H TF.ls3 0 rfl rfl rfl) rfl (by decide) fun a hf => ?_)
   refine pz 1 hf fun a hf => ?_
   refine wlg hf rfl rfl rfl (op_q hf (rq_loadB hf H TF.ls3 0 rfl rfl rfl) rfl (by decide) fun a hf => ?_)
   refine pz 3 hf fun a hf => ?_
   obtain ⟨y2, hy2, hGc⟩ := bs_ hGc
   refine wlg hf rfl rfl rfl (oC hf TF.cl21 (spec_l1In_ok (S := TT) mk_int mk_int mk_int hy2) fun v2 w a hp2 hf => ?_)
   obtain ⟨hb2, hp2⟩ := hp2
   obtain rfl := VR_bool hp2
   have H := H.keep hb2
   refine pz 2 hf fun a hf => ?_
   refine iteB hGc (fun hc2 hGc => ?_) fun hc2 hGc => ?_
   ·have hf := hf.lit 20 rfl hc2
    refine pz 1 hf fun a hf => ?_
    refine wlg hf rfl rfl rfl (op_q hf (rq_loadB hf H TF.ls3 0 rfl rfl rfl) rfl (by decide) fun a hf => ?_)
    obtain ⟨y3, hy3, hGc⟩ := bs_ hGc
    refine wlg hf rfl rfl rfl (oC hf TF.cl21 (spec_l1In_ok (S := TT) mk_int mk_int mk_int hy3) fun v3 w a hp3 hf => ?_)
    obtain ⟨hb3, hp3⟩ := hp3
    obtain rfl := VR_bool hp3
    have H := H.keep hb3
    refine pz 2 hf fun a hf => ?_
    refine iteB hGc (fun hc3 hGc => ?_) fun hc3 hGc => ?_
    ·have hf := hf.lit 25 rfl hc3
     refine pz 1 hf fun a hf => ?_
     refine wlg hf rfl rfl rfl (op_q hf (rq_loadB hf H TF.ls3 0 rfl rfl rfl) rfl (by decide) fun a hf => ?_)
     obtain ⟨y4, hy4, hGc⟩ := bs_ hGc
     refine wlg hf rfl rfl rfl (oC hf TF.cl21 (spec_l1In_ok (S := TT) mk_int mk_int mk_int hy4) fun v4 w a hp4 hf => ?_)
     obtain ⟨hb4, hp4⟩ := hp4
     obtain rfl := VR_bool hp4
     have H := H.keep hb4
     refine pz 2 hf fun a hf => ?_
     obtain rfl := oi hGc
     have hf := hf.pn [4]
     have H := H.lt_ [false] [] [] []
     exact wl_end ⟨hf, H⟩
    ·have hf := hf.lit 25 rfl hc3
     refine pz 5 hf fun a hf => ?_
     obtain rfl := oi hGc
     have hf := hf.pn [4]
     have H := H.lt_ [false] [] [] []
     exact wl_end ⟨hf, H⟩
   ·have hf := hf.lit 20 rfl hc2
    refine pz 10 hf fun a hf => ?_
    obtain rfl := oi hGc
    have hf := hf.pn [4]
    have H := H.lt_ [false] [] [] []
    exact wl_end ⟨hf, H⟩
  ·have hf := hf.lit 10 rfl hc
   refine pz 20 hf fun a hf => ?_
   obtain rfl := oi hGc
   have hf := hf.pn [4]
   have H := H.lt_ [false] [] [] []
   exact wl_end ⟨hf, H⟩
 refine then_n (wp_ret (?_))
 obtain rfl := oi hF
 refine rT hf ?_
 exact ⟨_, rfl, H.bel, mk_bool⟩
theorem spec_l2Before_ok {S : Nat → Prop} {v0_ : Value} {v1_ : Value} {f : Fiber} {g' : Fiber} {r : Int} (h0 : VR w0 S v0_ f) (h1 : VR w0 S v1_ g') (hF : spec_l2Before fu f g' = some r) :
    Calls Try.prog 39 [v0_, v1_].toArray w0 fun e w' => ∃ v, e = .returned v ∧ (Below w0.heap.size w0 w' ∧ VR w' (St ⟨w0, []⟩ S [] [] [] true) v r) := by
 obtain rfl := Fiber_open h0
 obtain rfl := Fiber_open h1
 have H := Mem.start ⟨w0, []⟩ S
 refine en Try.func39 fun a hf => ?_
 rw [spec_l2Before] at hF
 refine bx hf H fun b' a w hf H => ?_
 refine wl0 rfl (op_box hf H rfl rfl (by decide) fun b2 a w hf H => ?_)
 refine pz 1 hf fun a hf => ?_
 refine wl_end (then_n (sq (wp_block (sqz (pz 1 hf fun a hf => ?_)))))
 refine lB 1 hf H TF.ls3 fun a hf => ?_
 refine pz 1 hf fun a hf => ?_
 refine lB 0 hf H TF.ls3 fun a hf => ?_
 refine pz 2 hf fun a hf => ?_
 refine wl_end (then_n (ib hF hf (fun hc hF => ?_) fun hc hF => ?_))
 ·refine sqz (pz 1 hf fun a hf => ?_)
  refine lB 1 hf H TF.ls3 fun a hf => ?_
  refine pz 1 hf fun a hf => ?_
  refine lB 0 hf H TF.ls3 fun a hf => ?_
  refine pz 2 hf fun a hf => ?_
  have hf := hf.pn [4]
  refine wl_end (then_n (wp_ret (blk_r (then_r (?_)))))
  obtain rfl := oi hF
  refine rT hf ?_
  exact ⟨_, rfl, H.bel, mk_int⟩
 ·refine sqz (pz 1 hf fun a hf => ?_)
  refine lB 1 hf H TF.ls3 fun a hf => ?_
  refine pz 1 hf fun a hf => ?_
  refine lB 0 hf H TF.ls3 fun a hf => ?_
  refine pz 2 hf fun a hf => ?_
  have hf := hf.pn [2, 3, 16]
  refine wl_end (then_n (ib hF hf (fun hc2 hF => ?_) fun hc2 hF => ?_))
  ·refine sqz (pz 1 hf fun a hf => ?_)
   refine lB 1 hf H TF.ls3 fun a hf => ?_
   refine pz 1 hf fun a hf => ?_
   refine lB 0 hf H TF.ls3 fun a hf => ?_
   refine pz 2 hf fun a hf => ?_
   refine wl_end (then_n (wp_ret (blk_r (then_r (?_)))))
   obtain rfl := oi hF
   refine rT hf ?_
   exact ⟨_, rfl, H.bel, mk_int⟩
  ·refine sqz (pz 1 hf fun a hf => ?_)
   refine lB 1 hf H TF.ls3 fun a hf => ?_
   refine pz 1 hf fun a hf => ?_
   refine lB 0 hf H TF.ls3 fun a hf => ?_
   refine pz 2 hf fun a hf => ?_
   refine wl_end (then_n (ib hF hf (fun hc3 hF => ?_) fun hc3 hF => ?_))
   ·refine sqz (pz 1 hf fun a hf => ?_)
    refine lB 1 hf H TF.ls3 fun a hf => ?_
    refine pz 1 hf fun a hf => ?_
    refine lB 0 hf H TF.ls3 fun a hf => ?_
    refine pz 2 hf fun a hf => ?_
    have hf := hf.pn [4]
    refine wl_end (then_n (wp_ret (blk_r (then_r (?_)))))
    obtain rfl := oi hF
    refine rT hf ?_
    exact ⟨_, rfl, H.bel, mk_int⟩
   ·refine wp_skip (blk_n (then_n (sqz (pz 1 hf fun a hf => ?_))))
    refine lB 1 hf H TF.ls3 fun a hf => ?_
    refine pz 1 hf fun a hf => ?_
    refine lB 0 hf H TF.ls3 fun a hf => ?_
    refine pz 2 hf fun a hf => ?_
    have hf := hf.pn [4]
    refine wer ?_
    obtain rfl := oi hF
    refine rT hf ?_
    exact ⟨_, rfl, H.bel, mk_int⟩
theorem spec_l2Good_ok {S : Nat → Prop} {v0_ : Value} {n' : Network} {r : Bool} (h0 : VR w0 S v0_ n') (hF : spec_l2Good fu n' = some r) :
    Calls Try.prog 19 [v0_].toArray w0 fun e w' => ∃ v, e = .returned v ∧ (Below w0.heap.size w0 w' ∧ VR w' (St ⟨w0, []⟩ S [] [] [] true) v r) := by
 obtain ⟨A, c, A2, c2, rfl, hl, hl2⟩ := Network_open h0
 have H := Mem.start ⟨w0, []⟩ S
 have H := H.pA hl
 have H := H.pA hl2
 refine en Try.func19 fun a hf => ?_
 rw [spec_l2Good] at hF
 refine bx hf H fun b' a w hf H => ?_
 refine pz 1 hf fun a hf => ?_
 refine wl_end (then_n (sq (sq ?_)))
 obtain ⟨c3, hGc3, hF⟩ := bs_ hF
 have fh := hf.prune [1] rfl
 have Hm := H.lt_ [true] [] [] [0, 1]
 refine midF 15 (.bool c3) fh Hm ?_ fun a w hf H => ?_
 ·refine reg (pz 1 hf fun a hf => ?_)
  refine lB 0 hf H TF.ls22 fun a hf => ?_
  refine pz 1 hf fun a hf => ?_
  obtain ⟨y, hy, hGc3⟩ := bs_ hGc3
  refine oc hf TF.cl21 (spec_l1In_ok (S := TT) mk_int mk_int mk_int hy) fun v w a hp hf => ?_
  obtain ⟨hb, hp⟩ := hp
  obtain rfl := VR_bool hp
  have H := H.keep hb
  refine pz 2 hf fun a hf => ?_
  refine iteB hGc3 (fun hc hGc3 => ?_) fun hc hGc3 => ?_
  ·have hf := hf.lit 10 rfl hc
   refine pz 5 hf fun a hf => ?_
   obtain rfl := oi hGc3
   have hf := hf.pn [15, 1]
   have H := H.lt_ [true] [] [] [0, 1]
   exact wl_end ⟨hf, H⟩
  ·have hf := hf.lit 10 rfl hc
   refine pz 1 hf fun a hf => ?_
   refine wlg hf rfl rfl rfl (op_q hf (rq_loadB hf H TF.ls30 0 rfl rfl rfl) rfl (by decide) fun a hf => ?_)
   refine pz 3 hf fun a hf => ?_
   obtain rfl := oi hGc3
   have hf := hf.pn [15, 1]
   have H := H.lt_ [true] [] [] [0, 1]
   exact wl_end ⟨hf, H⟩
 refine then_n (ib hF hf (fun hc2 hF => ?_) fun hc2 hF => ?_)
 ·refine sqz (pz 1 hf fun a hf => ?_)
  refine wl_end (then_n (wp_ret (then_r (?_))))
  obtain rfl := oi hF
  refine rT hf ?_
  exact ⟨_, rfl, H.bel, mk_bool⟩
 ·refine wp_skip (then_n (sq (sqz (pz 1 hf fun a hf => ?_))))
  refine wl_end (then_n ?_)
  obtain ⟨out', hB1, hF⟩ := bs_ hF
  have hf := hf.pn [1, 3]
  have H := H.lt_ [true] [] [] [0, 1]
  refine loopC (fun (s : Int) (a : Act) (w : World) => match s with | i => Fr a 78 [(1, (.pointer (some ⟨b', 0, none⟩))), (3, (.int .i64 i))] ∧ Mem ⟨w0, []⟩ S [⟨b', 32, [(.slice A n'.Nodes.length c), (.slice A2 n'.Fibers.length c2)]⟩] [] [] [(false, MP.val [(.slice A2 n'.Fibers.length c2)] (n'.Fibers : List Fiber)), (false, MP.val [(.slice A n'.Nodes.length c)] (n'.Nodes : List ByteArray))] w) (fun k (s : Int) => spec_l2Good_L1 fu n' k s = some out') (fun s => out' = Out.next s) 0 fu hB1 ⟨hf, H⟩ (fun s h => by cases h) ?_ ?_
  ·rintro fk i a w hR1 hI
   replace hR1 : spec_l2Good_L1 fu n' (fk + 1) i = some out' := hR1
   rw [spec_l2Good_L1] at hR1
   obtain ⟨hf, H⟩ := hI
   refine sq (sqz (pz 2 hf fun a hf => ?_))
   refine lB 0 hf H TF.ls22 fun a hf => ?_
   refine pz 2 hf fun a hf => ?_
   refine wl_end (then_n (ib hR1 hf (fun hc3 hR1 => ?_) fun hc3 hR1 => ?_))
   ·refine wp_skip (then_n (sq (wp_block (sq ?_))))
    obtain ⟨c4, hGc4, hR1⟩ := bs_ hR1
    have fh2 := hf.prune [1, 3] rfl
    have Hm2 := H.lt_ [true] [] [] [0, 1]
    refine midF 41 (.bool c4) fh2 Hm2 ?_ fun a w hf H => ?_
    ·refine dw [] 19 fun w hb => ?_
     have H := H.keep hb
     refine zp 0 hf trivial fun a hf => ?_
     refine strT (H.lt_ [true] [] [] []) (fun w H => trivial) fun hS => ?_
     refine zS 1 [] rfl rfl rfl rfl hf hS (fun w H => rq_loadB hf H TF.ls22 0 rfl rfl rfl) fun a hf => ?_
     refine zp 2 hf hS fun a hf => ?_
     obtain ⟨e, he, hGc4⟩ := bs_ hGc4
     obtain ⟨p, o, cs, hx, hr, H⟩ := pre_iaddr H Try.underlying22 TF.sz9 1 rfl he
     refine zP 3 rfl rfl rfl rfl hf hS (fun w => rq_iaddrE hf rfl rfl rfl hx w) fun a hf => ?_
     obtain rfl := hr
     refine strT (H.lt_ [true] [] [] [0]) (fun w H => H.lt_ [true] [] [] []) fun hS => ?_
     refine zS 4 [] rfl rfl rfl rfl hf hS (fun w H => rq_loadI hf H TF.ls9 0 0 rfl rfl rfl) fun a hf => ?_
     obtain ⟨y2, hy2, hGc4⟩ := bs_ hGc4
     refine nn 5 rfl (oC hf TF.cl36 (spec_l2Name_ok (S := TT) mk_str hy2) fun v2 w a hp2 hf => ?_)
     obtain ⟨hb2, hp2⟩ := hp2
     obtain rfl := VR_bool hp2
     have H := H.keep hb2
     have hS := H.lt_ [true] [] [] [0]
     refine aS hS ?_
     refine zp 6 hf hS fun a hf => ?_
     refine zp 7 hf hS fun a hf => ?_
     refine iteB hGc4 (fun hc4 hGc4 => ?_) fun hc4 hGc4 => ?_
     ·have hf := hf.lit 30 rfl hc4
      refine zU 8 hf hS fun a hf => ?_
      refine zU 9 hf hS fun a hf => ?_
      refine zU 10 hf hS fun a hf => ?_
      refine zU 11 hf hS fun a hf => ?_
      refine zU 12 hf hS fun a hf => ?_
      refine zU 13 hf hS fun a hf => ?_
      refine zU 14 hf hS fun a hf => ?_
      refine zU 15 hf hS fun a hf => ?_
      refine zU 16 hf hS fun a hf => ?_
      refine zU 17 hf hS fun a hf => ?_
      refine zp 18 hf hS fun a hf => ?_
      refine dk ?_
      obtain rfl := oi hGc4
      have hf := hf.pn [41, 1, 3]
      have H := H.lt_ [true] [] [] [1, 2]
      exact ⟨hf, H⟩
     ·have hf := hf.lit 30 rfl hc4
      refine zg 8 hf hS fun a hf => ?_
      refine tSg 9 [] rfl rfl rfl rfl rfl rfl hf (by kernel_rfl) (by kernel_rfl) hS (fun w H => rq_loadB hf H TF.ls22 0 rfl rfl rfl) fun a hf => ?_
      refine zg 10 hf hS fun a hf => ?_
      refine tSg 11 [] rfl rfl rfl rfl rfl rfl hf (by kernel_rfl) (by kernel_rfl) hS (fun w H => rq_loadB hf H TF.ls22 0 rfl rfl rfl) fun a hf => ?_
      refine zg 12 hf hS fun a hf => ?_
      obtain ⟨e2, he2, hGc4⟩ := bs_ hGc4
      obtain ⟨p2, o2, cs2, hx2, hr2, H⟩ := pre_iaddr H Try.underlying22 TF.sz9 2 rfl he2
      refine tPg 13 rfl rfl rfl rfl rfl rfl hf (by kernel_rfl) (fun _ => hS) (fun w => rq_iaddrE hf rfl rfl rfl hx2 w) fun a hf => ?_
      obtain rfl := hr2
      refine strT (H.lt_ [true] [] [] [0, 1]) (fun w H => H.lt_ [true] [] [] [1]) fun hS => ?_
      refine tSg 14 [] rfl rfl rfl rfl rfl rfl hf (by kernel_rfl) (by kernel_rfl) hS (fun w H => rq_loadI hf H TF.ls9 0 0 rfl rfl rfl) fun a hf => ?_
      refine zg 16 hf hS fun a hf => ?_
      obtain ⟨y3, hy3, hGc4⟩ := bs_ hGc4
      refine n1g 15 (by kernel_rfl) rfl rfl rfl rfl hf (oC hf TF.cl37 (spec_l2Find_ok (S := TT) (mk_list (H.rt 3 rfl)) mk_str hy3) fun v3 w a hp3 hf => ?_)
      obtain ⟨hb3, hp3⟩ := hp3
      obtain rfl := VR_int hp3
      have H := H.keep hb3
      have hS := H.lt_ [true] [] [] [0, 1]
      refine aS hS ?_
      refine zg 17 hf hS fun a hf => ?_
      refine zp 18 hf hS fun a hf => ?_
      refine dk ?_
      obtain rfl := oi hGc4
      have hf := hf.pn [41, 1, 3]
      have H := H.lt_ [true] [] [] [2, 3]
      exact ⟨hf, H⟩
    refine then_n (ib hR1 hf (fun hc5 hR1 => ?_) fun hc5 hR1 => ?_)
    ·refine sqz (pz 1 hf fun a hf => ?_)
     refine wl_end (then_n (wp_ret (blk_r (then_r (then_r (blk_r (then_r (then_r (?_)))))))))
     obtain rfl := oi hR1
     replace hF := on_ret hF
     obtain rfl := oi hF
     refine rT hf ?_
     exact ⟨_, rfl, H.bel, mk_bool⟩
    ·refine wp_skip (blk_n (then_n (reg (pz 3 hf fun a hf => ?_))))
     refine wl_end ?_
     have hf := hf.pn [1, 3]
     have H := H.lt_ [true] [] [] [0, 1]
     exact then_n ⟨w64 (i + 1), hR1, hf, H⟩
   ·refine wp_exit (then_x (then_x (blk_e (?_))))
    have hf := hf.pn [1, 3]
    have H := H.lt_ [true] [] [] [0, 1]
    exact ⟨i, (Option.some.inj hR1).symm, hf, H⟩
  rintro a w ⟨i2, rfl, hf, H⟩
  replace hF := on_next hF
  refine then_n (sq (sqz (pz 1 hf fun a hf => ?_)))
  refine wl_end (then_n ?_)
  obtain ⟨out2, hB1, hF⟩ := bs_ hF
  have hf := hf.pn [1, 4]
  have H := H.lt_ [true] [] [] [0, 1]
  refine loopC (fun (s : Int) (a : Act) (w : World) => match s with | i3 => Fr a 78 [(1, (.pointer (some ⟨b', 0, none⟩))), (4, (.int .i64 i3))] ∧ Mem ⟨w0, []⟩ S [⟨b', 32, [(.slice A n'.Nodes.length c), (.slice A2 n'.Fibers.length c2)]⟩] [] [] [(false, MP.val [(.slice A2 n'.Fibers.length c2)] (n'.Fibers : List Fiber)), (false, MP.val [(.slice A n'.Nodes.length c)] (n'.Nodes : List ByteArray))] w) (fun k (s : Int) => spec_l2Good_L2 fu n' k s = some out2) (fun s => out2 = Out.next s) 0 fu hB1 ⟨hf, H⟩ (fun s h => by cases h) ?_ ?_
  ·rintro fk i3 a w hR1 hI
   replace hR1 : spec_l2Good_L2 fu n' (fk + 1) i3 = some out2 := hR1
   rw [spec_l2Good_L2] at hR1
   obtain ⟨hf, H⟩ := hI
   refine sq (sqz (pz 2 hf fun a hf => ?_))
   refine lB 0 hf H TF.ls30 fun a hf => ?_
   refine pz 2 hf fun a hf => ?_
   refine wl_end (then_n (ib hR1 hf (fun hc6 hR1 => ?_) fun hc6 hR1 => ?_))
   ·refine wp_skip (then_n (sq (wp_block (sq ?_))))
    obtain ⟨c5, hGc5, hR1⟩ := bs_ hR1
    have fh3 := hf.prune [1, 4] rfl
    have Hm3 := H.lt_ [true] [] [] [0, 1]
    refine midF 77 (.bool c5) fh3 Hm3 ?_ fun a w hf H => ?_
    ·refine dw [] 29 fun w hb => ?_
     have H := H.keep hb
     refine zp 0 hf trivial fun a hf => ?_
     refine strT (H.lt_ [true] [] [] []) (fun w H => trivial) fun hS => ?_
     refine zS 1 [] rfl rfl rfl rfl hf hS (fun w H => rq_loadB hf H TF.ls30 0 rfl rfl rfl) fun a hf => ?_
     refine zp 2 hf hS fun a hf => ?_
     obtain ⟨e3, he3, hGc5⟩ := bs_ hGc5
     obtain ⟨p3, o3, cs3, hx3, hr3, H⟩ := pre_iaddr H Try.underlying30 TF.sz63 0 rfl he3
     refine zP 3 rfl rfl rfl rfl hf hS (fun w => rq_iaddrE hf rfl rfl rfl hx3 w) fun a hf => ?_
     obtain rfl := Fiber_cells hr3
     refine strT (H.lt_ [true] [] [] [0]) (fun w H => H.lt_ [true] [] [] []) fun hS => ?_
     refine zS 4 [] rfl rfl rfl rfl hf hS (fun w H => rq_loadIN hf H TF.la63 0 0 rfl rfl rfl rfl) fun a hf => ?_
     refine zp 5 hf hS fun a hf => ?_
     refine zS 6 [] rfl rfl rfl rfl hf hS (fun w H => rq_loadB hf H TF.ls22 0 rfl rfl rfl) fun a hf => ?_
     refine zp 7 hf hS fun a hf => ?_
     obtain ⟨y4, hy4, hGc5⟩ := bs_ hGc5
     refine nn 8 rfl (oC hf TF.cl38 (spec_l2Fiber_ok (S := TT) Fiber_mkv mk_int hy4) fun v4 w a hp4 hf => ?_)
     obtain ⟨hb4, hp4⟩ := hp4
     obtain rfl := VR_bool hp4
     have H := H.keep hb4
     have hS := H.lt_ [true] [] [] [0]
     refine aS hS ?_
     refine zp 9 hf hS fun a hf => ?_
     refine zp 10 hf hS fun a hf => ?_
     refine iteB hGc5 (fun hc7 hGc5 => ?_) fun hc7 hGc5 => ?_
     ·have hf := hf.lit 59 rfl hc7
      refine zU 11 hf hS fun a hf => ?_
      refine zU 12 hf hS fun a hf => ?_
      refine zU 13 hf hS fun a hf => ?_
      refine zV 14 hf hS fun a hf => ?_
      refine zV 15 hf hS fun a hf => ?_
      refine zV 16 hf hS fun a hf => ?_
      refine zV 17 hf hS fun a hf => ?_
      refine zV 18 hf hS fun a hf => ?_
      refine zV 19 hf hS fun a hf => ?_
      refine zV 20 hf hS fun a hf => ?_
      refine zV 21 hf hS fun a hf => ?_
      refine zV 22 hf hS fun a hf => ?_
      refine zV 23 hf hS fun a hf => ?_
      refine zV 24 hf hS fun a hf => ?_
      refine zV 25 hf hS fun a hf => ?_
      refine zV 26 hf hS fun a hf => ?_
      refine zU 27 hf hS fun a hf => ?_
      refine zp 28 hf hS fun a hf => ?_
      refine dk ?_
      obtain rfl := oi hGc5
      have hf := hf.pn [77, 1, 4]
      have H := H.lt_ [true] [] [] [1, 2]
      exact ⟨hf, H⟩
     ·have hf := hf.lit 59 rfl hc7
      refine zg 11 hf hS fun a hf => ?_
      refine zg 12 hf hS fun a hf => ?_
      refine zg 13 hf hS fun a hf => ?_
      refine iteB hGc5 (fun hc8 hGc5 => ?_) fun hc8 hGc5 => ?_
      ·have hf := hf.lit 62 rfl hc8
       refine zg 14 hf hS fun a hf => ?_
       refine tSg 15 [] rfl rfl rfl rfl rfl rfl hf (by kernel_rfl) (by kernel_rfl) hS (fun w H => rq_loadB hf H TF.ls30 0 rfl rfl rfl) fun a hf => ?_
       refine zg 16 hf hS fun a hf => ?_
       refine zg 17 hf hS fun a hf => ?_
       obtain ⟨e4, he4, hGc5⟩ := bs_ hGc5
       obtain ⟨p4, o4, cs4, hx4, hr4, H⟩ := pre_iaddr H Try.underlying30 TF.sz63 1 rfl he4
       refine tPg 18 rfl rfl rfl rfl rfl rfl hf (by kernel_rfl) (fun _ => hS) (fun w => rq_iaddrE hf rfl rfl rfl hx4 w) fun a hf => ?_
       obtain rfl := Fiber_cells hr4
       refine strT (H.lt_ [true] [] [] [0, 1]) (fun w H => H.lt_ [true] [] [] [1]) fun hS => ?_
       refine tSg 19 [] rfl rfl rfl rfl rfl rfl hf (by kernel_rfl) (by kernel_rfl) hS (fun w H => rq_loadIN hf H TF.la63 0 0 rfl rfl rfl rfl) fun a hf => ?_
       refine zg 20 hf hS fun a hf => ?_
       refine tSg 21 [] rfl rfl rfl rfl rfl rfl hf (by kernel_rfl) (by kernel_rfl) hS (fun w H => rq_loadB hf H TF.ls30 0 rfl rfl rfl) fun a hf => ?_
       refine zg 22 hf hS fun a hf => ?_
       obtain ⟨e5, he5, hGc5⟩ := bs_ hGc5
       obtain ⟨p5, o5, cs5, hx5, hr5, H⟩ := pre_iaddr H Try.underlying30 TF.sz63 2 rfl he5
       refine tPg 23 rfl rfl rfl rfl rfl rfl hf (by kernel_rfl) (fun _ => hS) (fun w => rq_iaddrE hf rfl rfl rfl hx5 w) fun a hf => ?_
       obtain rfl := Fiber_cells hr5
       refine strT (H.lt_ [true] [] [] [0, 1, 2]) (fun w H => H.lt_ [true] [] [] [1, 2]) fun hS => ?_
       refine tSg 24 [] rfl rfl rfl rfl rfl rfl hf (by kernel_rfl) (by kernel_rfl) hS (fun w H => rq_loadIN hf H TF.la63 0 0 rfl rfl rfl rfl) fun a hf => ?_
       obtain ⟨y5, hy5, hGc5⟩ := bs_ hGc5
       refine n1g 25 (by kernel_rfl) rfl rfl rfl rfl hf (oC hf TF.cl39 (spec_l2Before_ok (S := TT) Fiber_mkv Fiber_mkv hy5) fun v5 w a hp5 hf => ?_)
       obtain ⟨hb5, hp5⟩ := hp5
       obtain rfl := VR_int hp5
       have H := H.keep hb5
       have hS := H.lt_ [true] [] [] [0, 1, 2]
       refine aS hS ?_
       refine zg 26 hf hS fun a hf => ?_
       refine zg 27 hf hS fun a hf => ?_
       refine zp 28 hf hS fun a hf => ?_
       refine dk ?_
       obtain rfl := oi hGc5
       have hf := hf.pn [77, 1, 4]
       have H := H.lt_ [true] [] [] [3, 4]
       exact ⟨hf, H⟩
      ·have hf := hf.lit 62 rfl hc8
       refine zU 14 hf hS fun a hf => ?_
       refine zU 15 hf hS fun a hf => ?_
       refine zU 16 hf hS fun a hf => ?_
       refine zU 17 hf hS fun a hf => ?_
       refine zU 18 hf hS fun a hf => ?_
       refine zU 19 hf hS fun a hf => ?_
       refine zU 20 hf hS fun a hf => ?_
       refine zU 21 hf hS fun a hf => ?_
       refine zU 22 hf hS fun a hf => ?_
       refine zU 23 hf hS fun a hf => ?_
       refine zU 24 hf hS fun a hf => ?_
       refine zU 25 hf hS fun a hf => ?_
       refine zU 26 hf hS fun a hf => ?_
       refine zg 27 hf hS fun a hf => ?_
       refine zp 28 hf hS fun a hf => ?_
       refine dk ?_
       obtain rfl := oi hGc5
       have hf := hf.pn [77, 1, 4]
       have H := H.lt_ [true] [] [] [1, 2]
       exact ⟨hf, H⟩
    refine then_n (ib hR1 hf (fun hc9 hR1 => ?_) fun hc9 hR1 => ?_)
    ·refine sqz (pz 1 hf fun a hf => ?_)
     refine wl_end (then_n (wp_ret (blk_r (then_r (then_r (blk_r (then_r (then_r (?_)))))))))
     obtain rfl := oi hR1
     replace hF := on_ret hF
     obtain rfl := oi hF
     refine rT hf ?_
     exact ⟨_, rfl, H.bel, mk_bool⟩
    ·refine wp_skip (blk_n (then_n (reg (pz 3 hf fun a hf => ?_))))
     refine wl_end ?_
     have hf := hf.pn [1, 4]
     have H := H.lt_ [true] [] [] [0, 1]
     exact then_n ⟨w64 (i3 + 1), hR1, hf, H⟩
   ·refine wp_exit (then_x (then_x (blk_e (?_))))
    have hf := hf.pn [1, 4]
    have H := H.lt_ [true] [] [] [0, 1]
    exact ⟨i3, (Option.some.inj hR1).symm, hf, H⟩
  rintro a w ⟨i4, rfl, hf, H⟩
  replace hF := on_next hF
  refine then_n (sqz (pz 1 hf fun a hf => ?_))
  refine wer ?_
  obtain rfl := oi hF
  refine rT hf ?_
  exact ⟨_, rfl, H.bel, mk_bool⟩
theorem spec_l19From_ok {S : Nat → Prop} {v0_ : Value} {v1_ : Value} {n' : Network} {node : Int} {r : List Int} (h0 : VR w0 S v0_ n') (h1 : VR w0 S v1_ node) (hF : spec_l19From fu n' node = some r) :
    Calls Try.prog 40 [v0_, v1_].toArray w0 fun e w' => ∃ v, e = .returned v ∧ (Below w0.heap.size w0 w' ∧ ∃ F0, VO w' F0 v r ∧ New w0 w' F0) := by
 obtain ⟨A, c, A2, c2, rfl, hl, hl2⟩ := Network_open h0
 obtain rfl := VR_int h1
 have H := Mem.start ⟨w0, []⟩ S
 have H := H.pA hl
 have H := H.pA hl2
 refine en Try.func40 fun a hf => ?_
 rw [spec_l19From] at hF
 refine bx hf H fun b' a w hf H => ?_
 refine pz 1 hf fun a hf => ?_
 refine wr (wl0 rfl (bl hf H 3 ([] : List Int) [] el0 fun A3 a w hf H => ?_))
 refine pz 1 hf fun a hf => ?_
 refine we (sqz (pz 1 hf fun a hf => ?_))
 refine wl_end (then_n ?_)
 obtain ⟨out2, hB1, hF⟩ := bs_ hF
 have hf := hf.pn [1, 2, 5, 6]
 have H := H.lt_ [true] [true] [] [0, 1]
 refine loopC (fun (s : List Int × Int) (a : Act) (w : World) => match s with | (out', i) => ∃ (A4 : Option Addr) (c3 : Nat) (E : Go.TypeId), Fr a 122 [(1, (.int .i64 node)), (2, (.pointer (some ⟨b', 0, none⟩))), (5, (.slice A4 out'.length c3)), (6, (.int .i64 i))] ∧ Mem ⟨w0, []⟩ S [⟨b', 32, [(.slice A n'.Nodes.length c), (.slice A2 n'.Fibers.length c2)]⟩] [⟨.sh true, E, A4, c3, (out' : List Int)⟩] [] [(false, MP.val [(.slice A2 n'.Fibers.length c2)] (n'.Fibers : List Fiber)), (false, MP.val [(.slice A n'.Nodes.length c)] (n'.Nodes : List ByteArray))] w) (fun k (s : List Int × Int) => spec_l19From_L1 fu n' k s.1 s.2 = some out2) (fun s => out2 = s) (([] : List Int), 0) fu hB1 ⟨A3, 0, 3, hf, H⟩ (fun s h => by cases h) ?_ ?_
 ·rintro fk ⟨out', i⟩ a w hR1 hI
  replace hR1 : spec_l19From_L1 fu n' (fk + 1) out' i = some out2 := hR1
  rw [spec_l19From_L1] at hR1
  obtain ⟨A4, c3, E, hf, H⟩ := hI
  refine sq (sqz (pz 2 hf fun a hf => ?_))
  refine lB 0 hf H TF.ls22 fun a hf => ?_
  refine pz 2 hf fun a hf => ?_
  refine wl_end (then_n (ib hR1 hf (fun hc hR1 => ?_) fun hc hR1 => ?_))
  ·refine wp_skip (then_n (sq (wp_block (reg (pz 1 hf fun a hf => ?_)))))
   refine wl0 rfl (bl hf H 3 ([(-1)] : List Int) [(.int .i64 (-1))] (el1 (y := (-1)) (rfl)) fun A5 a w hf H => ?_)
   obtain ⟨l, hl_, hR1⟩ := bs_ hR1
   refine wl0 rfl (op_appR hf H Try.underlying26 TF.ai3 rfl (by decide) 1 0 rfl rfl rfl rfl (.inr rfl) hl_ (by decide) fun E2 A6 c4 a w hf H => ?_)
   refine pz 1 hf fun a hf => ?_
   refine wl_end (blk_n (then_n (reg (pz 3 hf fun a hf => ?_))))
   refine wl_end ?_
   have hf := hf.pn [1, 2, 5, 6]
   have H := H.lt_ [true] [false, true] [] [0, 1]
   exact then_n ⟨(l, w64 (i + 1)), hR1, A6, c4, E2, hf, H⟩
  ·refine wp_exit (then_x (then_x (blk_e (?_))))
   have hf := hf.pn [1, 2, 5, 6]
   have H := H.lt_ [true] [true] [] [0, 1]
   exact ⟨(out', i), (Option.some.inj hR1).symm, A4, c3, E, hf, H⟩
 rintro a w ⟨⟨out3, i2⟩, rfl, A7, c5, E3, hf, H⟩
 try dsimp only at hF
 refine then_n (sqz (pz 2 hf fun a hf => ?_))
 obtain ⟨e, he, hF⟩ := bs_ hF
 refine wl0 rfl (op_iaddrR hf H Try.underlying26 TF.sz3 0 rfl rfl rfl he (by decide) fun p o cs a hf hA hr hk => ?_)
 obtain rfl := hr
 refine wl0 rfl (op_storeR (e' := 0) (o := o) (off := 0) hf H TF.sz3 0 rfl rfl rfl rfl rfl (nle rfl) rfl hA he (st_full rfl) fun w H => ?_)
 replace hf : Fr a 122 [(1, (.int .i64 node)), (2, (.pointer (some ⟨b', 0, none⟩))), (5, (.slice A7 out3.length c5)), (21, (.slice A7 out3.length c5)), (22, (.int .i64 node)), (23, (.pointer (some ⟨p, o + 0, none⟩)))] := hf.prune [1, 2, 5, 21, 22, 23] rfl
 replace hf : Fr a 122 [(1, (.int .i64 node)), (2, (.pointer (some ⟨b', 0, none⟩))), (5, (.slice A7 (out3.set (node : Int).toNat 0).length c5)), (21, (.slice A7 (out3.set (node : Int).toNat 0).length c5)), (22, (.int .i64 node)), (23, (.pointer (some ⟨p, o + 0, none⟩)))] := by simpa only [List.length_set, Nat.add_zero] using hf
 refine we (sqz (pz 1 hf fun a hf => ?_))
 refine wl_end (then_n ?_)
 obtain ⟨out5, hB1, hF⟩ := bs_ hF
 have hf := hf.pn [2, 5, 7]
 have H := H.lt_ [true] [true] [] [0, 1]
 refine loopC (fun (s : List Int × Bool) (a : Act) (w : World) => match s with | (out4, more) => ∃ (A8 : Option Addr) (c6 : Nat) (E4 : Go.TypeId), Fr a 122 [(2, (.pointer (some ⟨b', 0, none⟩))), (5, (.slice A8 out4.length c6)), (7, (.bool more))] ∧ Mem ⟨w0, []⟩ S [⟨b', 32, [(.slice A n'.Nodes.length c), (.slice A2 n'.Fibers.length c2)]⟩] [⟨.sh true, E4, A8, c6, (out4 : List Int)⟩] [] [(false, MP.val [(.slice A2 n'.Fibers.length c2)] (n'.Fibers : List Fiber)), (false, MP.val [(.slice A n'.Nodes.length c)] (n'.Nodes : List ByteArray))] w) (fun k (s : List Int × Bool) => spec_l19From_L2 fu n' k s.1 s.2 = some out5) (fun s => out5 = s) (out3.set (node : Int).toNat 0, true) fu hB1 ⟨A7, c5, E3, hf, H⟩ (fun s h => by cases h) ?_ ?_
 ·rintro fk ⟨out4, more⟩ a w hR1 hI
  replace hR1 : spec_l19From_L2 fu n' (fk + 1) out4 more = some out5 := hR1
  rw [spec_l19From_L2] at hR1
  obtain ⟨A8, c6, E4, hf, H⟩ := hI
  refine sq (sqz (pz 1 hf fun a hf => ?_))
  refine wl_end (then_n (ib hR1 hf (fun hc2 hR1 => ?_) fun hc2 hR1 => ?_))
  ·refine wp_skip (then_n (wp_block (sqz (pz 1 hf fun a hf => ?_))))
   refine wr (pz 1 hf fun a hf => ?_)
   refine wl_end (then_n ?_)
   obtain ⟨out7, hB2, hR1⟩ := bs_ hR1
   have hf := hf.pn [2, 5, 7, 8]
   have H := H.lt_ [true] [true] [] [0, 1]
   refine loopC (fun (s : List Int × Bool × Int) (a : Act) (w : World) => match s with | (out6, more2, i3) => ∃ (A9 : Option Addr) (c7 : Nat) (E5 : Go.TypeId), Fr a 122 [(2, (.pointer (some ⟨b', 0, none⟩))), (5, (.slice A9 out6.length c7)), (7, (.bool more2)), (8, (.int .i64 i3))] ∧ Mem ⟨w0, []⟩ S [⟨b', 32, [(.slice A n'.Nodes.length c), (.slice A2 n'.Fibers.length c2)]⟩] [⟨.sh true, E5, A9, c7, (out6 : List Int)⟩] [] [(false, MP.val [(.slice A2 n'.Fibers.length c2)] (n'.Fibers : List Fiber)), (false, MP.val [(.slice A n'.Nodes.length c)] (n'.Nodes : List ByteArray))] w) (fun k (s : List Int × Bool × Int) => spec_l19From_L3 fu n' k s.1 s.2.1 s.2.2 = some out7) (fun s => out7 = s) (out4, false, 0) fu hB2 ⟨A8, c6, E4, hf, H⟩ (fun s h => by cases h) ?_ ?_
   ·rintro fk ⟨out6, more2, i3⟩ a w hR2 hI
    replace hR2 : spec_l19From_L3 fu n' (fk + 1) out6 more2 i3 = some out7 := hR2
    rw [spec_l19From_L3] at hR2
    obtain ⟨A9, c7, E5, hf, H⟩ := hI
    refine sq (sqz (pz 2 hf fun a hf => ?_))
    refine lB 0 hf H TF.ls30 fun a hf => ?_
    refine pz 2 hf fun a hf => ?_
    refine wl_end (then_n (ib hR2 hf (fun hc3 hR2 => ?_) fun hc3 hR2 => ?_))
    ·refine ws (pz 1 hf fun a hf => ?_)
     refine lB 0 hf H TF.ls30 fun a hf => ?_
     refine pz 1 hf fun a hf => ?_
     obtain ⟨e2, he2, hR2⟩ := bs_ hR2
     refine wl0 rfl (op_iaddr hf H Try.underlying30 TF.sz63 0 rfl rfl rfl he2 (by decide) fun p2 o2 cs2 a hf hr2 H => ?_)
     obtain rfl := Fiber_cells hr2
     refine oq hf (rq_loadIN hf H TF.la63 0 0 rfl rfl rfl rfl) fun a hf => ?_
     refine aL hf H TF.zv63 fun b2 a w hf H => ?_
     refine sB 0 hf H TF.sz63 fun w H => ?_
     refine wl_end (then_n (sq (sq ?_)))
     obtain ⟨c8, hGc8, hR2⟩ := bs_ hR2
     have fh := hf.prune [2, 5, 7, 8, 9] rfl
     have Hm := H.lt_ [true, true] [true] [] [1, 2]
     refine midF 66 (.bool c8) fh Hm ?_ fun a w hf H => ?_
     ·refine dw [] 30 fun w hb => ?_
      have H := H.keep hb
      refine zp 0 hf trivial fun a hf => ?_
      refine zp 1 hf trivial fun a hf => ?_
      refine strT (H.lt_ [true, false] [false] [] []) (fun w H => trivial) fun hS => ?_
      refine zS 2 [] rfl rfl rfl rfl hf hS (fun w H => rq_loadB hf H TF.ls3 0 rfl rfl rfl) fun a hf => ?_
      obtain ⟨e3, he3, hGc8⟩ := bs_ hGc8
      obtain ⟨p3, o3, hA2, hx⟩ := pre_iaddrR H Try.underlying26 TF.sz3 0 rfl he3
      refine zP 3 rfl rfl rfl rfl hf hS (fun w => rq_iaddrE hf rfl rfl rfl hx w) fun a hf => ?_
      refine strT (H.lt_ [true, false] [true] [] []) (fun w H => H.lt_ [true] [false] [] []) fun hS => ?_
      refine zS 4 [] rfl rfl rfl rfl hf hS (fun w H => rq_loadRow (off := 0) hf H TF.ls3 0 rfl rfl hA2 he3 (fun w T cs h => by obtain rfl := h; rfl)) fun a hf => ?_
      refine zp 5 hf hS fun a hf => ?_
      refine zp 6 hf hS fun a hf => ?_
      refine iteB hGc8 (fun hc4 hGc8 => ?_) fun hc4 hGc8 => ?_
      ·have hf := hf.lit 43 rfl hc4
       refine zg 7 hf hS fun a hf => ?_
       refine zg 8 hf hS fun a hf => ?_
       refine tSg 9 [] rfl rfl rfl rfl rfl rfl hf (by kernel_rfl) (by kernel_rfl) hS (fun w H => rq_loadB hf H TF.ls3 0 rfl rfl rfl) fun a hf => ?_
       obtain ⟨e4, he4, hGc8⟩ := bs_ hGc8
       obtain ⟨p4, o4, hA3, hx2⟩ := pre_iaddrR H Try.underlying26 TF.sz3 0 rfl he4
       refine tPg 10 rfl rfl rfl rfl rfl rfl hf (by kernel_rfl) (fun _ => hS) (fun w => rq_iaddrE hf rfl rfl rfl hx2 w) fun a hf => ?_
       refine tSg 11 [] rfl rfl rfl rfl rfl rfl hf (by kernel_rfl) (by kernel_rfl) hS (fun w H => rq_loadRow (off := 0) hf H TF.ls3 0 rfl rfl hA3 he4 (fun w T cs h => by obtain rfl := h; rfl)) fun a hf => ?_
       refine zg 12 hf hS fun a hf => ?_
       refine zg 13 hf hS fun a hf => ?_
       refine iteB hGc8 (fun hc5 hGc8 => ?_) fun hc5 hGc8 => ?_
       ·have hf := hf.lit 50 rfl hc5
        refine zU 14 hf hS fun a hf => ?_
        refine zU 15 hf hS fun a hf => ?_
        refine zU 16 hf hS fun a hf => ?_
        refine zU 17 hf hS fun a hf => ?_
        refine zU 18 hf hS fun a hf => ?_
        refine zU 19 hf hS fun a hf => ?_
        refine zU 20 hf hS fun a hf => ?_
        refine zU 21 hf hS fun a hf => ?_
        refine zU 22 hf hS fun a hf => ?_
        refine zU 23 hf hS fun a hf => ?_
        refine zU 24 hf hS fun a hf => ?_
        refine zU 25 hf hS fun a hf => ?_
        refine zU 26 hf hS fun a hf => ?_
        refine zU 27 hf hS fun a hf => ?_
        refine zg 28 hf hS fun a hf => ?_
        refine zp 29 hf hS fun a hf => ?_
        refine dk ?_
        obtain rfl := oi hGc8
        have hf := hf.pn [66, 2, 5, 7, 8, 9]
        have H := H.lt_ [true, true] [true] [] [1, 2]
        exact ⟨hf, H⟩
       ·have hf := hf.lit 50 rfl hc5
        refine zg 14 hf hS fun a hf => ?_
        refine zg 15 hf hS fun a hf => ?_
        refine tSg 16 [] rfl rfl rfl rfl rfl rfl hf (by kernel_rfl) (by kernel_rfl) hS (fun w H => rq_loadB hf H TF.ls3 0 rfl rfl rfl) fun a hf => ?_
        obtain ⟨e5, he5, hGc8⟩ := bs_ hGc8
        obtain ⟨p5, o5, hA4, hx3⟩ := pre_iaddrR H Try.underlying26 TF.sz3 0 rfl he5
        refine tPg 17 rfl rfl rfl rfl rfl rfl hf (by kernel_rfl) (fun _ => hS) (fun w => rq_iaddrE hf rfl rfl rfl hx3 w) fun a hf => ?_
        refine tSg 18 [] rfl rfl rfl rfl rfl rfl hf (by kernel_rfl) (by kernel_rfl) hS (fun w H => rq_loadRow (off := 0) hf H TF.ls3 0 rfl rfl hA4 he5 (fun w T cs h => by obtain rfl := h; rfl)) fun a hf => ?_
        refine zg 19 hf hS fun a hf => ?_
        refine tSg 20 [] rfl rfl rfl rfl rfl rfl hf (by kernel_rfl) (by kernel_rfl) hS (fun w H => rq_loadB hf H TF.ls3 0 rfl rfl rfl) fun a hf => ?_
        refine zg 21 hf hS fun a hf => ?_
        refine zg 22 hf hS fun a hf => ?_
        refine zg 23 hf hS fun a hf => ?_
        refine tSg 24 [] rfl rfl rfl rfl rfl rfl hf (by kernel_rfl) (by kernel_rfl) hS (fun w H => rq_loadB hf H TF.ls3 0 rfl rfl rfl) fun a hf => ?_
        obtain ⟨e6, he6, hGc8⟩ := bs_ hGc8
        obtain ⟨p6, o6, hA5, hx4⟩ := pre_iaddrR H Try.underlying26 TF.sz3 0 rfl he6
        refine tPg 25 rfl rfl rfl rfl rfl rfl hf (by kernel_rfl) (fun _ => hS) (fun w => rq_iaddrE hf rfl rfl rfl hx4 w) fun a hf => ?_
        refine tSg 26 [] rfl rfl rfl rfl rfl rfl hf (by kernel_rfl) (by kernel_rfl) hS (fun w H => rq_loadRow (off := 0) hf H TF.ls3 0 rfl rfl hA5 he6 (fun w T cs h => by obtain rfl := h; rfl)) fun a hf => ?_
        refine zg 27 hf hS fun a hf => ?_
        refine zg 28 hf hS fun a hf => ?_
        refine zp 29 hf hS fun a hf => ?_
        refine dk ?_
        obtain rfl := oi hGc8
        have hf := hf.pn [66, 2, 5, 7, 8, 9]
        have H := H.lt_ [true, true] [true] [] [1, 2]
        exact ⟨hf, H⟩
      ·have hf := hf.lit 43 rfl hc4
       refine zU 7 hf hS fun a hf => ?_
       refine zU 8 hf hS fun a hf => ?_
       refine zU 9 hf hS fun a hf => ?_
       refine zU 10 hf hS fun a hf => ?_
       refine zU 11 hf hS fun a hf => ?_
       refine zU 12 hf hS fun a hf => ?_
       refine zU 13 hf hS fun a hf => ?_
       refine zV 14 hf hS fun a hf => ?_
       refine zV 15 hf hS fun a hf => ?_
       refine zV 16 hf hS fun a hf => ?_
       refine zV 17 hf hS fun a hf => ?_
       refine zV 18 hf hS fun a hf => ?_
       refine zV 19 hf hS fun a hf => ?_
       refine zV 20 hf hS fun a hf => ?_
       refine zV 21 hf hS fun a hf => ?_
       refine zV 22 hf hS fun a hf => ?_
       refine zV 23 hf hS fun a hf => ?_
       refine zV 24 hf hS fun a hf => ?_
       refine zV 25 hf hS fun a hf => ?_
       refine zV 26 hf hS fun a hf => ?_
       refine zV 27 hf hS fun a hf => ?_
       refine zU 28 hf hS fun a hf => ?_
       refine zp 29 hf hS fun a hf => ?_
       refine dk ?_
       obtain rfl := oi hGc8
       have hf := hf.pn [66, 2, 5, 7, 8, 9]
       have H := H.lt_ [true, true] [true] [] [1, 2]
       exact ⟨hf, H⟩
     refine then_n (ib hR2 hf (fun hc6 hR2 => ?_) fun hc6 hR2 => ?_)
     ·refine sq (dw [12] 13 fun w hb => ?_)
      have H := H.keep hb
      refine zp 0 hf trivial fun a hf => ?_
      refine zp 1 hf trivial fun a hf => ?_
      refine strT (H.lt_ [true, false] [false] [] []) (fun w H => trivial) fun hS => ?_
      refine zS 2 [2, 11, 12] rfl rfl rfl rfl hf hS (fun w H => rq_loadB hf H TF.ls3 0 rfl rfl rfl) fun a hf => ?_
      refine zp 3 hf hS fun a hf => ?_
      refine zp 4 hf hS fun a hf => ?_
      refine zS 5 [5, 6, 7, 10, 11, 12] rfl rfl rfl rfl hf hS (fun w H => rq_loadB hf H TF.ls3 0 rfl rfl rfl) fun a hf => ?_
      obtain ⟨e7, he7, hR2⟩ := bs_ hR2
      obtain ⟨p7, o7, hA6, hx5⟩ := pre_iaddrR H Try.underlying26 TF.sz3 0 rfl he7
      refine zP 6 rfl rfl rfl rfl hf hS (fun w => rq_iaddrE hf rfl rfl rfl hx5 w) fun a hf => ?_
      refine strT (H.lt_ [true, false] [true] [] []) (fun w H => H.lt_ [true] [false] [] []) fun hS => ?_
      refine zS 7 [7, 10, 11, 12] rfl rfl rfl rfl hf hS (fun w H => rq_loadRow (off := 0) hf H TF.ls3 0 rfl rfl hA6 he7 (fun w T cs h => by obtain rfl := h; rfl)) fun a hf => ?_
      refine zp 8 hf hS fun a hf => ?_
      refine zS 9 [9, 10, 11, 12] rfl rfl rfl rfl hf hS (fun w H => rq_loadB hf H TF.ls3 0 rfl rfl rfl) fun a hf => ?_
      refine zp 10 hf hS fun a hf => ?_
      obtain ⟨e8, he8, hR2⟩ := bs_ hR2
      refine nn 11 rfl (op_iaddrR hf H Try.underlying26 TF.sz3 0 rfl rfl rfl he8 (by decide) fun p8 o8 cs3 a hf hA7 hr3 hk2 => ?_)
      obtain rfl := hr3
      have hS := H.lt_ [true, false] [true] [] []
      refine aS hS ?_
      refine nn 12 rfl (op_storeR (e' := w64 (e7 + e2.Length)) (o := o8) (off := 0) hf H TF.sz3 0 rfl rfl rfl rfl rfl (nle rfl) rfl hA7 he8 (st_full rfl) fun w H => ?_)
      replace hf : Fr a 122 [(2, (.pointer (some ⟨b', 0, none⟩))), (5, (.slice A9 out6.length c7)), (8, (.int .i64 i3)), (9, (.pointer (some ⟨b2, 0, none⟩))), (67, (.slice A9 out6.length c7)), (68, (.pointer (some ⟨b2, 1, none⟩))), (69, (.int .i64 e2.B)), (70, (.slice A9 out6.length c7)), (71, (.pointer (some ⟨b2, 0, none⟩))), (72, (.int .i64 e2.A)), (73, (.pointer (some ⟨p7, o7 + 0, none⟩))), (74, (.int .i64 e7)), (75, (.pointer (some ⟨b2, 2, none⟩))), (76, (.int .i64 e2.Length)), (77, (.int .i64 (w64 (e7 + e2.Length)))), (78, (.pointer (some ⟨p8, o8 + 0, none⟩)))] := hf.prune [2, 5, 8, 9, 67, 68, 69, 70, 71, 72, 73, 74, 75, 76, 77, 78] rfl
      replace hf : Fr a 122 [(2, (.pointer (some ⟨b', 0, none⟩))), (5, (.slice A9 (out6.set (e2.B : Int).toNat (w64 (e7 + e2.Length))).length c7)), (8, (.int .i64 i3)), (9, (.pointer (some ⟨b2, 0, none⟩))), (67, (.slice A9 (out6.set (e2.B : Int).toNat (w64 (e7 + e2.Length))).length c7)), (68, (.pointer (some ⟨b2, 1, none⟩))), (69, (.int .i64 e2.B)), (70, (.slice A9 (out6.set (e2.B : Int).toNat (w64 (e7 + e2.Length))).length c7)), (71, (.pointer (some ⟨b2, 0, none⟩))), (72, (.int .i64 e2.A)), (73, (.pointer (some ⟨p7, o7 + 0, none⟩))), (74, (.int .i64 e7)), (75, (.pointer (some ⟨b2, 2, none⟩))), (76, (.int .i64 e2.Length)), (77, (.int .i64 (w64 (e7 + e2.Length)))), (78, (.pointer (some ⟨p8, o8 + 0, none⟩)))] := by simpa only [List.length_set, Nat.add_zero] using hf
      refine ⟨fun h => absurd h (by decide), ?_⟩
      refine dk ?_
      refine then_n (reg (pz 1 hf fun a hf => ?_))
      refine wl_end (then_n (sq ?_))
      obtain ⟨c9, hGc9, hR2⟩ := bs_ hR2
      have fh2 := hf.prune [2, 5, 7, 8, 9] rfl
      have Hm2 := H.lt_ [true, true] [true] [] [0, 1]
      refine midF 108 (.bool c9) fh2 Hm2 ?_ fun a w hf H => ?_
      ·refine dw [] 30 fun w hb => ?_
       have H := H.keep hb
       refine zp 0 hf trivial fun a hf => ?_
       refine zp 1 hf trivial fun a hf => ?_
       refine strT (H.lt_ [true, false] [false] [] []) (fun w H => trivial) fun hS => ?_
       refine zS 2 [] rfl rfl rfl rfl hf hS (fun w H => rq_loadB hf H TF.ls3 0 rfl rfl rfl) fun a hf => ?_
       obtain ⟨e9, he9, hGc9⟩ := bs_ hGc9
       obtain ⟨p9, o9, hA8, hx6⟩ := pre_iaddrR H Try.underlying26 TF.sz3 0 rfl he9
       refine zP 3 rfl rfl rfl rfl hf hS (fun w => rq_iaddrE hf rfl rfl rfl hx6 w) fun a hf => ?_
       refine strT (H.lt_ [true, false] [true] [] []) (fun w H => H.lt_ [true] [false] [] []) fun hS => ?_
       refine zS 4 [] rfl rfl rfl rfl hf hS (fun w H => rq_loadRow (off := 0) hf H TF.ls3 0 rfl rfl hA8 he9 (fun w T cs h => by obtain rfl := h; rfl)) fun a hf => ?_
       refine zp 5 hf hS fun a hf => ?_
       refine zp 6 hf hS fun a hf => ?_
       refine iteB hGc9 (fun hc7 hGc9 => ?_) fun hc7 hGc9 => ?_
       ·have hf := hf.lit 85 rfl hc7
        refine zg 7 hf hS fun a hf => ?_
        refine zg 8 hf hS fun a hf => ?_
        refine tSg 9 [] rfl rfl rfl rfl rfl rfl hf (by kernel_rfl) (by kernel_rfl) hS (fun w H => rq_loadB hf H TF.ls3 0 rfl rfl rfl) fun a hf => ?_
        obtain ⟨e10, he10, hGc9⟩ := bs_ hGc9
        obtain ⟨p10, o10, hA9, hx7⟩ := pre_iaddrR H Try.underlying26 TF.sz3 0 rfl he10
        refine tPg 10 rfl rfl rfl rfl rfl rfl hf (by kernel_rfl) (fun _ => hS) (fun w => rq_iaddrE hf rfl rfl rfl hx7 w) fun a hf => ?_
        refine tSg 11 [] rfl rfl rfl rfl rfl rfl hf (by kernel_rfl) (by kernel_rfl) hS (fun w H => rq_loadRow (off := 0) hf H TF.ls3 0 rfl rfl hA9 he10 (fun w T cs h => by obtain rfl := h; rfl)) fun a hf => ?_
        refine zg 12 hf hS fun a hf => ?_
        refine zg 13 hf hS fun a hf => ?_
        refine iteB hGc9 (fun hc8 hGc9 => ?_) fun hc8 hGc9 => ?_
        ·have hf := hf.lit 92 rfl hc8
         refine zU 14 hf hS fun a hf => ?_
         refine zU 15 hf hS fun a hf => ?_
         refine zU 16 hf hS fun a hf => ?_
         refine zU 17 hf hS fun a hf => ?_
         refine zU 18 hf hS fun a hf => ?_
         refine zU 19 hf hS fun a hf => ?_
         refine zU 20 hf hS fun a hf => ?_
         refine zU 21 hf hS fun a hf => ?_
         refine zU 22 hf hS fun a hf => ?_
         refine zU 23 hf hS fun a hf => ?_
         refine zU 24 hf hS fun a hf => ?_
         refine zU 25 hf hS fun a hf => ?_
         refine zU 26 hf hS fun a hf => ?_
         refine zU 27 hf hS fun a hf => ?_
         refine zg 28 hf hS fun a hf => ?_
         refine zp 29 hf hS fun a hf => ?_
         refine dk ?_
         obtain rfl := oi hGc9
         have hf := hf.pn [108, 2, 5, 7, 8, 9]
         have H := H.lt_ [true, true] [true] [] [0, 1]
         exact ⟨hf, H⟩
        ·have hf := hf.lit 92 rfl hc8
         refine zg 14 hf hS fun a hf => ?_
         refine zg 15 hf hS fun a hf => ?_
         refine tSg 16 [] rfl rfl rfl rfl rfl rfl hf (by kernel_rfl) (by kernel_rfl) hS (fun w H => rq_loadB hf H TF.ls3 0 rfl rfl rfl) fun a hf => ?_
         obtain ⟨e11, he11, hGc9⟩ := bs_ hGc9
         obtain ⟨p11, o11, hA10, hx8⟩ := pre_iaddrR H Try.underlying26 TF.sz3 0 rfl he11
         refine tPg 17 rfl rfl rfl rfl rfl rfl hf (by kernel_rfl) (fun _ => hS) (fun w => rq_iaddrE hf rfl rfl rfl hx8 w) fun a hf => ?_
         refine tSg 18 [] rfl rfl rfl rfl rfl rfl hf (by kernel_rfl) (by kernel_rfl) hS (fun w H => rq_loadRow (off := 0) hf H TF.ls3 0 rfl rfl hA10 he11 (fun w T cs h => by obtain rfl := h; rfl)) fun a hf => ?_
         refine zg 19 hf hS fun a hf => ?_
         refine tSg 20 [] rfl rfl rfl rfl rfl rfl hf (by kernel_rfl) (by kernel_rfl) hS (fun w H => rq_loadB hf H TF.ls3 0 rfl rfl rfl) fun a hf => ?_
         refine zg 21 hf hS fun a hf => ?_
         refine zg 22 hf hS fun a hf => ?_
         refine zg 23 hf hS fun a hf => ?_
         refine tSg 24 [] rfl rfl rfl rfl rfl rfl hf (by kernel_rfl) (by kernel_rfl) hS (fun w H => rq_loadB hf H TF.ls3 0 rfl rfl rfl) fun a hf => ?_
         obtain ⟨e12, he12, hGc9⟩ := bs_ hGc9
         obtain ⟨p12, o12, hA11, hx9⟩ := pre_iaddrR H Try.underlying26 TF.sz3 0 rfl he12
         refine tPg 25 rfl rfl rfl rfl rfl rfl hf (by kernel_rfl) (fun _ => hS) (fun w => rq_iaddrE hf rfl rfl rfl hx9 w) fun a hf => ?_
         refine tSg 26 [] rfl rfl rfl rfl rfl rfl hf (by kernel_rfl) (by kernel_rfl) hS (fun w H => rq_loadRow (off := 0) hf H TF.ls3 0 rfl rfl hA11 he12 (fun w T cs h => by obtain rfl := h; rfl)) fun a hf => ?_
         refine zg 27 hf hS fun a hf => ?_
         refine zg 28 hf hS fun a hf => ?_
         refine zp 29 hf hS fun a hf => ?_
         refine dk ?_
         obtain rfl := oi hGc9
         have hf := hf.pn [108, 2, 5, 7, 8, 9]
         have H := H.lt_ [true, true] [true] [] [0, 1]
         exact ⟨hf, H⟩
       ·have hf := hf.lit 85 rfl hc7
        refine zU 7 hf hS fun a hf => ?_
        refine zU 8 hf hS fun a hf => ?_
        refine zU 9 hf hS fun a hf => ?_
        refine zU 10 hf hS fun a hf => ?_
        refine zU 11 hf hS fun a hf => ?_
        refine zU 12 hf hS fun a hf => ?_
        refine zU 13 hf hS fun a hf => ?_
        refine zV 14 hf hS fun a hf => ?_
        refine zV 15 hf hS fun a hf => ?_
        refine zV 16 hf hS fun a hf => ?_
        refine zV 17 hf hS fun a hf => ?_
        refine zV 18 hf hS fun a hf => ?_
        refine zV 19 hf hS fun a hf => ?_
        refine zV 20 hf hS fun a hf => ?_
        refine zV 21 hf hS fun a hf => ?_
        refine zV 22 hf hS fun a hf => ?_
        refine zV 23 hf hS fun a hf => ?_
        refine zV 24 hf hS fun a hf => ?_
        refine zV 25 hf hS fun a hf => ?_
        refine zV 26 hf hS fun a hf => ?_
        refine zV 27 hf hS fun a hf => ?_
        refine zU 28 hf hS fun a hf => ?_
        refine zp 29 hf hS fun a hf => ?_
        refine dk ?_
        obtain rfl := oi hGc9
        have hf := hf.pn [108, 2, 5, 7, 8, 9]
        have H := H.lt_ [true, true] [true] [] [0, 1]
        exact ⟨hf, H⟩
      refine then_n (ib hR2 hf (fun hc9 hR2 => ?_) fun hc9 hR2 => ?_)
      ·refine sq (dw [12] 13 fun w hb => ?_)
       have H := H.keep hb
       refine zp 0 hf trivial fun a hf => ?_
       refine zp 1 hf trivial fun a hf => ?_
       refine strT (H.lt_ [true, false] [false] [] []) (fun w H => trivial) fun hS => ?_
       refine zS 2 [2, 11, 12] rfl rfl rfl rfl hf hS (fun w H => rq_loadB hf H TF.ls3 0 rfl rfl rfl) fun a hf => ?_
       refine zp 3 hf hS fun a hf => ?_
       refine zp 4 hf hS fun a hf => ?_
       refine zS 5 [5, 6, 7, 10, 11, 12] rfl rfl rfl rfl hf hS (fun w H => rq_loadB hf H TF.ls3 0 rfl rfl rfl) fun a hf => ?_
       obtain ⟨e13, he13, hR2⟩ := bs_ hR2
       obtain ⟨p13, o13, hA12, hx10⟩ := pre_iaddrR H Try.underlying26 TF.sz3 0 rfl he13
       refine zP 6 rfl rfl rfl rfl hf hS (fun w => rq_iaddrE hf rfl rfl rfl hx10 w) fun a hf => ?_
       refine strT (H.lt_ [true, false] [true] [] []) (fun w H => H.lt_ [true] [false] [] []) fun hS => ?_
       refine zS 7 [7, 10, 11, 12] rfl rfl rfl rfl hf hS (fun w H => rq_loadRow (off := 0) hf H TF.ls3 0 rfl rfl hA12 he13 (fun w T cs h => by obtain rfl := h; rfl)) fun a hf => ?_
       refine zp 8 hf hS fun a hf => ?_
       refine zS 9 [9, 10, 11, 12] rfl rfl rfl rfl hf hS (fun w H => rq_loadB hf H TF.ls3 0 rfl rfl rfl) fun a hf => ?_
       refine zp 10 hf hS fun a hf => ?_
       obtain ⟨e14, he14, hR2⟩ := bs_ hR2
       refine nn 11 rfl (op_iaddrR hf H Try.underlying26 TF.sz3 0 rfl rfl rfl he14 (by decide) fun p14 o14 cs4 a hf hA13 hr4 hk3 => ?_)
       obtain rfl := hr4
       have hS := H.lt_ [true, false] [true] [] []
       refine aS hS ?_
       refine nn 12 rfl (op_storeR (e' := w64 (e13 + e2.Length)) (o := o14) (off := 0) hf H TF.sz3 0 rfl rfl rfl rfl rfl (nle rfl) rfl hA13 he14 (st_full rfl) fun w H => ?_)
       replace hf : Fr a 122 [(2, (.pointer (some ⟨b', 0, none⟩))), (5, (.slice A9 (out6.set (e2.B : Int).toNat (w64 (e7 + e2.Length))).length c7)), (8, (.int .i64 i3)), (9, (.pointer (some ⟨b2, 0, none⟩))), (109, (.slice A9 (out6.set (e2.B : Int).toNat (w64 (e7 + e2.Length))).length c7)), (110, (.pointer (some ⟨b2, 0, none⟩))), (111, (.int .i64 e2.A)), (112, (.slice A9 (out6.set (e2.B : Int).toNat (w64 (e7 + e2.Length))).length c7)), (113, (.pointer (some ⟨b2, 1, none⟩))), (114, (.int .i64 e2.B)), (115, (.pointer (some ⟨p13, o13 + 0, none⟩))), (116, (.int .i64 e13)), (117, (.pointer (some ⟨b2, 2, none⟩))), (118, (.int .i64 e2.Length)), (119, (.int .i64 (w64 (e13 + e2.Length)))), (120, (.pointer (some ⟨p14, o14 + 0, none⟩)))] := hf.prune [2, 5, 8, 9, 109, 110, 111, 112, 113, 114, 115, 116, 117, 118, 119, 120] rfl
       replace hf : Fr a 122 [(2, (.pointer (some ⟨b', 0, none⟩))), (5, (.slice A9 ((out6.set (e2.B : Int).toNat (w64 (e7 + e2.Length))).set (e2.A : Int).toNat (w64 (e13 + e2.Length))).length c7)), (8, (.int .i64 i3)), (9, (.pointer (some ⟨b2, 0, none⟩))), (109, (.slice A9 ((out6.set (e2.B : Int).toNat (w64 (e7 + e2.Length))).set (e2.A : Int).toNat (w64 (e13 + e2.Length))).length c7)), (110, (.pointer (some ⟨b2, 0, none⟩))), (111, (.int .i64 e2.A)), (112, (.slice A9 ((out6.set (e2.B : Int).toNat (w64 (e7 + e2.Length))).set (e2.A : Int).toNat (w64 (e13 + e2.Length))).length c7)), (113, (.pointer (some ⟨b2, 1, none⟩))), (114, (.int .i64 e2.B)), (115, (.pointer (some ⟨p13, o13 + 0, none⟩))), (116, (.int .i64 e13)), (117, (.pointer (some ⟨b2, 2, none⟩))), (118, (.int .i64 e2.Length)), (119, (.int .i64 (w64 (e13 + e2.Length)))), (120, (.pointer (some ⟨p14, o14 + 0, none⟩)))] := by simpa only [List.length_set, Nat.add_zero] using hf
       refine ⟨fun h => absurd h (by decide), ?_⟩
       refine dk ?_
       have hf := hf.pn [2, 5, 8]
       refine then_n (reg (pz 1 hf fun a hf => ?_))
       refine wl_end (blk_n (then_n (reg (pz 3 hf fun a hf => ?_))))
       refine wl_end ?_
       have hf := hf.pn [2, 5, 7, 8]
       have H := H.lt_ [false, true] [true] [] [0, 1]
       exact then_n ⟨((out6.set (e2.B : Int).toNat (w64 (e7 + e2.Length))).set (e2.A : Int).toNat (w64 (e13 + e2.Length)), true, w64 (i3 + 1)), hR2, A9, c7, E5, hf, H⟩
      ·refine wp_skip (blk_n (then_n (reg (pz 3 hf fun a hf => ?_))))
       refine wl_end ?_
       have hf := hf.pn [2, 5, 7, 8]
       have H := H.lt_ [false, true] [true] [] [0, 1]
       exact then_n ⟨(out6.set (e2.B : Int).toNat (w64 (e7 + e2.Length)), true, w64 (i3 + 1)), hR2, A9, c7, E5, hf, H⟩
     ·refine wp_skip (then_n (sq ?_))
      obtain ⟨c10, hGc10, hR2⟩ := bs_ hR2
      have fh3 := hf.prune [2, 5, 7, 8, 9] rfl
      have Hm3 := H.lt_ [true, true] [true] [] [0, 1]
      refine midF 108 (.bool c10) fh3 Hm3 ?_ fun a w hf H => ?_
      ·refine dw [] 30 fun w hb => ?_
       have H := H.keep hb
       refine zp 0 hf trivial fun a hf => ?_
       refine zp 1 hf trivial fun a hf => ?_
       refine strT (H.lt_ [true, false] [false] [] []) (fun w H => trivial) fun hS => ?_
       refine zS 2 [] rfl rfl rfl rfl hf hS (fun w H => rq_loadB hf H TF.ls3 0 rfl rfl rfl) fun a hf => ?_
       obtain ⟨e15, he15, hGc10⟩ := bs_ hGc10
       obtain ⟨p15, o15, hA14, hx11⟩ := pre_iaddrR H Try.underlying26 TF.sz3 0 rfl he15
       refine zP 3 rfl rfl rfl rfl hf hS (fun w => rq_iaddrE hf rfl rfl rfl hx11 w) fun a hf => ?_
       refine strT (H.lt_ [true, false] [true] [] []) (fun w H => H.lt_ [true] [false] [] []) fun hS => ?_
       refine zS 4 [] rfl rfl rfl rfl hf hS (fun w H => rq_loadRow (off := 0) hf H TF.ls3 0 rfl rfl hA14 he15 (fun w T cs h => by obtain rfl := h; rfl)) fun a hf => ?_
       refine zp 5 hf hS fun a hf => ?_
       refine zp 6 hf hS fun a hf => ?_
       refine iteB hGc10 (fun hc10 hGc10 => ?_) fun hc10 hGc10 => ?_
       ·have hf := hf.lit 85 rfl hc10
        refine zg 7 hf hS fun a hf => ?_
        refine zg 8 hf hS fun a hf => ?_
        refine tSg 9 [] rfl rfl rfl rfl rfl rfl hf (by kernel_rfl) (by kernel_rfl) hS (fun w H => rq_loadB hf H TF.ls3 0 rfl rfl rfl) fun a hf => ?_
        obtain ⟨e16, he16, hGc10⟩ := bs_ hGc10
        obtain ⟨p16, o16, hA15, hx12⟩ := pre_iaddrR H Try.underlying26 TF.sz3 0 rfl he16
        refine tPg 10 rfl rfl rfl rfl rfl rfl hf (by kernel_rfl) (fun _ => hS) (fun w => rq_iaddrE hf rfl rfl rfl hx12 w) fun a hf => ?_
        refine tSg 11 [] rfl rfl rfl rfl rfl rfl hf (by kernel_rfl) (by kernel_rfl) hS (fun w H => rq_loadRow (off := 0) hf H TF.ls3 0 rfl rfl hA15 he16 (fun w T cs h => by obtain rfl := h; rfl)) fun a hf => ?_
        refine zg 12 hf hS fun a hf => ?_
        refine zg 13 hf hS fun a hf => ?_
        refine iteB hGc10 (fun hc11 hGc10 => ?_) fun hc11 hGc10 => ?_
        ·have hf := hf.lit 92 rfl hc11
         refine zU 14 hf hS fun a hf => ?_
         refine zU 15 hf hS fun a hf => ?_
         refine zU 16 hf hS fun a hf => ?_
         refine zU 17 hf hS fun a hf => ?_
         refine zU 18 hf hS fun a hf => ?_
         refine zU 19 hf hS fun a hf => ?_
         refine zU 20 hf hS fun a hf => ?_
         refine zU 21 hf hS fun a hf => ?_
         refine zU 22 hf hS fun a hf => ?_
         refine zU 23 hf hS fun a hf => ?_
         refine zU 24 hf hS fun a hf => ?_
         refine zU 25 hf hS fun a hf => ?_
         refine zU 26 hf hS fun a hf => ?_
         refine zU 27 hf hS fun a hf => ?_
         refine zg 28 hf hS fun a hf => ?_
         refine zp 29 hf hS fun a hf => ?_
         refine dk ?_
         obtain rfl := oi hGc10
         have hf := hf.pn [108, 2, 5, 7, 8, 9]
         have H := H.lt_ [true, true] [true] [] [0, 1]
         exact ⟨hf, H⟩
        ·have hf := hf.lit 92 rfl hc11
         refine zg 14 hf hS fun a hf => ?_
         refine zg 15 hf hS fun a hf => ?_
         refine tSg 16 [] rfl rfl rfl rfl rfl rfl hf (by kernel_rfl) (by kernel_rfl) hS (fun w H => rq_loadB hf H TF.ls3 0 rfl rfl rfl) fun a hf => ?_
         obtain ⟨e17, he17, hGc10⟩ := bs_ hGc10
         obtain ⟨p17, o17, hA16, hx13⟩ := pre_iaddrR H Try.underlying26 TF.sz3 0 rfl he17
         refine tPg 17 rfl rfl rfl rfl rfl rfl hf (by kernel_rfl) (fun _ => hS) (fun w => rq_iaddrE hf rfl rfl rfl hx13 w) fun a hf => ?_
         refine tSg 18 [] rfl rfl rfl rfl rfl rfl hf (by kernel_rfl) (by kernel_rfl) hS (fun w H => rq_loadRow (off := 0) hf H TF.ls3 0 rfl rfl hA16 he17 (fun w T cs h => by obtain rfl := h; rfl)) fun a hf => ?_
         refine zg 19 hf hS fun a hf => ?_
         refine tSg 20 [] rfl rfl rfl rfl rfl rfl hf (by kernel_rfl) (by kernel_rfl) hS (fun w H => rq_loadB hf H TF.ls3 0 rfl rfl rfl) fun a hf => ?_
         refine zg 21 hf hS fun a hf => ?_
         refine zg 22 hf hS fun a hf => ?_
         refine zg 23 hf hS fun a hf => ?_
         refine tSg 24 [] rfl rfl rfl rfl rfl rfl hf (by kernel_rfl) (by kernel_rfl) hS (fun w H => rq_loadB hf H TF.ls3 0 rfl rfl rfl) fun a hf => ?_
         obtain ⟨e18, he18, hGc10⟩ := bs_ hGc10
         obtain ⟨p18, o18, hA17, hx14⟩ := pre_iaddrR H Try.underlying26 TF.sz3 0 rfl he18
         refine tPg 25 rfl rfl rfl rfl rfl rfl hf (by kernel_rfl) (fun _ => hS) (fun w => rq_iaddrE hf rfl rfl rfl hx14 w) fun a hf => ?_
         refine tSg 26 [] rfl rfl rfl rfl rfl rfl hf (by kernel_rfl) (by kernel_rfl) hS (fun w H => rq_loadRow (off := 0) hf H TF.ls3 0 rfl rfl hA17 he18 (fun w T cs h => by obtain rfl := h; rfl)) fun a hf => ?_
         refine zg 27 hf hS fun a hf => ?_
         refine zg 28 hf hS fun a hf => ?_
         refine zp 29 hf hS fun a hf => ?_
         refine dk ?_
         obtain rfl := oi hGc10
         have hf := hf.pn [108, 2, 5, 7, 8, 9]
         have H := H.lt_ [true, true] [true] [] [0, 1]
         exact ⟨hf, H⟩
       ·have hf := hf.lit 85 rfl hc10
        refine zU 7 hf hS fun a hf => ?_
        refine zU 8 hf hS fun a hf => ?_
        refine zU 9 hf hS fun a hf => ?_
        refine zU 10 hf hS fun a hf => ?_
        refine zU 11 hf hS fun a hf => ?_
        refine zU 12 hf hS fun a hf => ?_
        refine zU 13 hf hS fun a hf => ?_
        refine zV 14 hf hS fun a hf => ?_
        refine zV 15 hf hS fun a hf => ?_
        refine zV 16 hf hS fun a hf => ?_
        refine zV 17 hf hS fun a hf => ?_
        refine zV 18 hf hS fun a hf => ?_
        refine zV 19 hf hS fun a hf => ?_
        refine zV 20 hf hS fun a hf => ?_
        refine zV 21 hf hS fun a hf => ?_
        refine zV 22 hf hS fun a hf => ?_
        refine zV 23 hf hS fun a hf => ?_
        refine zV 24 hf hS fun a hf => ?_
        refine zV 25 hf hS fun a hf => ?_
        refine zV 26 hf hS fun a hf => ?_
        refine zV 27 hf hS fun a hf => ?_
        refine zU 28 hf hS fun a hf => ?_
        refine zp 29 hf hS fun a hf => ?_
        refine dk ?_
        obtain rfl := oi hGc10
        have hf := hf.pn [108, 2, 5, 7, 8, 9]
        have H := H.lt_ [true, true] [true] [] [0, 1]
        exact ⟨hf, H⟩
      refine then_n (ib hR2 hf (fun hc12 hR2 => ?_) fun hc12 hR2 => ?_)
      ·refine sq (dw [12] 13 fun w hb => ?_)
       have H := H.keep hb
       refine zp 0 hf trivial fun a hf => ?_
       refine zp 1 hf trivial fun a hf => ?_
       refine strT (H.lt_ [true, false] [false] [] []) (fun w H => trivial) fun hS => ?_
       refine zS 2 [2, 11, 12] rfl rfl rfl rfl hf hS (fun w H => rq_loadB hf H TF.ls3 0 rfl rfl rfl) fun a hf => ?_
       refine zp 3 hf hS fun a hf => ?_
       refine zp 4 hf hS fun a hf => ?_
       refine zS 5 [5, 6, 7, 10, 11, 12] rfl rfl rfl rfl hf hS (fun w H => rq_loadB hf H TF.ls3 0 rfl rfl rfl) fun a hf => ?_
       obtain ⟨e19, he19, hR2⟩ := bs_ hR2
       obtain ⟨p19, o19, hA18, hx15⟩ := pre_iaddrR H Try.underlying26 TF.sz3 0 rfl he19
       refine zP 6 rfl rfl rfl rfl hf hS (fun w => rq_iaddrE hf rfl rfl rfl hx15 w) fun a hf => ?_
       refine strT (H.lt_ [true, false] [true] [] []) (fun w H => H.lt_ [true] [false] [] []) fun hS => ?_
       refine zS 7 [7, 10, 11, 12] rfl rfl rfl rfl hf hS (fun w H => rq_loadRow (off := 0) hf H TF.ls3 0 rfl rfl hA18 he19 (fun w T cs h => by obtain rfl := h; rfl)) fun a hf => ?_
       refine zp 8 hf hS fun a hf => ?_
       refine zS 9 [9, 10, 11, 12] rfl rfl rfl rfl hf hS (fun w H => rq_loadB hf H TF.ls3 0 rfl rfl rfl) fun a hf => ?_
       refine zp 10 hf hS fun a hf => ?_
       obtain ⟨e20, he20, hR2⟩ := bs_ hR2
       refine nn 11 rfl (op_iaddrR hf H Try.underlying26 TF.sz3 0 rfl rfl rfl he20 (by decide) fun p20 o20 cs5 a hf hA19 hr5 hk4 => ?_)
       obtain rfl := hr5
       have hS := H.lt_ [true, false] [true] [] []
       refine aS hS ?_
       refine nn 12 rfl (op_storeR (e' := w64 (e19 + e2.Length)) (o := o20) (off := 0) hf H TF.sz3 0 rfl rfl rfl rfl rfl (nle rfl) rfl hA19 he20 (st_full rfl) fun w H => ?_)
       replace hf : Fr a 122 [(2, (.pointer (some ⟨b', 0, none⟩))), (5, (.slice A9 out6.length c7)), (8, (.int .i64 i3)), (9, (.pointer (some ⟨b2, 0, none⟩))), (109, (.slice A9 out6.length c7)), (110, (.pointer (some ⟨b2, 0, none⟩))), (111, (.int .i64 e2.A)), (112, (.slice A9 out6.length c7)), (113, (.pointer (some ⟨b2, 1, none⟩))), (114, (.int .i64 e2.B)), (115, (.pointer (some ⟨p19, o19 + 0, none⟩))), (116, (.int .i64 e19)), (117, (.pointer (some ⟨b2, 2, none⟩))), (118, (.int .i64 e2.Length)), (119, (.int .i64 (w64 (e19 + e2.Length)))), (120, (.pointer (some ⟨p20, o20 + 0, none⟩)))] := hf.prune [2, 5, 8, 9, 109, 110, 111, 112, 113, 114, 115, 116, 117, 118, 119, 120] rfl
       replace hf : Fr a 122 [(2, (.pointer (some ⟨b', 0, none⟩))), (5, (.slice A9 (out6.set (e2.A : Int).toNat (w64 (e19 + e2.Length))).length c7)), (8, (.int .i64 i3)), (9, (.pointer (some ⟨b2, 0, none⟩))), (109, (.slice A9 (out6.set (e2.A : Int).toNat (w64 (e19 + e2.Length))).length c7)), (110, (.pointer (some ⟨b2, 0, none⟩))), (111, (.int .i64 e2.A)), (112, (.slice A9 (out6.set (e2.A : Int).toNat (w64 (e19 + e2.Length))).length c7)), (113, (.pointer (some ⟨b2, 1, none⟩))), (114, (.int .i64 e2.B)), (115, (.pointer (some ⟨p19, o19 + 0, none⟩))), (116, (.int .i64 e19)), (117, (.pointer (some ⟨b2, 2, none⟩))), (118, (.int .i64 e2.Length)), (119, (.int .i64 (w64 (e19 + e2.Length)))), (120, (.pointer (some ⟨p20, o20 + 0, none⟩)))] := by simpa only [List.length_set, Nat.add_zero] using hf
       refine ⟨fun h => absurd h (by decide), ?_⟩
       refine dk ?_
       have hf := hf.pn [2, 5, 8]
       refine then_n (reg (pz 1 hf fun a hf => ?_))
       refine wl_end (blk_n (then_n (reg (pz 3 hf fun a hf => ?_))))
       refine wl_end ?_
       have hf := hf.pn [2, 5, 7, 8]
       have H := H.lt_ [false, true] [true] [] [0, 1]
       exact then_n ⟨(out6.set (e2.A : Int).toNat (w64 (e19 + e2.Length)), true, w64 (i3 + 1)), hR2, A9, c7, E5, hf, H⟩
      ·refine wp_skip (blk_n (then_n (reg (pz 3 hf fun a hf => ?_))))
       refine wl_end ?_
       have hf := hf.pn [2, 5, 7, 8]
       have H := H.lt_ [false, true] [true] [] [0, 1]
       exact then_n ⟨(out6, more2, w64 (i3 + 1)), hR2, A9, c7, E5, hf, H⟩
    ·refine wp_exit (then_x (then_x (blk_e (?_))))
     have hf := hf.pn [2, 5, 7, 8]
     have H := H.lt_ [true] [true] [] [0, 1]
     exact ⟨(out6, more2, i3), (Option.some.inj hR2).symm, A9, c7, E5, hf, H⟩
   rintro a w ⟨⟨out8, more3, i4⟩, rfl, A10, c11, E6, hf, H⟩
   try dsimp only at hR1
   refine blk_n ?_
   have hf := hf.pn [2, 5, 7]
   have H := H.lt_ [true] [true] [] [0, 1]
   exact then_n ⟨(out8, more3), hR1, A10, c11, E6, hf, H⟩
  ·refine wp_exit (then_x (then_x (blk_e (?_))))
   have hf := hf.pn [2, 5, 7]
   have H := H.lt_ [true] [true] [] [0, 1]
   exact ⟨(out4, more), (Option.some.inj hR1).symm, A8, c6, E4, hf, H⟩
 rintro a w ⟨⟨out9, more4⟩, rfl, A11, c12, E7, hf, H⟩
 try dsimp only at hF
 refine then_n (sqz (pz 2 hf fun a hf => ?_))
 refine wer ?_
 have H := H.rowOwn 0 rfl rfl
 obtain ⟨F, H⟩ := H.freezeOwn 0 rfl
 have H := H.lend 0 rfl
 obtain rfl := oi hF
 refine rT hf ?_
 have hN := H.ends1
 exact ⟨_, rfl, H.bel, F, (mko_list (H.ownAt 0 rfl)), hN⟩
theorem spec_l1Has_ok {S : Nat → Prop} {v0_ : Value} {v1_ : Value} {l : List Int} {n' : Int} {r : Bool} (h0 : VR w0 S v0_ l) (h1 : VR w0 S v1_ n') (hF : spec_l1Has fu l n' = some r) :
    Calls Try.prog 41 [v0_, v1_].toArray w0 fun e w' => ∃ v, e = .returned v ∧ (Below w0.heap.size w0 w' ∧ VR w' (St ⟨w0, []⟩ S [] [] [] true) v r) := by
 obtain ⟨A, c, rfl, hl⟩ := VR_list h0
 obtain rfl := VR_int h1
 have H := Mem.start ⟨w0, []⟩ S
 have H := H.pA hl
 refine en Try.func41 fun a hf => ?_
 rw [spec_l1Has] at hF
 refine sqz (pz 1 hf fun a hf => ?_)
 refine we (sqz (pz 1 hf fun a hf => ?_))
 refine wl_end (then_n ?_)
 obtain ⟨out', hB1, hF⟩ := bs_ hF
 have hf := hf.pn [0, 1, 5]
 have H := H.lt_ [] [] [] [0]
 refine loopC (fun (s : Int) (a : Act) (w : World) => match s with | i => Fr a 18 [(0, (.slice A l.length c)), (1, (.int .i64 n')), (5, (.int .i64 i))] ∧ Mem ⟨w0, []⟩ S [] [] [] [(false, MP.val [(.slice A l.length c)] (l : List Int))] w) (fun k (s : Int) => spec_l1Has_L1 fu l n' k s = some out') (fun s => out' = Out.next s) 0 fu hB1 ⟨hf, H⟩ (fun s h => by cases h) ?_ ?_
 ·rintro fk i a w hR1 hI
  replace hR1 : spec_l1Has_L1 fu l n' (fk + 1) i = some out' := hR1
  rw [spec_l1Has_L1] at hR1
  obtain ⟨hf, H⟩ := hI
  refine sq (sqz (pz 4 hf fun a hf => ?_))
  refine wl_end (then_n (ib hR1 hf (fun hc hR1 => ?_) fun hc hR1 => ?_))
  ·refine ws (pz 2 hf fun a hf => ?_)
   obtain ⟨e, he, hR1⟩ := bs_ hR1
   refine wl0 rfl (op_iaddr hf H Try.underlying26 TF.sz3 0 rfl rfl rfl he (by decide) fun p o cs a hf hr H => ?_)
   obtain rfl := hr
   refine oq hf (rq_loadI hf H TF.ls3 0 0 rfl rfl rfl) fun a hf => ?_
   refine pz 2 hf fun a hf => ?_
   refine wl_end (then_n (ib hR1 hf (fun hc2 hR1 => ?_) fun hc2 hR1 => ?_))
   ·refine sqz (pz 1 hf fun a hf => ?_)
    have hf := hf.pn [4]
    refine wl_end (then_n (wp_ret (blk_r (then_r (then_r (blk_r (then_r (then_r (?_)))))))))
    obtain rfl := oi hR1
    replace hF := on_ret hF
    obtain rfl := oi hF
    refine rT hf ?_
    exact ⟨_, rfl, H.bel, mk_bool⟩
   ·refine wp_skip (blk_n (then_n (reg (pz 3 hf fun a hf => ?_))))
    refine wl_end ?_
    have hf := hf.pn [0, 1, 5]
    have H := H.lt_ [] [] [] [1]
    exact then_n ⟨w64 (i + 1), hR1, hf, H⟩
  ·refine wp_exit (then_x (then_x (blk_e (?_))))
   have hf := hf.pn [0, 1, 5]
   have H := H.lt_ [] [] [] [0]
   exact ⟨i, (Option.some.inj hR1).symm, hf, H⟩
 rintro a w ⟨i2, rfl, hf, H⟩
 replace hF := on_next hF
 refine then_n (sqz (pz 1 hf fun a hf => ?_))
 refine wer ?_
 obtain rfl := oi hF
 refine rT hf ?_
 exact ⟨_, rfl, H.bel, mk_bool⟩
theorem spec_l19Connect_ok {S : Nat → Prop} {v0_ : Value} {v1_ : Value} {v2_ : Value} {n' : Network} {sites : List Int} {reach : Int} {r : Bool} (h0 : VR w0 S v0_ n') (h1 : VR w0 S v1_ sites) (h2 : VR w0 S v2_ reach) (hF : spec_l19Connect fu n' sites reach = some r) :
    Calls Try.prog 22 [v0_, v1_, v2_].toArray w0 fun e w' => ∃ v, e = .returned v ∧ (Below w0.heap.size w0 w' ∧ VR w' (St ⟨w0, []⟩ S [] [] [] true) v r) := by
 obtain ⟨A, c, A2, c2, rfl, hl, hl2⟩ := Network_open h0
 obtain ⟨A3, c3, rfl, hl3⟩ := VR_list h1
 obtain rfl := VR_int h2
 have H := Mem.start ⟨w0, []⟩ S
 have H := H.pA hl
 have H := H.pA hl2
 have H := H.pA hl3
 refine en Try.func22 fun a hf => ?_
 rw [spec_l19Connect] at hF
 refine bx hf H fun b' a w hf H => ?_
 refine pz 1 hf fun a hf => ?_
 refine wr (pz 1 hf fun a hf => ?_)
 refine lB 0 hf H TF.ls22 fun a hf => ?_
 refine pz 2 hf fun a hf => ?_
 refine wr (wl0 rfl (bl hf H 26 ([] : List (List Int)) [] el0 fun A4 a w hf H => ?_))
 refine pz 1 hf fun a hf => ?_
 refine we (sqz (pz 1 hf fun a hf => ?_))
 refine wl_end (then_n ?_)
 obtain ⟨out', hB1, hF⟩ := bs_ hF
 have hf := hf.pn [1, 2, 3, 7, 8, 9]
 have H := H.lt_ [true] [true] [] [0, 1, 2]
 refine loopC (fun (s : List (List Int) × Int) (a : Act) (w : World) => match s with | (far, a') => ∃ (A5 : Option Addr) (c4 : Nat) (E : Go.TypeId), Fr a 101 [(1, (.slice A3 sites.length c3)), (2, (.int .i64 reach)), (3, (.pointer (some ⟨b', 0, none⟩))), (7, (.int .i64 (n'.Nodes.length : Int))), (8, (.slice A5 far.length c4)), (9, (.int .i64 a'))] ∧ Mem ⟨w0, []⟩ S [⟨b', 32, [(.slice A n'.Nodes.length c), (.slice A2 n'.Fibers.length c2)]⟩] [⟨.sh true, E, A5, c4, (far : List (List Int))⟩] [] [(false, MP.val [(.slice A3 sites.length c3)] (sites : List Int)), (false, MP.val [(.slice A2 n'.Fibers.length c2)] (n'.Fibers : List Fiber)), (false, MP.val [(.slice A n'.Nodes.length c)] (n'.Nodes : List ByteArray))] w) (fun k (s : List (List Int) × Int) => spec_l19Connect_L1 fu n' k s.1 s.2 = some out') (fun s => out' = s) (([] : List (List Int)), 0) fu hB1 ⟨A4, 0, 26, hf, H⟩ (fun s h => by cases h) ?_ ?_
 ·rintro fk ⟨far, a'⟩ a w hR1 hI
  replace hR1 : spec_l19Connect_L1 fu n' (fk + 1) far a' = some out' := hR1
  rw [spec_l19Connect_L1] at hR1
  obtain ⟨A5, c4, E, hf, H⟩ := hI
  refine sq (sqz (pz 3 hf fun a hf => ?_))
  refine wl_end (then_n (ib hR1 hf (fun hc hR1 => ?_) fun hc hR1 => ?_))
  ·refine wp_skip (then_n (sq (wp_block (reg (pz 1 hf fun a hf => ?_)))))
   refine lN 0 hf H TF.la32 fun a hf => ?_
   refine pz 1 hf fun a hf => ?_
   obtain ⟨y, hy, hR1⟩ := bs_ hR1
   refine oc hf TF.cl40 (spec_l19From_ok (S := TT) (Network_mkv (x := n') (H.rt 2 rfl) (H.rt 1 rfl)) mk_int hy) fun v w a hp hf => ?_
   obtain ⟨hb, F, hp2, hN⟩ := hp
   obtain ⟨A6, c5, rfl, hl4⟩ := VO_list hp2
   have H := H.aO1 hb hN hl4
   have H := H.lend 0 rfl
   refine wl0 rfl (bl hf H 26 ([y] : List (List Int)) [(.slice A6 y.length c5)] (el1 (y := y) (H.get 0 rfl)) fun A7 a w hf H => ?_)
   obtain ⟨l, hl_, hR1⟩ := bs_ hR1
   refine wl0 rfl (op_appR hf H Try.underlying65 TF.ai26 rfl (by decide) 1 0 rfl rfl rfl rfl (.inr rfl) hl_ (by decide) fun E2 A8 c6 a w hf H => ?_)
   refine pz 1 hf fun a hf => ?_
   refine wl_end (blk_n (then_n (reg (pz 3 hf fun a hf => ?_))))
   refine wl_end ?_
   have hf := hf.pn [1, 2, 3, 7, 8, 9]
   have H := H.lt_ [true] [false, true] [false] [1, 2, 3]
   exact then_n ⟨(l, w64 (a' + 1)), hR1, A8, c6, E2, hf, H⟩
  ·refine wp_exit (then_x (then_x (blk_e (?_))))
   have hf := hf.pn [1, 2, 3, 7, 8, 9]
   have H := H.lt_ [true] [true] [] [0, 1, 2]
   exact ⟨(far, a'), (Option.some.inj hR1).symm, A5, c4, E, hf, H⟩
 rintro a w ⟨⟨far2, a2⟩, rfl, A9, c7, E3, hf, H⟩
 try dsimp only at hF
 refine then_n (sq (sqz (pz 1 hf fun a hf => ?_)))
 refine wl_end (then_n ?_)
 obtain ⟨out2, hB1, hF⟩ := bs_ hF
 have hf := hf.pn [1, 2, 7, 8, 10]
 have H := H.lt_ [false] [true] [] [0]
 refine loopC (fun (s : Int) (a : Act) (w : World) => match s with | a3 => Fr a 101 [(1, (.slice A3 sites.length c3)), (2, (.int .i64 reach)), (7, (.int .i64 (n'.Nodes.length : Int))), (8, (.slice A9 far2.length c7)), (10, (.int .i64 a3))] ∧ Mem ⟨w0, []⟩ S [] [⟨.sh true, E3, A9, c7, (far2 : List (List Int))⟩] [] [(false, MP.val [(.slice A3 sites.length c3)] (sites : List Int))] w) (fun k (s : Int) => spec_l19Connect_L2 fu n' sites reach far2 k s = some out2) (fun s => out2 = Out.next s) 0 fu hB1 ⟨hf, H⟩ (fun s h => by cases h) ?_ ?_
 ·rintro fk a3 a w hR1 hI
  replace hR1 : spec_l19Connect_L2 fu n' sites reach far2 (fk + 1) a3 = some out2 := hR1
  rw [spec_l19Connect_L2] at hR1
  obtain ⟨hf, H⟩ := hI
  refine sq (sqz (pz 3 hf fun a hf => ?_))
  refine wl_end (then_n (ib hR1 hf (fun hc2 hR1 => ?_) fun hc2 hR1 => ?_))
  ·refine ws (pz 1 hf fun a hf => ?_)
   refine wl0 rfl (bl hf H 3 ([a3] : List Int) [(.int .i64 a3)] (el1 (y := a3) (rfl)) fun A10 a w hf H => ?_)
   refine pz 1 hf fun a hf => ?_
   refine we (sqz (pz 1 hf fun a hf => ?_))
   refine wl_end (then_n ?_)
   obtain ⟨out3, hB2, hR1⟩ := bs_ hR1
   have hf := hf.pn [1, 2, 7, 8, 10, 11, 12]
   have H := H.lt_ [] [true, true] [] [0]
   refine loopC (fun (s : List Int × Int) (a : Act) (w : World) => match s with | (seen, i) => ∃ (A11 : Option Addr) (c8 : Nat) (E4 : Go.TypeId), Fr a 101 [(1, (.slice A3 sites.length c3)), (2, (.int .i64 reach)), (7, (.int .i64 (n'.Nodes.length : Int))), (8, (.slice A9 far2.length c7)), (10, (.int .i64 a3)), (11, (.slice A11 seen.length c8)), (12, (.int .i64 i))] ∧ Mem ⟨w0, []⟩ S [] [⟨.sh true, E4, A11, c8, (seen : List Int)⟩, ⟨.sh true, E3, A9, c7, (far2 : List (List Int))⟩] [] [(false, MP.val [(.slice A3 sites.length c3)] (sites : List Int))] w) (fun k (s : List Int × Int) => spec_l19Connect_L3 fu n' sites reach far2 k s.1 s.2 = some out3) (fun s => out3 = s) ([a3], 0) fu hB2 ⟨A10, 1, 3, hf, H⟩ (fun s h => by cases h) ?_ ?_
   ·rintro fk ⟨seen, i⟩ a w hR2 hI
    replace hR2 : spec_l19Connect_L3 fu n' sites reach far2 (fk + 1) seen i = some out3 := hR2
    rw [spec_l19Connect_L3] at hR2
    obtain ⟨A11, c8, E4, hf, H⟩ := hI
    refine sq (sqz (pz 4 hf fun a hf => ?_))
    refine wl_end (then_n (ib hR2 hf (fun hc3 hR2 => ?_) fun hc3 hR2 => ?_))
    ·refine ws (pz 1 hf fun a hf => ?_)
     refine wl_end (then_n ?_)
     obtain ⟨out4, hB3, hR2⟩ := bs_ hR2
     have hf := hf.pn [1, 2, 7, 8, 10, 11, 12, 13]
     have H := H.lt_ [] [true, true] [] [0]
     refine loopC (fun (s : List Int × Int) (a : Act) (w : World) => match s with | (seen2, b2) => ∃ (A12 : Option Addr) (c9 : Nat) (E5 : Go.TypeId), Fr a 101 [(1, (.slice A3 sites.length c3)), (2, (.int .i64 reach)), (7, (.int .i64 (n'.Nodes.length : Int))), (8, (.slice A9 far2.length c7)), (10, (.int .i64 a3)), (11, (.slice A12 seen2.length c9)), (12, (.int .i64 i)), (13, (.int .i64 b2))] ∧ Mem ⟨w0, []⟩ S [] [⟨.sh true, E5, A12, c9, (seen2 : List Int)⟩, ⟨.sh true, E3, A9, c7, (far2 : List (List Int))⟩] [] [(false, MP.val [(.slice A3 sites.length c3)] (sites : List Int))] w) (fun k (s : List Int × Int) => spec_l19Connect_L4 fu n' sites reach far2 i k s.1 s.2 = some out4) (fun s => out4 = s) (seen, 0) fu hB3 ⟨A11, c8, E4, hf, H⟩ (fun s h => by cases h) ?_ ?_
     ·rintro fk ⟨seen2, b2⟩ a w hR3 hI
      replace hR3 : spec_l19Connect_L4 fu n' sites reach far2 i (fk + 1) seen2 b2 = some out4 := hR3
      rw [spec_l19Connect_L4] at hR3
      obtain ⟨A12, c9, E5, hf, H⟩ := hI
      refine sq (sqz (pz 3 hf fun a hf => ?_))
      refine wl_end (then_n (ib hR3 hf (fun hc4 hR3 => ?_) fun hc4 hR3 => ?_))
      ·refine wp_skip (then_n (sq (wp_block (sq ?_))))
       obtain ⟨c10, hGc10, hR3⟩ := bs_ hR3
       have fh := hf.prune [1, 2, 7, 8, 10, 11, 12, 13] rfl
       have Hm := H.lt_ [] [true, true] [] [0]
       refine midF 77 (.bool c10) fh Hm ?_ fun a w hf H => ?_
       ·refine reg (pz 3 hf fun a hf => ?_)
        refine iteB hGc10 (fun hc5 hGc10 => ?_) fun hc5 hGc10 => ?_
        ·have hf := hf.lit 50 rfl hc5
         refine pz 10 hf fun a hf => ?_
         obtain ⟨y2, hy2, hGc10⟩ := bs_ hGc10
         refine wlg hf rfl rfl rfl (oC hf TF.cl41 (spec_l1Has_ok (S := TT) (mk_list (H.rowTrue 0 rfl)) mk_int hy2) fun v2 w a hp3 hf => ?_)
         obtain ⟨hb2, hp3⟩ := hp3
         obtain rfl := VR_bool hp3
         have H := H.keep hb2
         refine pz 3 hf fun a hf => ?_
         refine iteB hGc10 (fun hc6 hGc10 => ?_) fun hc6 hGc10 => ?_
         ·have hf := hf.lit 64 rfl hc6
          refine pz 3 hf fun a hf => ?_
          obtain ⟨e, he, hGc10⟩ := bs_ hGc10
          refine wlg hf rfl rfl rfl (op_iaddrR hf H Try.underlying26 TF.sz3 0 rfl rfl rfl he (by decide) fun p o cs a hf hA hr hk => ?_)
          obtain rfl := hr
          refine wlg hf rfl rfl rfl (op_q hf (rq_load1 hf TF.ls3 rfl (hk 0 _ rfl)) rfl (by decide) fun a hf => ?_)
          obtain ⟨e2, he2, hGc10⟩ := bs_ hGc10
          refine wlg hf rfl rfl rfl (op_iaddrR hf H Try.underlying65 TF.sz26 1 rfl rfl rfl he2 (by decide) fun p2 o2 cs2 a hf hA2 hr2 hk2 => ?_)
          obtain ⟨A13, c11, rfl, hl5⟩ := list_cells hr2
          have H := H.pT hl5
          refine wlg hf rfl rfl rfl (op_q hf (rq_load1 hf TF.ls26 rfl (hk2 0 _ rfl)) rfl (by decide) fun a hf => ?_)
          refine pz 1 hf fun a hf => ?_
          obtain ⟨e3, he3, hGc10⟩ := bs_ hGc10
          refine wlg hf rfl rfl rfl (op_iaddr hf H Try.underlying26 TF.sz3 0 rfl rfl rfl he3 (by decide) fun p3 o3 cs3 a hf hr3 H => ?_)
          obtain rfl := hr3
          refine wlg hf rfl rfl rfl (op_q hf (rq_loadI hf H TF.ls3 0 0 rfl rfl rfl) rfl (by decide) fun a hf => ?_)
          refine pz 1 hf fun a hf => ?_
          obtain ⟨y3, hy3, hGc10⟩ := bs_ hGc10
          refine wlg hf rfl rfl rfl (oC hf TF.cl21 (spec_l1In_ok (S := TT) mk_int mk_int mk_int hy3) fun v3 w a hp4 hf => ?_)
          obtain ⟨hb3, hp4⟩ := hp4
          obtain rfl := VR_bool hp4
          have H := H.keep hb3
          refine pz 1 hf fun a hf => ?_
          obtain rfl := oi hGc10
          have hf := hf.pn [77, 1, 2, 7, 8, 10, 11, 12, 13]
          have H := H.lt_ [] [true, true] [] [2]
          exact wl_end ⟨hf, H⟩
         ·have hf := hf.lit 64 rfl hc6
          refine pz 13 hf fun a hf => ?_
          obtain rfl := oi hGc10
          have hf := hf.pn [77, 1, 2, 7, 8, 10, 11, 12, 13]
          have H := H.lt_ [] [true, true] [] [0]
          exact wl_end ⟨hf, H⟩
        ·have hf := hf.lit 50 rfl hc5
         refine pz 3 hf fun a hf => ?_
         obtain ⟨e4, he4, hGc10⟩ := bs_ hGc10
         refine wlg hf rfl rfl rfl (op_iaddrR hf H Try.underlying26 TF.sz3 0 rfl rfl rfl he4 (by decide) fun p4 o4 cs4 a hf hA3 hr4 hk3 => ?_)
         obtain rfl := hr4
         refine wlg hf rfl rfl rfl (op_q hf (rq_load1 hf TF.ls3 rfl (hk3 0 _ rfl)) rfl (by decide) fun a hf => ?_)
         obtain ⟨y4, hy4, hGc10⟩ := bs_ hGc10
         refine wlg hf rfl rfl rfl (oC hf TF.cl41 (spec_l1Has_ok (S := TT) (mk_list (H.rt 0 rfl)) mk_int hy4) fun v4 w a hp5 hf => ?_)
         obtain ⟨hb4, hp5⟩ := hp5
         obtain rfl := VR_bool hp5
         have H := H.keep hb4
         refine pz 2 hf fun a hf => ?_
         refine iteB hGc10 (fun hc7 hGc10 => ?_) fun hc7 hGc10 => ?_
         ·have hf := hf.lit 58 rfl hc7
          refine pz 2 hf fun a hf => ?_
          obtain ⟨y5, hy5, hGc10⟩ := bs_ hGc10
          refine wlg hf rfl rfl rfl (oC hf TF.cl41 (spec_l1Has_ok (S := TT) (mk_list (H.rowTrue 0 rfl)) mk_int hy5) fun v5 w a hp6 hf => ?_)
          obtain ⟨hb5, hp6⟩ := hp6
          obtain rfl := VR_bool hp6
          have H := H.keep hb5
          refine pz 3 hf fun a hf => ?_
          refine iteB hGc10 (fun hc8 hGc10 => ?_) fun hc8 hGc10 => ?_
          ·have hf := hf.lit 64 rfl hc8
           refine pz 3 hf fun a hf => ?_
           obtain ⟨e5, he5, hGc10⟩ := bs_ hGc10
           refine wlg hf rfl rfl rfl (op_iaddrR hf H Try.underlying26 TF.sz3 0 rfl rfl rfl he5 (by decide) fun p5 o5 cs5 a hf hA4 hr5 hk4 => ?_)
           obtain rfl := hr5
           refine wlg hf rfl rfl rfl (op_q hf (rq_load1 hf TF.ls3 rfl (hk4 0 _ rfl)) rfl (by decide) fun a hf => ?_)
           obtain ⟨e6, he6, hGc10⟩ := bs_ hGc10
           refine wlg hf rfl rfl rfl (op_iaddrR hf H Try.underlying65 TF.sz26 1 rfl rfl rfl he6 (by decide) fun p6 o6 cs6 a hf hA5 hr6 hk5 => ?_)
           obtain ⟨A14, c12, rfl, hl6⟩ := list_cells hr6
           have H := H.pT hl6
           refine wlg hf rfl rfl rfl (op_q hf (rq_load1 hf TF.ls26 rfl (hk5 0 _ rfl)) rfl (by decide) fun a hf => ?_)
           refine pz 1 hf fun a hf => ?_
           obtain ⟨e7, he7, hGc10⟩ := bs_ hGc10
           refine wlg hf rfl rfl rfl (op_iaddr hf H Try.underlying26 TF.sz3 0 rfl rfl rfl he7 (by decide) fun p7 o7 cs7 a hf hr7 H => ?_)
           obtain rfl := hr7
           refine wlg hf rfl rfl rfl (op_q hf (rq_loadI hf H TF.ls3 0 0 rfl rfl rfl) rfl (by decide) fun a hf => ?_)
           refine pz 1 hf fun a hf => ?_
           obtain ⟨y6, hy6, hGc10⟩ := bs_ hGc10
           refine wlg hf rfl rfl rfl (oC hf TF.cl21 (spec_l1In_ok (S := TT) mk_int mk_int mk_int hy6) fun v6 w a hp7 hf => ?_)
           obtain ⟨hb6, hp7⟩ := hp7
           obtain rfl := VR_bool hp7
           have H := H.keep hb6
           refine pz 1 hf fun a hf => ?_
           obtain rfl := oi hGc10
           have hf := hf.pn [77, 1, 2, 7, 8, 10, 11, 12, 13]
           have H := H.lt_ [] [true, true] [] [2]
           exact wl_end ⟨hf, H⟩
          ·have hf := hf.lit 64 rfl hc8
           refine pz 13 hf fun a hf => ?_
           obtain rfl := oi hGc10
           have hf := hf.pn [77, 1, 2, 7, 8, 10, 11, 12, 13]
           have H := H.lt_ [] [true, true] [] [0]
           exact wl_end ⟨hf, H⟩
         ·have hf := hf.lit 58 rfl hc7
          refine pz 19 hf fun a hf => ?_
          obtain rfl := oi hGc10
          have hf := hf.pn [77, 1, 2, 7, 8, 10, 11, 12, 13]
          have H := H.lt_ [] [true, true] [] [0]
          exact wl_end ⟨hf, H⟩
       refine then_n (ib hR3 hf (fun hc9 hR3 => ?_) fun hc9 hR3 => ?_)
       ·refine reg (pz 2 hf fun a hf => ?_)
        refine wl0 rfl (bl hf H 3 ([b2] : List Int) [(.int .i64 b2)] (el1 (y := b2) (rfl)) fun A15 a w hf H => ?_)
        obtain ⟨l2, hl2_, hR3⟩ := bs_ hR3
        refine wl0 rfl (op_appR hf H Try.underlying26 TF.ai3 rfl (by decide) 1 0 rfl rfl rfl rfl (.inr rfl) hl2_ (by decide) fun E6 A16 c13 a w hf H => ?_)
        refine pz 1 hf fun a hf => ?_
        refine wl_end (blk_n (then_n (reg (pz 3 hf fun a hf => ?_))))
        refine wl_end ?_
        have hf := hf.pn [1, 2, 7, 8, 10, 11, 12, 13]
        have H := H.lt_ [] [false, true, true] [] [0]
        exact then_n ⟨(l2, w64 (b2 + 1)), hR3, A16, c13, E6, hf, H⟩
       ·refine wp_skip (blk_n (then_n (reg (pz 3 hf fun a hf => ?_))))
        refine wl_end ?_
        have hf := hf.pn [1, 2, 7, 8, 10, 11, 12, 13]
        have H := H.lt_ [] [true, true] [] [0]
        exact then_n ⟨(seen2, w64 (b2 + 1)), hR3, A12, c9, E5, hf, H⟩
      ·refine wp_exit (then_x (then_x (blk_e (?_))))
       have hf := hf.pn [1, 2, 7, 8, 10, 11, 12, 13]
       have H := H.lt_ [] [true, true] [] [0]
       exact ⟨(seen2, b2), (Option.some.inj hR3).symm, A12, c9, E5, hf, H⟩
     rintro a w ⟨⟨seen3, b3⟩, rfl, A17, c14, E7, hf, H⟩
     try dsimp only at hR2
     refine blk_n (then_n (reg (pz 3 hf fun a hf => ?_)))
     refine wl_end ?_
     have hf := hf.pn [1, 2, 7, 8, 10, 11, 12]
     have H := H.lt_ [] [true, true] [] [0]
     exact then_n ⟨(seen3, w64 (i + 1)), hR2, A17, c14, E7, hf, H⟩
    ·refine wp_exit (then_x (then_x (blk_e (?_))))
     have hf := hf.pn [1, 2, 7, 8, 10, 11, 12]
     have H := H.lt_ [] [true, true] [] [0]
     exact ⟨(seen, i), (Option.some.inj hR2).symm, A11, c8, E4, hf, H⟩
   rintro a w ⟨⟨seen4, i2⟩, rfl, A18, c15, E8, hf, H⟩
   try dsimp only at hR1
   refine then_n (sqz (pz 1 hf fun a hf => ?_))
   refine wl_end (then_n ?_)
   obtain ⟨out5, hB2, hR1⟩ := bs_ hR1
   have hf := hf.pn [1, 2, 7, 8, 10, 11, 14]
   have H := H.lt_ [] [true, true] [] [0]
   refine loopC (fun (s : Int) (a : Act) (w : World) => match s with | b4 => Fr a 101 [(1, (.slice A3 sites.length c3)), (2, (.int .i64 reach)), (7, (.int .i64 (n'.Nodes.length : Int))), (8, (.slice A9 far2.length c7)), (10, (.int .i64 a3)), (11, (.slice A18 seen4.length c15)), (14, (.int .i64 b4))] ∧ Mem ⟨w0, []⟩ S [] [⟨.sh true, E8, A18, c15, (seen4 : List Int)⟩, ⟨.sh true, E3, A9, c7, (far2 : List (List Int))⟩] [] [(false, MP.val [(.slice A3 sites.length c3)] (sites : List Int))] w) (fun k (s : Int) => spec_l19Connect_L5 fu n' far2 seen4 a3 k s = some out5) (fun s => out5 = Out.next s) 0 fu hB2 ⟨hf, H⟩ (fun s h => by cases h) ?_ ?_
   ·rintro fk b4 a w hR2 hI
    replace hR2 : spec_l19Connect_L5 fu n' far2 seen4 a3 (fk + 1) b4 = some out5 := hR2
    rw [spec_l19Connect_L5] at hR2
    obtain ⟨hf, H⟩ := hI
    refine sq (sqz (pz 3 hf fun a hf => ?_))
    refine wl_end (then_n (ib hR2 hf (fun hc10 hR2 => ?_) fun hc10 hR2 => ?_))
    ·refine wp_skip (then_n (sq (wp_block (sq ?_))))
     obtain ⟨c16, hGc16, hR2⟩ := bs_ hR2
     have fh2 := hf.prune [1, 2, 7, 8, 10, 11, 14] rfl
     have Hm2 := H.lt_ [] [true, true] [] [0]
     refine midF 100 (.bool c16) fh2 Hm2 ?_ fun a w hf H => ?_
     ·refine reg (pz 2 hf fun a hf => ?_)
      obtain ⟨e8, he8, hGc16⟩ := bs_ hGc16
      refine wl0 rfl (op_iaddrR hf H Try.underlying65 TF.sz26 1 rfl rfl rfl he8 (by decide) fun p8 o8 cs8 a hf hA6 hr8 hk6 => ?_)
      obtain ⟨A19, c17, rfl, hl7⟩ := list_cells hr8
      have H := H.pT hl7
      refine oq hf (rq_load1 hf TF.ls26 rfl (hk6 0 _ rfl)) fun a hf => ?_
      refine pz 1 hf fun a hf => ?_
      obtain ⟨e9, he9, hGc16⟩ := bs_ hGc16
      refine wl0 rfl (op_iaddr hf H Try.underlying26 TF.sz3 0 rfl rfl rfl he9 (by decide) fun p9 o9 cs9 a hf hr9 H => ?_)
      obtain rfl := hr9
      refine oq hf (rq_loadI hf H TF.ls3 0 0 rfl rfl rfl) fun a hf => ?_
      refine pz 2 hf fun a hf => ?_
      refine iteB hGc16 (fun hc11 hGc16 => ?_) fun hc11 hGc16 => ?_
      ·have hf := hf.lit 95 rfl hc11
       refine pz 2 hf fun a hf => ?_
       obtain ⟨y7, hy7, hGc16⟩ := bs_ hGc16
       refine wlg hf rfl rfl rfl (oC hf TF.cl41 (spec_l1Has_ok (S := TT) (mk_list (H.rowTrue 0 rfl)) mk_int hy7) fun v7 w a hp8 hf => ?_)
       obtain ⟨hb7, hp8⟩ := hp8
       obtain rfl := VR_bool hp8
       have H := H.keep hb7
       refine pz 2 hf fun a hf => ?_
       obtain rfl := oi hGc16
       have hf := hf.pn [100, 1, 2, 7, 8, 10, 11, 14]
       have H := H.lt_ [] [true, true] [] [2]
       exact wl_end ⟨hf, H⟩
      ·have hf := hf.lit 95 rfl hc11
       refine pz 5 hf fun a hf => ?_
       obtain rfl := oi hGc16
       have hf := hf.pn [100, 1, 2, 7, 8, 10, 11, 14]
       have H := H.lt_ [] [true, true] [] [2]
       exact wl_end ⟨hf, H⟩
     refine then_n (ib hR2 hf (fun hc12 hR2 => ?_) fun hc12 hR2 => ?_)
     ·refine sqz (pz 1 hf fun a hf => ?_)
      refine wl_end (then_n (wp_ret (blk_r (then_r (then_r (blk_r (then_r (blk_r (then_r (then_r (blk_r (then_r (then_r (?_))))))))))))))
      obtain rfl := oi hR2
      replace hR1 := on_ret hR1
      obtain rfl := oi hR1
      replace hF := on_ret hF
      obtain rfl := oi hF
      refine rT hf ?_
      exact ⟨_, rfl, H.bel, mk_bool⟩
     ·refine wp_skip (blk_n (then_n (reg (pz 3 hf fun a hf => ?_))))
      refine wl_end ?_
      have hf := hf.pn [1, 2, 7, 8, 10, 11, 14]
      have H := H.lt_ [] [true, true] [] [0]
      exact then_n ⟨w64 (b4 + 1), hR2, hf, H⟩
    ·refine wp_exit (then_x (then_x (blk_e (?_))))
     have hf := hf.pn [1, 2, 7, 8, 10, 11, 14]
     have H := H.lt_ [] [true, true] [] [0]
     exact ⟨b4, (Option.some.inj hR2).symm, hf, H⟩
   rintro a w ⟨b5, rfl, hf, H⟩
   replace hR1 := on_next hR1
   refine blk_n (then_n (reg (pz 3 hf fun a hf => ?_)))
   refine wl_end ?_
   have hf := hf.pn [1, 2, 7, 8, 10]
   have H := H.lt_ [] [false, true] [] [0]
   exact then_n ⟨w64 (a3 + 1), hR1, hf, H⟩
  ·refine wp_exit (then_x (then_x (blk_e (?_))))
   have hf := hf.pn [1, 2, 7, 8, 10]
   have H := H.lt_ [] [true] [] [0]
   exact ⟨a3, (Option.some.inj hR1).symm, hf, H⟩
 rintro a w ⟨a4, rfl, hf, H⟩
 replace hF := on_next hF
 refine then_n (sqz (pz 1 hf fun a hf => ?_))
 refine wer ?_
 obtain rfl := oi hF
 refine rT hf ?_
 exact ⟨_, rfl, H.bel, mk_bool⟩
theorem impl_within_ok {S : Nat → Prop} {v0_ : Value} {v1_ : Value} {v2_ : Value} {n' : Int} {low : Int} {high : Int} {r : Bool} (h0 : VR w0 S v0_ n') (h1 : VR w0 S v1_ low) (h2 : VR w0 S v2_ high) (hF : impl_within fu n' low high = some r) :
    Calls Try.prog 27 [v0_, v1_, v2_].toArray w0 fun e w' => ∃ v, e = .returned v ∧ (Below w0.heap.size w0 w' ∧ VR w' (St ⟨w0, []⟩ S [] [] [] true) v r) := by
 obtain rfl := VR_int h0
 obtain rfl := VR_int h1
 obtain rfl := VR_int h2
 have H := Mem.start ⟨w0, []⟩ S
 refine en Try.func27 fun a hf => ?_
 rw [impl_within] at hF
 refine sqz (pz 1 hf fun a hf => ?_)
 refine wl_end (then_n (sq ?_))
 obtain ⟨c, hGc, hF⟩ := bs_ hF
 have fh := hf.prune [] rfl
 have Hm := H.lt_ [] [] [] []
 refine midF 6 (.bool c) fh Hm ?_ fun a w hf H => ?_
 ·refine reg (pz 4 hf fun a hf => ?_)
  refine iteB hGc (fun hc hGc => ?_) fun hc hGc => ?_
  ·have hf := hf.lit 10 rfl hc
   refine pz 5 hf fun a hf => ?_
   obtain rfl := oi hGc
   have hf := hf.pn [6]
   have H := H.lt_ [] [] [] []
   exact wl_end ⟨hf, H⟩
  ·have hf := hf.lit 10 rfl hc
   refine pz 5 hf fun a hf => ?_
   obtain rfl := oi hGc
   have hf := hf.pn [6]
   have H := H.lt_ [] [] [] []
   exact wl_end ⟨hf, H⟩
 refine then_n (wp_ret (?_))
 obtain rfl := oi hF
 refine rT hf ?_
 exact ⟨_, rfl, H.bel, mk_bool⟩
theorem impl_isName_ok {S : Nat → Prop} {v0_ : Value} {s' : ByteArray} {r : Bool} (h0 : VR w0 S v0_ s') (hF : impl_isName fu s' = some r) :
    Calls Try.prog 43 [v0_].toArray w0 fun e w' => ∃ v, e = .returned v ∧ (Below w0.heap.size w0 w' ∧ VR w' (St ⟨w0, []⟩ S [] [] [] true) v r) := by
 obtain rfl := VR_str h0
 have H := Mem.start ⟨w0, []⟩ S
 refine en Try.func43 fun a hf => ?_
 rw [impl_isName] at hF
 refine sqz (pz 1 hf fun a hf => ?_)
 refine we (sqz (pz 3 hf fun a hf => ?_))
 refine wl_end (then_n ?_)
 obtain ⟨out', hB1, hF⟩ := bs_ hF
 have hf := hf.pn [0, 7, 8]
 have H := H.lt_ [] [] [] []
 refine loopC (fun (s : Int) (a : Act) (w : World) => match s with | i => Fr a 45 [(0, (.string s')), (7, (.int .i64 (s'.size : Int))), (8, (.int .i64 i))] ∧ Mem ⟨w0, []⟩ S [] [] [] [] w) (fun k (s : Int) => impl_isName_L1 fu s' k s = some out') (fun s => out' = Out.next s) 0 fu hB1 ⟨hf, H⟩ (fun s h => by cases h) ?_ ?_
 ·rintro fk i a w hR1 hI
  replace hR1 : impl_isName_L1 fu s' (fk + 1) i = some out' := hR1
  rw [impl_isName_L1] at hR1
  obtain ⟨hf, H⟩ := hI
  refine sqz (pz 1 hf fun a hf => ?_)
  refine wl_end (then_n (sq (ib hR1 hf (fun hc hR1 => ?_) fun hc hR1 => ?_)))
  ·refine ws (pz 2 hf fun a hf => ?_)
   refine wl_end (then_n (sq (dw [] 22 fun w hb => ?_)))
   have H := H.keep hb
   refine zp 0 hf trivial fun a hf => ?_
   refine zp 1 hf trivial fun a hf => ?_
   obtain ⟨e, he, hR1⟩ := bs_ hR1
   refine tP 2 rfl rfl rfl rfl hf (by kernel_rfl) (fun _ => trivial) (fun w => rq_indexS hf Try.underlying9 rfl rfl he) fun a hf => ?_
   refine tP 3 rfl rfl rfl rfl hf (by kernel_rfl) (fun _ => trivial) (fun w => rq_geK hf rfl rfl) fun a hf => ?_
   refine zp 4 hf trivial fun a hf => ?_
   refine zp 10 hf trivial fun a hf => ?_
   refine zp 11 hf trivial fun a hf => ?_
   obtain ⟨e2, he2, hR1⟩ := bs_ hR1
   refine tP 12 rfl rfl rfl rfl hf (by kernel_rfl) (fun _ => trivial) (fun w => rq_indexS hf Try.underlying9 rfl rfl he2) fun a hf => ?_
   refine tP 13 rfl rfl rfl rfl hf (by kernel_rfl) (fun _ => trivial) (fun w => rq_geK hf rfl rfl) fun a hf => ?_
   refine zp 14 hf trivial fun a hf => ?_
   refine iteB hR1 (fun hc2 hR1 => ?_) fun hc2 hR1 => ?_
   ·have hf := hf.lit 15 rfl hc2
    refine zg 5 hf trivial fun a hf => ?_
    refine zg 6 hf trivial fun a hf => ?_
    obtain ⟨e3, he3, hR1⟩ := bs_ hR1
    refine tPg 7 rfl rfl rfl rfl rfl rfl hf (by kernel_rfl) (fun _ => trivial) (fun w => rq_indexS hf Try.underlying9 rfl rfl he3) fun a hf => ?_
    refine tPg 8 rfl rfl rfl rfl rfl rfl hf (by kernel_rfl) (fun _ => trivial) (fun w => rq_leK hf rfl rfl) fun a hf => ?_
    refine zp 9 hf trivial fun a hf => ?_
    refine zp 20 hf trivial fun a hf => ?_
    refine iteB hR1 (fun hc3 hR1 => ?_) fun hc3 hR1 => ?_
    ·have hf := hf.lit 25 rfl hc3
     refine zg 15 hf trivial fun a hf => ?_
     refine zg 16 hf trivial fun a hf => ?_
     obtain ⟨e4, he4, hR1⟩ := bs_ hR1
     refine tPg 17 rfl rfl rfl rfl rfl rfl hf (by kernel_rfl) (fun _ => trivial) (fun w => rq_indexS hf Try.underlying9 rfl rfl he4) fun a hf => ?_
     refine tPg 18 rfl rfl rfl rfl rfl rfl hf (by kernel_rfl) (fun _ => trivial) (fun w => rq_leK hf rfl rfl) fun a hf => ?_
     refine zp 19 hf trivial fun a hf => ?_
     refine zp 21 hf trivial fun a hf => ?_
     refine dk ?_
     have hf := hf.pn [0, 3, 4, 5, 7, 8, 16, 17, 18, 19, 26, 27, 28, 29]
     refine then_n (sq ?_)
     obtain ⟨c, hGc, hR1⟩ := bs_ hR1
     have fh := hf.prune [0, 7, 8, 16, 17, 18, 19, 26, 27, 28, 29] rfl
     have Hm := H.lt_ [] [] [] []
     refine midF 40 (.bool c) fh Hm ?_ fun a w hf H => ?_
     ·refine reg (pz 3 hf fun a hf => ?_)
      refine iteB hGc (fun hc4 hGc => ?_) fun hc4 hGc => ?_
      ·have hf := hf.lit 33 rfl hc4
       refine pz 3 hf fun a hf => ?_
       refine iteB hGc (fun hc5 hGc => ?_) fun hc5 hGc => ?_
       ·have hf := hf.lit 36 rfl hc5
        refine pz 4 hf fun a hf => ?_
        obtain rfl := oi hGc
        have hf := hf.pn [40, 0, 7, 8, 16, 17, 18, 19, 26, 27, 28, 29]
        have H := H.lt_ [] [] [] []
        exact wl_end ⟨hf, H⟩
       ·have hf := hf.lit 36 rfl hc5
        refine pz 4 hf fun a hf => ?_
        obtain rfl := oi hGc
        have hf := hf.pn [40, 0, 7, 8, 16, 17, 18, 19, 26, 27, 28, 29]
        have H := H.lt_ [] [] [] []
        exact wl_end ⟨hf, H⟩
      ·have hf := hf.lit 33 rfl hc4
       refine pz 3 hf fun a hf => ?_
       refine wlsu hf rfl rfl rfl rfl (by decide) fun a hf => ?_
       refine wlsu hf rfl rfl rfl rfl (by decide) fun a hf => ?_
       refine pz 2 hf fun a hf => ?_
       obtain rfl := oi hGc
       have hf := hf.pn [40, 0, 7, 8, 16, 17, 18, 19, 26, 27, 28, 29]
       have H := H.lt_ [] [] [] []
       exact wl_end ⟨hf, H⟩
     refine then_n (ib hR1 hf (fun hc6 hR1 => ?_) fun hc6 hR1 => ?_)
     ·refine sqz (pz 1 hf fun a hf => ?_)
      refine wl_end (then_n (wp_ret (blk_r (then_r (then_r (blk_r (then_r (then_r (?_)))))))))
      obtain rfl := oi hR1
      replace hF := on_ret hF
      obtain rfl := oi hF
      refine rT hf ?_
      exact ⟨_, rfl, H.bel, mk_bool⟩
     ·refine wp_skip (blk_n (then_n (reg (pz 2 hf fun a hf => ?_))))
      refine wl_end ?_
      have hf := hf.pn [0, 7, 8]
      have H := H.lt_ [] [] [] []
      exact then_n ⟨w64 (i + 1), hR1, hf, H⟩
    ·have hf := hf.lit 25 rfl hc3
     refine zU 15 hf trivial fun a hf => ?_
     refine zU 16 hf trivial fun a hf => ?_
     refine zU 17 hf trivial fun a hf => ?_
     refine zU 18 hf trivial fun a hf => ?_
     refine zp 19 hf trivial fun a hf => ?_
     refine zp 21 hf trivial fun a hf => ?_
     refine dk ?_
     have hf := hf.pn [0, 3, 4, 5, 7, 8, 16, 17, 18, 19]
     refine then_n (sq ?_)
     obtain ⟨c2, hGc2, hR1⟩ := bs_ hR1
     have fh2 := hf.prune [0, 7, 8, 16, 17, 18, 19] rfl
     have Hm2 := H.lt_ [] [] [] []
     refine midF 40 (.bool c2) fh2 Hm2 ?_ fun a w hf H => ?_
     ·refine reg (pz 3 hf fun a hf => ?_)
      refine iteB hGc2 (fun hc7 hGc2 => ?_) fun hc7 hGc2 => ?_
      ·have hf := hf.lit 33 rfl hc7
       refine pz 3 hf fun a hf => ?_
       refine iteB hGc2 (fun hc8 hGc2 => ?_) fun hc8 hGc2 => ?_
       ·have hf := hf.lit 36 rfl hc8
        refine pz 4 hf fun a hf => ?_
        obtain rfl := oi hGc2
        have hf := hf.pn [40, 0, 7, 8, 16, 17, 18, 19]
        have H := H.lt_ [] [] [] []
        exact wl_end ⟨hf, H⟩
       ·have hf := hf.lit 36 rfl hc8
        refine pz 4 hf fun a hf => ?_
        obtain rfl := oi hGc2
        have hf := hf.pn [40, 0, 7, 8, 16, 17, 18, 19]
        have H := H.lt_ [] [] [] []
        exact wl_end ⟨hf, H⟩
      ·have hf := hf.lit 33 rfl hc7
       refine pz 3 hf fun a hf => ?_
       refine wlsu hf rfl rfl rfl rfl (by decide) fun a hf => ?_
       refine wlsu hf rfl rfl rfl rfl (by decide) fun a hf => ?_
       refine pz 2 hf fun a hf => ?_
       obtain rfl := oi hGc2
       have hf := hf.pn [40, 0, 7, 8, 16, 17, 18, 19]
       have H := H.lt_ [] [] [] []
       exact wl_end ⟨hf, H⟩
     refine then_n (ib hR1 hf (fun hc9 hR1 => ?_) fun hc9 hR1 => ?_)
     ·refine sqz (pz 1 hf fun a hf => ?_)
      refine wl_end (then_n (wp_ret (blk_r (then_r (then_r (blk_r (then_r (then_r (?_)))))))))
      obtain rfl := oi hR1
      replace hF := on_ret hF
      obtain rfl := oi hF
      refine rT hf ?_
      exact ⟨_, rfl, H.bel, mk_bool⟩
     ·refine wp_skip (blk_n (then_n (reg (pz 2 hf fun a hf => ?_))))
      refine wl_end ?_
      have hf := hf.pn [0, 7, 8]
      have H := H.lt_ [] [] [] []
      exact then_n ⟨w64 (i + 1), hR1, hf, H⟩
   ·have hf := hf.lit 15 rfl hc2
    refine zU 5 hf trivial fun a hf => ?_
    refine zU 6 hf trivial fun a hf => ?_
    refine zU 7 hf trivial fun a hf => ?_
    refine zU 8 hf trivial fun a hf => ?_
    refine zp 9 hf trivial fun a hf => ?_
    refine zp 20 hf trivial fun a hf => ?_
    refine iteB hR1 (fun hc10 hR1 => ?_) fun hc10 hR1 => ?_
    ·have hf := hf.lit 25 rfl hc10
     refine zg 15 hf trivial fun a hf => ?_
     refine zg 16 hf trivial fun a hf => ?_
     obtain ⟨e5, he5, hR1⟩ := bs_ hR1
     refine tPg 17 rfl rfl rfl rfl rfl rfl hf (by kernel_rfl) (fun _ => trivial) (fun w => rq_indexS hf Try.underlying9 rfl rfl he5) fun a hf => ?_
     refine tPg 18 rfl rfl rfl rfl rfl rfl hf (by kernel_rfl) (fun _ => trivial) (fun w => rq_leK hf rfl rfl) fun a hf => ?_
     refine zp 19 hf trivial fun a hf => ?_
     refine zp 21 hf trivial fun a hf => ?_
     refine dk ?_
     have hf := hf.pn [0, 3, 4, 5, 7, 8, 26, 27, 28, 29]
     refine then_n (sq ?_)
     obtain ⟨c3, hGc3, hR1⟩ := bs_ hR1
     have fh3 := hf.prune [0, 7, 8, 26, 27, 28, 29] rfl
     have Hm3 := H.lt_ [] [] [] []
     refine midF 40 (.bool c3) fh3 Hm3 ?_ fun a w hf H => ?_
     ·refine reg (pz 3 hf fun a hf => ?_)
      refine iteB hGc3 (fun hc11 hGc3 => ?_) fun hc11 hGc3 => ?_
      ·have hf := hf.lit 33 rfl hc11
       refine pz 3 hf fun a hf => ?_
       refine iteB hGc3 (fun hc12 hGc3 => ?_) fun hc12 hGc3 => ?_
       ·have hf := hf.lit 36 rfl hc12
        refine pz 4 hf fun a hf => ?_
        obtain rfl := oi hGc3
        have hf := hf.pn [40, 0, 7, 8, 26, 27, 28, 29]
        have H := H.lt_ [] [] [] []
        exact wl_end ⟨hf, H⟩
       ·have hf := hf.lit 36 rfl hc12
        refine pz 4 hf fun a hf => ?_
        obtain rfl := oi hGc3
        have hf := hf.pn [40, 0, 7, 8, 26, 27, 28, 29]
        have H := H.lt_ [] [] [] []
        exact wl_end ⟨hf, H⟩
      ·have hf := hf.lit 33 rfl hc11
       refine pz 3 hf fun a hf => ?_
       refine wlsu hf rfl rfl rfl rfl (by decide) fun a hf => ?_
       refine wlsu hf rfl rfl rfl rfl (by decide) fun a hf => ?_
       refine pz 2 hf fun a hf => ?_
       obtain rfl := oi hGc3
       have hf := hf.pn [40, 0, 7, 8, 26, 27, 28, 29]
       have H := H.lt_ [] [] [] []
       exact wl_end ⟨hf, H⟩
     refine then_n (ib hR1 hf (fun hc13 hR1 => ?_) fun hc13 hR1 => ?_)
     ·refine sqz (pz 1 hf fun a hf => ?_)
      refine wl_end (then_n (wp_ret (blk_r (then_r (then_r (blk_r (then_r (then_r (?_)))))))))
      obtain rfl := oi hR1
      replace hF := on_ret hF
      obtain rfl := oi hF
      refine rT hf ?_
      exact ⟨_, rfl, H.bel, mk_bool⟩
     ·refine wp_skip (blk_n (then_n (reg (pz 2 hf fun a hf => ?_))))
      refine wl_end ?_
      have hf := hf.pn [0, 7, 8]
      have H := H.lt_ [] [] [] []
      exact then_n ⟨w64 (i + 1), hR1, hf, H⟩
    ·have hf := hf.lit 25 rfl hc10
     refine zU 15 hf trivial fun a hf => ?_
     refine zU 16 hf trivial fun a hf => ?_
     refine zU 17 hf trivial fun a hf => ?_
     refine zU 18 hf trivial fun a hf => ?_
     refine zp 19 hf trivial fun a hf => ?_
     refine zp 21 hf trivial fun a hf => ?_
     refine dk ?_
     have hf := hf.pn [0, 3, 4, 5, 7, 8]
     refine then_n (sq ?_)
     obtain ⟨c4, hGc4, hR1⟩ := bs_ hR1
     have fh4 := hf.prune [0, 7, 8] rfl
     have Hm4 := H.lt_ [] [] [] []
     refine midF 40 (.bool c4) fh4 Hm4 ?_ fun a w hf H => ?_
     ·refine reg (pz 3 hf fun a hf => ?_)
      refine iteB hGc4 (fun hc14 hGc4 => ?_) fun hc14 hGc4 => ?_
      ·have hf := hf.lit 33 rfl hc14
       refine pz 3 hf fun a hf => ?_
       refine iteB hGc4 (fun hc15 hGc4 => ?_) fun hc15 hGc4 => ?_
       ·have hf := hf.lit 36 rfl hc15
        refine pz 4 hf fun a hf => ?_
        obtain rfl := oi hGc4
        have hf := hf.pn [40, 0, 7, 8]
        have H := H.lt_ [] [] [] []
        exact wl_end ⟨hf, H⟩
       ·have hf := hf.lit 36 rfl hc15
        refine pz 4 hf fun a hf => ?_
        obtain rfl := oi hGc4
        have hf := hf.pn [40, 0, 7, 8]
        have H := H.lt_ [] [] [] []
        exact wl_end ⟨hf, H⟩
      ·have hf := hf.lit 33 rfl hc14
       refine pz 3 hf fun a hf => ?_
       refine wlsu hf rfl rfl rfl rfl (by decide) fun a hf => ?_
       refine wlsu hf rfl rfl rfl rfl (by decide) fun a hf => ?_
       refine pz 2 hf fun a hf => ?_
       obtain rfl := oi hGc4
       have hf := hf.pn [40, 0, 7, 8]
       have H := H.lt_ [] [] [] []
       exact wl_end ⟨hf, H⟩
     refine then_n (ib hR1 hf (fun hc16 hR1 => ?_) fun hc16 hR1 => ?_)
     ·refine sqz (pz 1 hf fun a hf => ?_)
      refine wl_end (then_n (wp_ret (blk_r (then_r (then_r (blk_r (then_r (then_r (?_)))))))))
      obtain rfl := oi hR1
      replace hF := on_ret hF
      obtain rfl := oi hF
      refine rT hf ?_
      exact ⟨_, rfl, H.bel, mk_bool⟩
     ·refine wp_skip (blk_n (then_n (reg (pz 2 hf fun a hf => ?_))))
      refine wl_end ?_
      have hf := hf.pn [0, 7, 8]
      have H := H.lt_ [] [] [] []
      exact then_n ⟨w64 (i + 1), hR1, hf, H⟩
  ·refine wp_exit (then_x (then_x (blk_e (?_))))
   have hf := hf.pn [0, 7, 8]
   have H := H.lt_ [] [] [] []
   exact ⟨i, (Option.some.inj hR1).symm, hf, H⟩
 rintro a w ⟨i2, rfl, hf, H⟩
 replace hF := on_next hF
 refine then_n (sqz (pz 2 hf fun a hf => ?_))
 obtain ⟨y, hy, hF⟩ := bs_ hF
 refine oc hf TF.cl27 (impl_within_ok (S := TT) mk_int mk_int mk_int hy) fun v w a hp hf => ?_
 obtain ⟨hb, hp⟩ := hp
 obtain rfl := VR_bool hp
 have H := H.keep hb
 refine pz 1 hf fun a hf => ?_
 refine wer ?_
 obtain rfl := oi hF
 refine rT hf ?_
 exact ⟨_, rfl, H.bel, mk_bool⟩
theorem slices_Index_string_string_ok {S : Nat → Prop} {v0_ : Value} {v1_ : Value} {s' : List ByteArray} {v : ByteArray} {r : Int} (h0 : VR w0 S v0_ s') (h1 : VR w0 S v1_ v) (hF : slices_Index_string_string fu s' v = some r) :
    Calls Try.prog 55 [v0_, v1_].toArray w0 fun e w' => ∃ v, e = .returned v ∧ (Below w0.heap.size w0 w' ∧ VR w' (St ⟨w0, []⟩ S [] [] [] true) v r) := by
 obtain ⟨A, c, rfl, hl⟩ := VR_list h0
 obtain rfl := VR_str h1
 have H := Mem.start ⟨w0, []⟩ S
 have H := H.pA hl
 refine en Try.func55 fun a hf => ?_
 rw [slices_Index_string_string] at hF
 refine sqz (pz 1 hf fun a hf => ?_)
 refine we (sqz (pz 3 hf fun a hf => ?_))
 refine wl_end (then_n ?_)
 obtain ⟨out', hB1, hF⟩ := bs_ hF
 have hf := hf.pn [0, 1, 7, 8]
 have H := H.lt_ [] [] [] [0]
 refine loopC (fun (s : Int) (a : Act) (w : World) => match s with | i => Fr a 19 [(0, (.slice A s'.length c)), (1, (.string v)), (7, (.int .i64 (s'.length : Int))), (8, (.int .i64 i))] ∧ Mem ⟨w0, []⟩ S [] [] [] [(false, MP.val [(.slice A s'.length c)] (s' : List ByteArray))] w) (fun k (s : Int) => slices_Index_string_string_L1 fu s' v k s = some out') (fun s => out' = Out.next s) 0 fu hB1 ⟨hf, H⟩ (fun s h => by cases h) ?_ ?_
 ·rintro fk i a w hR1 hI
  replace hR1 : slices_Index_string_string_L1 fu s' v (fk + 1) i = some out' := hR1
  rw [slices_Index_string_string_L1] at hR1
  obtain ⟨hf, H⟩ := hI
  refine sqz (pz 1 hf fun a hf => ?_)
  refine wl_end (then_n (sq (ib hR1 hf (fun hc hR1 => ?_) fun hc hR1 => ?_)))
  ·refine ws (pz 2 hf fun a hf => ?_)
   refine wr (pz 3 hf fun a hf => ?_)
   obtain ⟨e, he, hR1⟩ := bs_ hR1
   refine wl0 rfl (op_iaddr hf H Try.underlying22 TF.sz9 0 rfl rfl rfl he (by decide) fun p o cs a hf hr H => ?_)
   obtain rfl := hr
   refine oq hf (rq_loadI hf H TF.ls9 0 0 rfl rfl rfl) fun a hf => ?_
   refine pz 1 hf fun a hf => ?_
   refine wl_end (then_n (ib hR1 hf (fun hc2 hR1 => ?_) fun hc2 hR1 => ?_))
   ·refine sqz (pz 2 hf fun a hf => ?_)
    have hf := hf.pn [4]
    refine wl_end (then_n (wp_ret (blk_r (then_r (then_r (blk_r (then_r (then_r (?_)))))))))
    obtain rfl := oi hR1
    replace hF := on_ret hF
    obtain rfl := oi hF
    refine rT hf ?_
    exact ⟨_, rfl, H.bel, mk_int⟩
   ·refine wp_skip (blk_n (then_n (reg (pz 2 hf fun a hf => ?_))))
    refine wl_end ?_
    have hf := hf.pn [0, 1, 7, 8]
    have H := H.lt_ [] [] [] [1]
    exact then_n ⟨w64 (i + 1), hR1, hf, H⟩
  ·refine wp_exit (then_x (then_x (blk_e (?_))))
   have hf := hf.pn [0, 1, 7, 8]
   have H := H.lt_ [] [] [] [0]
   exact ⟨i, (Option.some.inj hR1).symm, hf, H⟩
 rintro a w ⟨i2, rfl, hf, H⟩
 replace hF := on_next hF
 refine then_n (sqz (pz 1 hf fun a hf => ?_))
 refine wer ?_
 obtain rfl := oi hF
 refine rT hf ?_
 exact ⟨_, rfl, H.bel, mk_int⟩
theorem slices_Contains_string_string_ok {S : Nat → Prop} {v0_ : Value} {v1_ : Value} {s' : List ByteArray} {v : ByteArray} {r : Bool} (h0 : VR w0 S v0_ s') (h1 : VR w0 S v1_ v) (hF : slices_Contains_string_string fu s' v = some r) :
    Calls Try.prog 44 [v0_, v1_].toArray w0 fun e w' => ∃ v, e = .returned v ∧ (Below w0.heap.size w0 w' ∧ VR w' (St ⟨w0, []⟩ S [] [] [] true) v r) := by
 obtain ⟨A, c, rfl, hl⟩ := VR_list h0
 obtain rfl := VR_str h1
 have H := Mem.start ⟨w0, []⟩ S
 have H := H.pA hl
 refine en Try.func44 fun a hf => ?_
 rw [slices_Contains_string_string] at hF
 refine sqz (pz 1 hf fun a hf => ?_)
 refine wr (pz 2 hf fun a hf => ?_)
 obtain ⟨y, hy, hF⟩ := bs_ hF
 refine oc hf TF.cl55 (slices_Index_string_string_ok (S := TT) (mk_list (H.rt 0 rfl)) mk_str hy) fun v2 w a hp hf => ?_
 obtain ⟨hb, hp⟩ := hp
 obtain rfl := VR_int hp
 have H := H.keep hb
 refine pz 2 hf fun a hf => ?_
 refine wer ?_
 obtain rfl := oi hF
 refine rT hf ?_
 exact ⟨_, rfl, H.bel, mk_bool⟩
theorem cmp_isNaN_int_ok {S : Nat → Prop} {v0_ : Value} {x1 : Int} {r : Bool} (h0 : VR w0 S v0_ x1) (hF : cmp_isNaN_int fu x1 = some r) :
    Calls Try.prog 60 [v0_].toArray w0 fun e w' => ∃ v, e = .returned v ∧ (Below w0.heap.size w0 w' ∧ VR w' (St ⟨w0, []⟩ S [] [] [] true) v r) := by
 obtain rfl := VR_int h0
 have H := Mem.start ⟨w0, []⟩ S
 refine en Try.func60 fun a hf => ?_
 rw [cmp_isNaN_int] at hF
 refine sqz (pz 1 hf fun a hf => ?_)
 refine wr (pz 4 hf fun a hf => ?_)
 refine wer ?_
 obtain rfl := oi hF
 refine rT hf ?_
 exact ⟨_, rfl, H.bel, mk_bool⟩
theorem cmp_Compare_int_ok {S : Nat → Prop} {v0_ : Value} {v1_ : Value} {x1 : Int} {y : Int} {r : Int} (h0 : VR w0 S v0_ x1) (h1 : VR w0 S v1_ y) (hF : cmp_Compare_int fu x1 y = some r) :
    Calls Try.prog 57 [v0_, v1_].toArray w0 fun e w' => ∃ v, e = .returned v ∧ (Below w0.heap.size w0 w' ∧ VR w' (St ⟨w0, []⟩ S [] [] [] true) v r) := by
 obtain rfl := VR_int h0
 obtain rfl := VR_int h1
 have H := Mem.start ⟨w0, []⟩ S
 refine en Try.func57 fun a hf => ?_
 rw [cmp_Compare_int] at hF
 refine sqz (pz 1 hf fun a hf => ?_)
 refine wr (pz 1 hf fun a hf => ?_)
 obtain ⟨y2, hy2, hF⟩ := bs_ hF
 refine oc hf TF.cl60 (cmp_isNaN_int_ok (S := TT) mk_int hy2) fun v w a hp hf => ?_
 obtain ⟨hb, hp⟩ := hp
 obtain rfl := VR_bool hp
 have H := H.keep hb
 refine pz 1 hf fun a hf => ?_
 refine wr (pz 1 hf fun a hf => ?_)
 obtain ⟨y3, hy3, hF⟩ := bs_ hF
 refine oc hf TF.cl60 (cmp_isNaN_int_ok (S := TT) mk_int hy3) fun v2 w a hp2 hf => ?_
 obtain ⟨hb2, hp2⟩ := hp2
 obtain rfl := VR_bool hp2
 have H := H.keep hb2
 refine pz 1 hf fun a hf => ?_
 refine we (sqz (pz 1 hf fun a hf => ?_))
 refine wl_end (then_n (ib hF hf (fun hc hF => ?_) fun hc hF => ?_))
 ·refine sq (sqz (pz 1 hf fun a hf => ?_))
  refine wl_end (then_n (ib hF hf (fun hc2 hF => ?_) fun hc2 hF => ?_))
  ·refine sqz (pz 1 hf fun a hf => ?_)
   refine wl_end (then_n (wp_ret (then_r (then_r (?_)))))
   obtain rfl := oi hF
   refine rT hf ?_
   exact ⟨_, rfl, H.bel, mk_int⟩
  ·refine wp_skip (then_n (sqz (pz 1 hf fun a hf => ?_)))
   refine wl_end (then_n (wp_ret (then_r (?_))))
   obtain rfl := oi hF
   refine rT hf ?_
   exact ⟨_, rfl, H.bel, mk_int⟩
 ·refine wp_skip (then_n (sq (sqz (pz 1 hf fun a hf => ?_))))
  refine wl_end (then_n (ib hF hf (fun hc3 hF => ?_) fun hc3 hF => ?_))
  ·refine sqz (pz 1 hf fun a hf => ?_)
   refine wl_end (then_n (wp_ret (then_r (?_))))
   obtain rfl := oi hF
   refine rT hf ?_
   exact ⟨_, rfl, H.bel, mk_int⟩
  ·refine wp_skip (then_n (sq (sqz (pz 3 hf fun a hf => ?_))))
   refine wl_end (then_n (ib hF hf (fun hc4 hF => ?_) fun hc4 hF => ?_))
   ·refine sqz (pz 1 hf fun a hf => ?_)
    have hf := hf.pn [4]
    refine wl_end (then_n (wp_ret (then_r (?_))))
    obtain rfl := oi hF
    refine rT hf ?_
    exact ⟨_, rfl, H.bel, mk_int⟩
   ·refine wp_skip (then_n (sq (sqz (pz 3 hf fun a hf => ?_))))
    have hf := hf.pn [19]
    refine wl_end (then_n (ib hF hf (fun hc5 hF => ?_) fun hc5 hF => ?_))
    ·refine sqz (pz 1 hf fun a hf => ?_)
     refine wl_end (then_n (wp_ret (then_r (?_))))
     obtain rfl := oi hF
     refine rT hf ?_
     exact ⟨_, rfl, H.bel, mk_int⟩
    ·refine wp_skip (then_n (sqz (pz 1 hf fun a hf => ?_)))
     refine wer ?_
     obtain rfl := oi hF
     refine rT hf ?_
     exact ⟨_, rfl, H.bel, mk_int⟩
theorem cmp_Or_int_ok {S : Nat → Prop} {v0_ : Value} {vals : List Int} {r : Int} (h0 : VR w0 S v0_ vals) (hF : cmp_Or_int fu vals = some r) :
    Calls Try.prog 56 [v0_].toArray w0 fun e w' => ∃ v, e = .returned v ∧ (Below w0.heap.size w0 w' ∧ VR w' (St ⟨w0, []⟩ S [] [] [] true) v r) := by
 obtain ⟨A, c, rfl, hl⟩ := VR_list h0
 have H := Mem.start ⟨w0, []⟩ S
 have H := H.pA hl
 refine en Try.func56 fun a hf => ?_
 rw [cmp_Or_int] at hF
 refine sqz (pz 1 hf fun a hf => ?_)
 refine wr (pz 1 hf fun a hf => ?_)
 refine we (sqz (pz 3 hf fun a hf => ?_))
 refine wl_end (then_n ?_)
 obtain ⟨out', hB1, hF⟩ := bs_ hF
 have hf := hf.pn [3, 6, 7, 8]
 have H := H.lt_ [] [] [] [0]
 refine loopC (fun (s : Int) (a : Act) (w : World) => match s with | i => Fr a 18 [(3, (.int .i64 0)), (6, (.slice A vals.length c)), (7, (.int .i64 (vals.length : Int))), (8, (.int .i64 i))] ∧ Mem ⟨w0, []⟩ S [] [] [] [(false, MP.val [(.slice A vals.length c)] (vals : List Int))] w) (fun k (s : Int) => cmp_Or_int_L1 fu vals k s = some out') (fun s => out' = Out.next s) 0 fu hB1 ⟨hf, H⟩ (fun s h => by cases h) ?_ ?_
 ·rintro fk i a w hR1 hI
  replace hR1 : cmp_Or_int_L1 fu vals (fk + 1) i = some out' := hR1
  rw [cmp_Or_int_L1] at hR1
  obtain ⟨hf, H⟩ := hI
  refine sqz (pz 1 hf fun a hf => ?_)
  refine wl_end (then_n (sq (ib hR1 hf (fun hc hR1 => ?_) fun hc hR1 => ?_)))
  ·refine wp_skip (then_n (sq (wp_block (sq (reg ?_)))))
   obtain ⟨e, he, hR1⟩ := bs_ hR1
   refine wl0 rfl (op_iaddr hf H Try.underlying26 TF.sz3 0 rfl rfl rfl he (by decide) fun p o cs a hf hr H => ?_)
   obtain rfl := hr
   refine oq hf (rq_loadI hf H TF.ls3 0 0 rfl rfl rfl) fun a hf => ?_
   refine pz 1 hf fun a hf => ?_
   refine wr (pz 3 hf fun a hf => ?_)
   refine wl_end (then_n (ib hR1 hf (fun hc2 hR1 => ?_) fun hc2 hR1 => ?_))
   ·refine sqz (pz 2 hf fun a hf => ?_)
    refine wl_end (then_n (wp_ret (blk_r (then_r (then_r (blk_r (then_r (then_r (?_)))))))))
    obtain rfl := oi hR1
    replace hF := on_ret hF
    obtain rfl := oi hF
    refine rT hf ?_
    exact ⟨_, rfl, H.bel, mk_int⟩
   ·refine wp_skip (blk_n (then_n (reg (pz 2 hf fun a hf => ?_))))
    refine wl_end ?_
    have hf := hf.pn [3, 6, 7, 8]
    have H := H.lt_ [] [] [] [1]
    exact then_n ⟨w64 (i + 1), hR1, hf, H⟩
  ·refine wp_exit (then_x (then_x (blk_e (?_))))
   have hf := hf.pn [3, 6, 7, 8]
   have H := H.lt_ [] [] [] [0]
   exact ⟨i, (Option.some.inj hR1).symm, hf, H⟩
 rintro a w ⟨i2, rfl, hf, H⟩
 replace hF := on_next hF
 refine then_n (sqz (pz 2 hf fun a hf => ?_))
 refine wer ?_
 obtain rfl := oi hF
 refine rT hf ?_
 exact ⟨_, rfl, H.bel, mk_int⟩
theorem impl_compareFibers_ok {S : Nat → Prop} {v0_ : Value} {v1_ : Value} {a' : Fiber} {b' : Fiber} {r : Int} (h0 : VR w0 S v0_ a') (h1 : VR w0 S v1_ b') (hF : impl_compareFibers fu a' b' = some r) :
    Calls Try.prog 45 [v0_, v1_].toArray w0 fun e w' => ∃ v, e = .returned v ∧ (Below w0.heap.size w0 w' ∧ VR w' (St ⟨w0, []⟩ S [] [] [] true) v r) := by
 obtain rfl := Fiber_open h0
 obtain rfl := Fiber_open h1
 have H := Mem.start ⟨w0, []⟩ S
 refine en Try.func45 fun a hf => ?_
 rw [impl_compareFibers] at hF
 refine bx hf H fun b2 a w hf H => ?_
 refine wl0 rfl (op_box hf H rfl rfl (by decide) fun b3 a w hf H => ?_)
 refine pz 1 hf fun a hf => ?_
 refine wl_end (then_n (sq (dw [] 23 fun w hb => ?_)))
 have H := H.keep hb
 refine zp 0 hf trivial fun a hf => ?_
 refine strT (H.lt_ [false, true] [] [] []) (fun w H => trivial) fun hS => ?_
 refine zS 1 [] rfl rfl rfl rfl hf hS (fun w H => rq_loadB hf H TF.ls3 0 rfl rfl rfl) fun a hf => ?_
 refine zp 2 hf hS fun a hf => ?_
 refine strT H (fun w H => H.lt_ [false, true] [] [] []) fun hS => ?_
 refine zS 3 [] rfl rfl rfl rfl hf hS (fun w H => rq_loadB hf H TF.ls3 0 rfl rfl rfl) fun a hf => ?_
 refine zp 5 hf hS fun a hf => ?_
 refine zS 6 [] rfl rfl rfl rfl hf hS (fun w H => rq_loadB hf H TF.ls3 1 rfl rfl rfl) fun a hf => ?_
 refine zp 7 hf hS fun a hf => ?_
 refine zS 8 [] rfl rfl rfl rfl hf hS (fun w H => rq_loadB hf H TF.ls3 0 rfl rfl rfl) fun a hf => ?_
 refine zp 10 hf hS fun a hf => ?_
 refine zS 11 [] rfl rfl rfl rfl hf hS (fun w H => rq_loadB hf H TF.ls3 1 rfl rfl rfl) fun a hf => ?_
 refine zp 12 hf hS fun a hf => ?_
 refine zS 13 [] rfl rfl rfl rfl hf hS (fun w H => rq_loadB hf H TF.ls3 0 rfl rfl rfl) fun a hf => ?_
 refine zp 15 hf hS fun a hf => ?_
 refine zS 16 [] rfl rfl rfl rfl hf hS (fun w H => rq_loadB hf H TF.ls3 1 rfl rfl rfl) fun a hf => ?_
 refine zp 17 hf hS fun a hf => ?_
 refine zS 18 [] rfl rfl rfl rfl hf hS (fun w H => rq_loadB hf H TF.ls3 0 rfl rfl rfl) fun a hf => ?_
 obtain ⟨y, hy, hF⟩ := bs_ hF
 refine nn 4 rfl (oC hf TF.cl57 (cmp_Compare_int_ok (S := TT) mk_int mk_int hy) fun v w a hp hf => ?_)
 obtain ⟨hb, hp⟩ := hp
 obtain rfl := VR_int hp
 have H := H.keep hb
 have hS := H
 refine aS hS ?_
 obtain ⟨y2, hy2, hF⟩ := bs_ hF
 refine nn 9 rfl (oC hf TF.cl57 (cmp_Compare_int_ok (S := TT) mk_int mk_int hy2) fun v2 w a hp2 hf => ?_)
 obtain ⟨hb2, hp2⟩ := hp2
 obtain rfl := VR_int hp2
 have H := H.keep hb2
 have hS := H
 refine aS hS ?_
 obtain ⟨y3, hy3, hF⟩ := bs_ hF
 refine nn 14 rfl (oC hf TF.cl57 (cmp_Compare_int_ok (S := TT) mk_int mk_int hy3) fun v3 w a hp3 hf => ?_)
 obtain ⟨hb3, hp3⟩ := hp3
 obtain rfl := VR_int hp3
 have H := H.keep hb3
 have hS := H
 refine aS hS ?_
 obtain ⟨y4, hy4, hF⟩ := bs_ hF
 refine nn 19 rfl (oC hf TF.cl57 (cmp_Compare_int_ok (S := TT) mk_int mk_int hy4) fun v4 w a hp4 hf => ?_)
 obtain ⟨hb4, hp4⟩ := hp4
 obtain rfl := VR_int hp4
 have H := H.keep hb4
 have hS := H
 refine aS hS ?_
 refine nn 20 rfl (bl hf H 3 ([y, y2, y3, y4] : List Int) [(.int .i64 y), (.int .i64 y2), (.int .i64 y3), (.int .i64 y4)] (elI [y, y2, y3, y4]) fun A a w hf H => ?_)
 have hS := H.lt_ [true, true] [false] [] []
 refine aS hS ?_
 obtain ⟨y5, hy5, hF⟩ := bs_ hF
 refine nn 21 rfl (oC hf TF.cl56 (cmp_Or_int_ok (S := TT) (mk_list (H.rowTrue 0 rfl)) hy5) fun v5 w a hp5 hf => ?_)
 obtain ⟨hb5, hp5⟩ := hp5
 obtain rfl := VR_int hp5
 have H := H.keep hb5
 have hS := H.lt_ [true, true] [false] [] []
 refine aS hS ?_
 refine zp 22 hf hS fun a hf => ?_
 refine dk ?_
 have hf := hf.pn [4]
 refine then_n (wp_ret (?_))
 obtain rfl := oi hF
 refine rT hf ?_
 exact ⟨_, rfl, H.bel, mk_int⟩
end AT
