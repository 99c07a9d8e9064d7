/- The greedy assignment, as both tell it. -/
import Derived.Test.YtmokfdffnijbbaaQExS
import Derived.Test.YtmokfdffnijbbaaOk
import Derived.Test.YtmokfdffnijbbaaAtL
import Derived.Test.YtmokfdffnijbbaaF
set_option linter.unusedSimpArgs false
set_option linter.unusedVariables false
namespace AT
structure GI (l : List Request) (bl : List Block) (dn : List Bool) : Prop where
  lb : bl.length = l.length
  ld : dn.length = l.length
  on_ : ∀ k, k < l.length → gd dn k false = true → blkOk (gd bl k b0) = true ∧ (gd bl k b0).Count = (gd l k r0).Count
  off : ∀ k, k < l.length → gd dn k false = false → gd bl k b0 = b0
  ap : ∀ i k, i < l.length → k < l.length → i ≠ k → gd dn i false = true → gd dn k false = true → cf (gd l i r0) (gd l k r0) = true → apart (bits (gd bl i b0)) (bits (gd bl k b0)) = true
theorem GI.ok {l : List Request} {bl : List Block} {dn : List Bool} (h : GI l bl dn) : ∀ b ∈ bl, blkOk b = true ∨ b = b0 := by
  intro b hb
  obtain ⟨k, hk, rfl⟩ := List.mem_iff_getElem.1 hb
  have hk' : k < l.length := by rw [← h.lb]; exact hk
  rw [← gd_in b0 hk]
  cases hd : gd dn k false
  · exact .inr (h.off k hk' hd)
  · exact .inl (h.on_ k hk' hd).1
def freeT (l : List Request) (bl : List Block) (i : Nat) (b : Block) : Bool := !(List.range l.length).any (takenP l bl i (bits b))
def fitF (l : List Request) (bl : List Block) (i : Nat) : Option Nat := firstOf (fun s => if freeT l bl i ⟨(s : Int), (gd l i r0).Count⟩ = true then some s else none) (25 - (gd l i r0).Count).toNat 0
def gre (l : List Request) : List Int → List Block → Option (List Block)
  | [], bl => some bl
  | e :: es, bl => match fitF l bl e.toNat with
    | none => none
    | some s => gre l es (bl.set e.toNat ⟨(s : Int), (gd l e.toNat r0).Count⟩)
theorem gd_setB {α : Type} {l : List α} {i j : Nat} {x d : α} (hi : i < l.length) : gd (l.set i x) j d = if j = i then x else gd l j d := by
  unfold gd
  by_cases h : j = i
  · subst h; rw [List.getElem?_set_self hi, if_pos rfl]; rfl
  · rw [List.getElem?_set_ne (by omega), if_neg h]
theorem fitF_some {l : List Request} {bl : List Block} {i s : Nat} (h : fitF l bl i = some s) : (s : Int) + (gd l i r0).Count ≤ 24 ∧ freeT l bl i ⟨(s : Int), (gd l i r0).Count⟩ = true := by
  obtain ⟨t, t1, t2, t3⟩ := firstOf_some h
  split at t3
  · rename_i hf
    injection t3 with t3
    subst t3
    exact ⟨by omega, hf⟩
  · cases t3
theorem GI.set {l : List Request} (hl : ReqF l) {bl : List Block} {dn : List Bool} (h : GI l bl dn) {i s : Nat} (hi : i < l.length) (hd : gd dn i false = false) (hs : fitF l bl i = some s) : GI l (bl.set i ⟨(s : Int), (gd l i r0).Count⟩) (dn.set i true) := by
  obtain ⟨f1, f2⟩ := fitF_some hs
  have hr := hl.at_ hi
  have hib : i < bl.length := by rw [h.lb]; exact hi
  have hid : i < dn.length := by rw [h.ld]; exact hi
  have hb : blkOk ⟨(s : Int), (gd l i r0).Count⟩ = true := by
    unfold blkOk
    simp only [Bool.and_eq_true, decide_eq_true_eq]
    omega
  have hfree : ∀ k, k < l.length → k ≠ i → gd dn k false = true → cf (gd l i r0) (gd l k r0) = true → apart (bits ⟨(s : Int), (gd l i r0).Count⟩) (bits (gd bl k b0)) = true := by
    intro k hk hki hdk hc
    unfold freeT at f2
    rw [Bool.not_eq_true', List.any_eq_false] at f2
    have := f2 k (List.mem_range.2 hk)
    have hbk := (h.on_ k hk hdk).1
    have hcnt : (gd bl k b0).Count > 0 := by
      unfold blkOk at hbk; simp only [Bool.and_eq_true, decide_eq_true_eq] at hbk; omega
    have hne : (k != i) = true := by rw [bne_iff_ne]; exact hki
    unfold takenP at this
    rw [hne, decide_eq_true hcnt, cf_comm, hc, Bool.true_and, Bool.true_and, Bool.true_and, Bool.not_eq_true, Bool.not_eq_false'] at this
    rw [apart_comm]; exact this
  refine ⟨by rw [List.length_set]; exact h.lb, by rw [List.length_set]; exact h.ld, fun k hk hdk => ?_, fun k hk hdk => ?_, fun a k ha hk hak hda hdk hc => ?_⟩
  · rw [gd_setB hib]
    by_cases hki : k = i
    · subst hki
      rw [if_pos rfl]
      exact ⟨hb, rfl⟩
    · rw [if_neg hki]
      rw [gd_setB hid, if_neg hki] at hdk
      exact h.on_ k hk hdk
  · rw [gd_setB hid] at hdk
    by_cases hki : k = i
    · rw [if_pos hki] at hdk; cases hdk
    · rw [if_neg hki] at hdk
      rw [gd_setB hib, if_neg hki]
      exact h.off k hk hdk
  · rw [gd_setB hid] at hda hdk
    rw [gd_setB hib, gd_setB hib]
    by_cases e1 : a = i
    · subst e1
      have e2 : k ≠ a := fun e => hak e.symm
      rw [if_pos rfl, if_neg e2]
      rw [if_neg e2] at hdk
      exact hfree k hk e2 hdk hc
    · rw [if_neg e1] at hda ⊢
      by_cases e2 : k = i
      · subst e2
        rw [if_pos rfl, apart_comm]
        exact hfree a ha e1 hda (by rw [cf_comm]; exact hc)
      · rw [if_neg e2] at hdk ⊢
        exact h.ap a k ha hk hak hda hdk hc
theorem firstIn_head (C : Int) : ∀ (L : List Int), (∀ x ∈ L, x + C ≤ 24) → firstIn (fun x => some x) 24 C L = L.head?
  | [], _ => rfl
  | x :: L, h => by rw [firstIn, if_pos (h x (by simp))]; rfl
theorem firstOf_mapI {g : Nat → Option Nat} : ∀ (c s : Nat), firstOf (fun s => (g s).map fun t : Nat => (t : Int)) c s = (firstOf g c s).map fun t : Nat => (t : Int)
  | 0, s => by rw [firstOf, firstOf]; rfl
  | c + 1, s => by
    rw [firstOf, firstOf, firstOf_mapI c (s + 1)]
    cases g s <;> rfl
theorem fits_head {m : Int} {l : List Request} (hl : ReqF l) {bl : List Block} {i : Nat} (hi : i < l.length) (hm : ∀ s : Nat, (s : Int) + (gd l i r0).Count ≤ 24 → apart m (bits ⟨(s : Int), (gd l i r0).Count⟩) = freeT l bl i ⟨(s : Int), (gd l i r0).Count⟩) :
    (fits m (gd l i r0).Count).head? = (fitF l bl i).map fun s : Nat => (s : Int) := by
  have hr := hl.at_ hi
  have h1 := firstIn_head (gd l i r0).Count (fits m (gd l i r0).Count) fun x hx => ((fits_mem hr.2.2.1 hr.2.2.2).1 hx).2.1
  rw [← h1]
  have h2 := firstIn_fits (fun x : Int => some x) (fun t => apart m (bits ⟨(t : Int), (gd l i r0).Count⟩)) 24 (gd l i r0).Count (by omega) hr.2.2.1 hr.2.2.2 (25 - (gd l i r0).Count.toNat) 0 (by omega)
  have hf : fits m (gd l i r0).Count = ((List.range' 0 (25 - (gd l i r0).Count.toNat)).filter fun t : Nat => apart m (bits ⟨(t : Int), (gd l i r0).Count⟩)).map fun t : Nat => (t : Int) := rfl
  rw [← hf, Nat.sub_zero] at h2
  rw [h2]
  unfold fitF
  rw [← firstOf_mapI]
  refine firstOf_same _ _ fun t _ ht => ?_
  have := hm t (by omega)
  show (if apart m (bits ⟨(t : Int), (gd l i r0).Count⟩) = true then some (t : Int) else none) = _
  rw [this]
  cases freeT l bl i ⟨(t : Int), (gd l i r0).Count⟩
  · rw [if_neg Bool.false_ne_true, if_neg Bool.false_ne_true]; rfl
  · rw [if_pos rfl, if_pos rfl]; rfl
theorem spec_fit {fu : Nat} (hfu : 2097153 ≤ fu) {l : List Request} (hl : ReqF l) {bl : List Block} {dn : List Bool} (h : GI l bl dn) {i : Nat} (hi : i < l.length) : ∃ m, spec_l12Taken fu l bl i = some m ∧ ∃ L, spec_l8Fits fu m (gd l i r0).Count = some L ∧ L.head? = (fitF l bl i).map fun s : Nat => (s : Int) := by
  have hr := hl.at_ hi
  obtain ⟨m, m1, m2, m3⟩ := taken_ok hfu hl h.lb h.ok hi
  refine ⟨m, m1, _, l8Fits_eq hfu m _ hr.2.2.1 hr.2.2.2, fits_head hl hi fun s hs => ?_⟩
  have hb : blkOk ⟨(s : Int), (gd l i r0).Count⟩ = true := by
    unfold blkOk
    simp only [Bool.and_eq_true, decide_eq_true_eq]
    omega
  rw [m3 _ (bits_mk hb)]
  rfl
theorem specGre_loop {fu : Nat} (hfu : 2097153 ≤ fu) {l : List Request} (hl : ReqF l) (order : List Int) (ho : order.length ≤ 2097152) (hin : ∀ e ∈ order, 0 ≤ e ∧ e < (l.length : Int)) (hnd : order.Nodup) : ∀ (fk m : Nat) (bl : List Block) (dn : List Bool), m ≤ order.length → order.length - m < fk → GI l bl dn → (∀ e ∈ order.drop m, gd dn e.toNat false = false) →
    ∃ z, spec_l12Greedy_L1 fu l order fk bl m = some (match gre l (order.drop m) bl with | none => .ret ([], 0, false) | some bl' => .next (bl', z)) := by
  intro fk
  induction fk with
  | zero => intro m _ _ _ h; omega
  | succ fk ih =>
    intro m bl dn hm hk hG hdn
    rw [spec_l12Greedy_L1]
    by_cases h : m < order.length
    · have hmem := hin _ (List.getElem_mem h)
      obtain ⟨e, he⟩ : ∃ e, e = order[m] := ⟨_, rfl⟩
      have hdr : order.drop m = e :: order.drop (m + 1) := by rw [he, List.getElem_cons_drop]
      rw [← he] at hmem
      have hei : e.toNat < l.length := by omega
      have hee : (e.toNat : Int) = e := Int.toNat_of_nonneg hmem.1
      obtain ⟨t, t1, L, t2, t3⟩ := spec_fit hfu hl hG hei
      have hidx : idx l e = some (gd l e.toNat r0) := by rw [← hee]; exact idx_gd r0 hei
      have hidb : idx bl e = some (gd bl e.toNat b0) := by rw [← hee]; exact idx_gd b0 (by rw [hG.lb]; exact hei)
      rw [hee] at t1
      rw [if_pos (show decide ((m : Int) < (order.length : Int)) = true by simpa using h), idx_in h, ← he, Option.bind_some, hidx, Option.bind_some, t1, Option.bind_some, t2, Option.bind_some, hdr, gre, w64_inc h (by omega)]
      cases hf : fitF l bl e.toNat with
      | none =>
        rw [hf] at t3
        have hL : L = [] := List.head?_eq_none_iff.1 t3
        subst hL
        exact ⟨0, rfl⟩
      | some s =>
        rw [hf] at t3
        obtain ⟨L', rfl⟩ : ∃ L', L = (s : Int) :: L' := by
          cases L with
          | nil => cases t3
          | cons x L' => simp only [List.head?_cons, Option.map_some, Option.some.injEq] at t3; exact ⟨L', by rw [t3]⟩
        have hne : ¬ ((((s : Int) :: L').length : Int) == 0) = true := by rw [beq_iff_eq, List.length_cons]; omega
        have hx0 : idx ((s : Int) :: L') 0 = some (s : Int) := rfl
        rw [if_neg hne, hx0, Option.bind_some, Option.bind_some, hidb, Option.bind_some]
        have hnm : e ∉ order.drop (m + 1) := by
          have := hnd.sublist (List.drop_sublist m order)
          rw [hdr] at this
          exact (List.nodup_cons.1 this).1
        exact ih (m + 1) _ (dn.set e.toNat true) h (by omega) (hG.set hl hei (hdn e (by rw [hdr]; simp)) hf) fun x hx => by
          have hxr := hin x (List.mem_of_mem_drop hx)
          have hxe : x.toNat ≠ e.toNat := fun hq => hnm (by
            have : x = e := by omega
            rw [← this]; exact hx)
          rw [gd_setB (by rw [hG.ld]; exact hei), if_neg hxe]
          exact hdn x (by rw [hdr]; simp [hx])
    · obtain rfl : m = order.length := by omega
      rw [if_neg (by simp), List.drop_length, gre]
      exact ⟨_, rfl⟩
theorem isFreeG_eq {fu : Nat} (hfu : 2097153 ≤ fu) {l : List Request} (hl : ReqF l) {bl : List Block} {dn : List Bool} (h : GI l bl dn) {i : Nat} (hi : i < l.length) {b : Block} (hb : blkOk b = true) :
    impl_isFree_of_greedy_c1 fu l bl (i : Int) b dn = some (freeT l bl i b) := by
  have h7 := hl.len
  unfold impl_isFree_of_greedy_c1 freeT
  have := scan_any (l := l) (G := impl_isFree_of_greedy_c1_L1 fu l bl (i : Int) b dn) (takenP l bl i (bits b)) false (by omega)
    (fun fk k hk _ => by
      have hkd : k < dn.length := by rw [h.ld]; exact hk
      have hkb : k < bl.length := by rw [h.lb]; exact hk
      cases hd : gd dn k false
      · have hz := h.off k hk hd
        have hv : takenP l bl i (bits b) k = false := by
          unfold takenP
          rw [hz]
          have : decide (b0.Count > 0) = false := by decide
          rw [this, Bool.false_and, Bool.and_false, Bool.false_and]
        rw [hv, impl_isFree_of_greedy_c1_L1, if_pos (by simpa using hk), impl_greedy_c1, idx_gd false hkd, hd, Option.bind_some, Option.bind_some, if_neg Bool.false_ne_true]
        by_cases h1 : ((k : Int) != (i : Int)) = true
        · rw [if_pos h1, Option.bind_some]
        · rw [if_neg h1, Option.bind_some]
      · obtain ⟨hbk, hcnt⟩ := h.on_ k hk hd
        have hpos : (gd bl k b0).Count > 0 := by
          unfold blkOk at hbk; simp only [Bool.and_eq_true, decide_eq_true_eq] at hbk; omega
        have hki : ((k : Int) != (i : Int)) = (k != i) := by
          rw [Bool.eq_iff_iff, bne_iff_ne, bne_iff_ne]; omega
        have hv : takenP l bl i (bits b) k = ((k != i) && (cf (gd l i r0) (gd l k r0) && !apart (bits b) (bits (gd bl k b0)))) := by
          unfold takenP
          rw [decide_eq_true hpos, Bool.true_and, cf_comm, apart_comm, Bool.and_assoc]
        rw [hv, impl_isFree_of_greedy_c1_L1, if_pos (by simpa using hk), impl_greedy_c1, idx_gd false hkd, hd, Option.bind_some, Option.bind_some, if_pos rfl, idx_gd r0 hi, Option.bind_some, idx_gd r0 hk, Option.bind_some, implCf_eq hfu hl hi hk, Option.bind_some, idx_gd b0 hkb, Option.bind_some, maskOf_eq hb, Option.bind_some, maskOf_eq hbk, Option.bind_some, band_ne, hki]
        generalize cf (gd l i r0) (gd l k r0) = q
        generalize apart (bits b) (bits (gd bl k b0)) = q2
        cases (k != i)
        · rw [if_neg Bool.false_ne_true, Option.bind_some, Bool.false_and]
        · rw [if_pos rfl, Bool.true_and]
          cases q
          · rw [if_neg Bool.false_ne_true, Option.bind_some, Bool.false_and]
          · rw [if_pos rfl, Option.bind_some, Bool.true_and])
    (fun fk => by rw [impl_isFree_of_greedy_c1_L1, if_neg (by simp)]) fu (by omega)
  rw [this]
  cases (List.range l.length).any (takenP l bl i (bits b)) <;> rfl
theorem greIn_loop {fu : Nat} (hfu : 2097153 ≤ fu) {l : List Request} (hl : ReqF l) {bl : List Block} {dn : List Bool} (h : GI l bl dn) {i : Nat} (hi : i < l.length) (hd : gd dn i false = false) : ∀ (fk c s : Nat), c + 1 < fk → s + c = (25 - (gd l i r0).Count).toNat →
    ∃ z, impl_greedy_L2 fu l (i : Int) fk bl (s : Int) dn = some (match firstOf (fun s => if freeT l bl i ⟨(s : Int), (gd l i r0).Count⟩ = true then some s else none) c s with | none => .ret ([], false) | some t => .next (bl.set i ⟨(t : Int), (gd l i r0).Count⟩, z, dn.set i true)) := by
  have hr := hl.at_ hi
  have hid : i < dn.length := by rw [h.ld]; exact hi
  have hib : i < bl.length := by rw [h.lb]; exact hi
  intro fk
  induction fk with
  | zero => intro c s hk; omega
  | succ fk ih =>
    intro c s hk hs
    have hw : w64 ((s : Int) + 1) = ((s + 1 : Nat) : Int) := by rw [w64_in (by omega) (by omega)]; rfl
    rw [impl_greedy_L2, idx_gd false hid, hd, Option.bind_some, Bool.not_false, if_pos rfl, idx_gd r0 hi, Option.bind_some, implBlk_eq, Option.bind_some]
    cases c with
    | zero =>
      have hb : blkOk ⟨(s : Int), (gd l i r0).Count⟩ = false := by
        rw [Bool.eq_false_iff]
        intro hq
        unfold blkOk at hq
        simp only [Bool.and_eq_true, decide_eq_true_eq] at hq
        omega
      rw [hb, Bool.not_false, if_pos rfl, firstOf]
      exact ⟨0, rfl⟩
    | succ c =>
      have hb : blkOk ⟨(s : Int), (gd l i r0).Count⟩ = true := by
        unfold blkOk
        simp only [Bool.and_eq_true, decide_eq_true_eq]
        omega
      rw [hb, Bool.not_true, if_neg Bool.false_ne_true, isFreeG_eq hfu hl h hi hb, Option.bind_some, firstOf, hw]
      cases hf : freeT l bl i ⟨(s : Int), (gd l i r0).Count⟩
      · rw [if_neg Bool.false_ne_true]
        obtain ⟨z, hz⟩ := ih c (s + 1) (by omega) (by omega)
        exact ⟨z, hz⟩
      · rw [if_pos rfl, idx_gd b0 hib, Option.bind_some, Option.bind_some, Int.toNat_natCast]
        obtain ⟨fk, rfl⟩ : ∃ g, fk = g + 1 := ⟨fk - 1, by omega⟩
        have hid2 : idx (dn.set i true) (i : Int) = some true := idx_set hid
        rw [impl_greedy_L2, hid2, Option.bind_some, Bool.not_true, if_neg Bool.false_ne_true]
        exact ⟨_, rfl⟩
theorem implGre_loop {fu : Nat} (hfu : 2097153 ≤ fu) {l : List Request} (hl : ReqF l) (order : List Int) (ho : order.length ≤ 2097152) (hin : ∀ e ∈ order, 0 ≤ e ∧ e < (l.length : Int)) (hnd : order.Nodup) : ∀ (fk m : Nat) (bl : List Block) (dn : List Bool), m ≤ order.length → order.length - m < fk → GI l bl dn → (∀ e ∈ order.drop m, gd dn e.toNat false = false) →
    match gre l (order.drop m) bl with
    | none => impl_greedy_L1 fu l order fk bl m dn = some (.ret ([], false))
    | some bl' => ∃ z dn', impl_greedy_L1 fu l order fk bl m dn = some (.next (bl', z, dn')) ∧ GI l bl' dn' ∧ (∀ k, k < l.length → gd dn k false = true ∨ ((k : Nat) : Int) ∈ order.drop m → gd dn' k false = true) := by
  intro fk
  induction fk with
  | zero => intro m _ _ _ h; omega
  | succ fk ih =>
    intro m bl dn hm hk hG hdn
    rw [impl_greedy_L1]
    by_cases h : m < order.length
    · have hmem := hin _ (List.getElem_mem h)
      obtain ⟨e, he⟩ : ∃ e, e = order[m] := ⟨_, rfl⟩
      have hdr : order.drop m = e :: order.drop (m + 1) := by rw [he, List.getElem_cons_drop]
      rw [← he] at hmem
      have hei : e.toNat < l.length := by omega
      have hee : (e.toNat : Int) = e := Int.toNat_of_nonneg hmem.1
      have hde := hdn e (by rw [hdr]; simp)
      obtain ⟨z, hz⟩ := greIn_loop hfu hl hG hei hde fu (25 - (gd l e.toNat r0).Count).toNat 0 (by have := hl.at_ hei; omega) (by omega)
      rw [hee, show ((0 : Nat) : Int) = 0 from rfl] at hz
      have hfe : firstOf (fun s => if freeT l bl e.toNat ⟨(s : Int), (gd l e.toNat r0).Count⟩ = true then some s else none) (25 - (gd l e.toNat r0).Count).toNat 0 = fitF l bl e.toNat := rfl
      rw [hfe] at hz
      rw [if_pos (show decide ((m : Int) < (order.length : Int)) = true by simpa using h), idx_in h, ← he, Option.bind_some, hz, Option.bind_some, hdr, gre, w64_inc h (by omega)]
      cases hf : fitF l bl e.toNat with
      | none => rfl
      | some s =>
        have hnm : e ∉ order.drop (m + 1) := by
          have := hnd.sublist (List.drop_sublist m order)
          rw [hdr] at this
          exact (List.nodup_cons.1 this).1
        have hn := ih (m + 1) _ (dn.set e.toNat true) h (by omega) (hG.set hl hei hde hf) fun x hx => by
          have hxr := hin x (List.mem_of_mem_drop hx)
          have hxe : x.toNat ≠ e.toNat := fun hq => hnm (by
            have : x = e := by omega
            rw [← this]; exact hx)
          rw [gd_setB (by rw [hG.ld]; exact hei), if_neg hxe]
          exact hdn x (by rw [hdr]; simp [hx])
        simp only [Out.on]
        revert hn
        cases gre l (order.drop (m + 1)) (bl.set e.toNat ⟨(s : Int), (gd l e.toNat r0).Count⟩) with
        | none => intro hn; exact hn
        | some bl' =>
          rintro ⟨z, dn', n1, n2, n3⟩
          refine ⟨z, dn', n1, n2, fun k hk hor => n3 k hk ?_⟩
          rw [gd_setB (by rw [hG.ld]; exact hei)]
          by_cases hke : k = e.toNat
          · left; rw [if_pos hke]
          · rw [if_neg hke]
            rcases hor with h1 | h1
            · exact .inl h1
            · rcases List.mem_cons.1 h1 with h1 | h1
              · exfalso; exact hke (by omega)
              · exact .inr h1
    · obtain rfl : m = order.length := by omega
      rw [if_neg (by simp), List.drop_length, gre]
      exact ⟨_, dn, rfl, hG, fun k hk hor => by
        rcases hor with h1 | h1
        · exact h1
        · cases h1⟩
theorem GI.zero (l : List Request) : GI l (zeros l.length) (List.replicate l.length false) := by
  have hz : ∀ k, gd (zeros l.length) k b0 = b0 := by
    intro k
    unfold gd zeros
    rw [List.getElem?_replicate]
    split <;> rfl
  have hd : ∀ k, gd (List.replicate l.length false) k false = false := by
    intro k
    unfold gd
    rw [List.getElem?_replicate]
    split <;> rfl
  refine ⟨by simp [zeros], by simp, fun k _ h => ?_, fun k _ _ => hz k, fun i k _ _ _ h => ?_⟩
  · rw [hd] at h; cases h
  · rw [hd] at h; cases h
theorem most_eq (fu : Nat) (a b : Int) : spec_l1Most fu a b = some (gmax a b) := by
  unfold spec_l1Most gmax
  by_cases c1 : a > b
  · have c2 : ¬ b > a := by omega
    simp [c1, c2]
  · by_cases c2 : b > a
    · simp [c1, c2]
    · have : a = b := by omega
      simp [this]
theorem hgt_loops {fu : Nat} (bl : List Block) (hn : bl.length ≤ 2097152) (hb : ∀ b ∈ bl, blkOk b = true ∨ b = b0) : ∀ (fk i : Nat) (m : Int), i ≤ bl.length → bl.length - i < fk →
    impl_heightOf_L1 fu bl fk m i = some ((bl.drop i).foldl (fun m b => gmax m (b.First + b.Count)) m, (bl.length : Int)) ∧ spec_l12Height_L1 fu bl fk m i = some ((bl.drop i).foldl (fun m b => gmax m (b.First + b.Count)) m, (bl.length : Int)) := by
  intro fk
  induction fk with
  | zero => intro i _ _ h; omega
  | succ fk ih =>
    intro i m hi hk
    rw [impl_heightOf_L1, spec_l12Height_L1]
    by_cases h : i < bl.length
    · have hbi : 0 ≤ bl[i].First + bl[i].Count ∧ bl[i].First + bl[i].Count ≤ 24 := by
        rcases hb _ (List.getElem_mem h) with hq | hq
        · unfold blkOk at hq
          simp only [Bool.and_eq_true, decide_eq_true_eq] at hq
          omega
        · rw [hq]; exact ⟨by decide, by decide⟩
      have hw : w64 (bl[i].First + bl[i].Count) = bl[i].First + bl[i].Count := w64_in (by omega) (by omega)
      rw [if_pos (by simpa using h), if_pos (by simpa using h), idx_in h, Option.bind_some, Option.bind_some, Option.bind_some, hw, most_eq, Option.bind_some, w64_inc h (by omega), ← List.getElem_cons_drop h, List.foldl_cons]
      exact ih (i + 1) _ h (by omega)
    · obtain rfl : i = bl.length := by omega
      rw [if_neg (by simp), if_neg (by simp), List.drop_length]
      exact ⟨rfl, rfl⟩
theorem heightOf_eq {fu : Nat} (hfu : 2097153 ≤ fu) (bl : List Block) (hn : bl.length ≤ 2097152) (hb : ∀ b ∈ bl, blkOk b = true ∨ b = b0) : impl_heightOf fu bl = some (hgt bl) ∧ spec_l12Height fu bl = some (hgt bl) := by
  obtain ⟨h1, h2⟩ := hgt_loops (fu := fu) bl hn hb fu 0 0 (by omega) (by omega)
  rw [show ((0 : Nat) : Int) = 0 from rfl, List.drop_zero] at h1 h2
  unfold impl_heightOf spec_l12Height
  rw [h1, h2]
  exact ⟨rfl, rfl⟩
end AT

namespace AT
end AT

namespace AT
theorem gd_setS {l : List Int} {i j : Nat} {x : Int} (hi : i < l.length) : gd (l.set i x) j 0 = if j = i then x else gd l j 0 := by
  unfold gd
  by_cases h : j = i
  · subst h; rw [List.getElem?_set_self hi, if_pos rfl]; rfl
  · rw [List.getElem?_set_ne (by omega), if_neg h]
def Ins (l : List Int) (j i : Nat) : Prop := (∀ a b, a < b → b ≤ i → a ≠ j → b ≠ j → gd l a 0 ≤ gd l b 0) ∧ ∀ b, j < b → b ≤ i → gd l j 0 ≤ gd l b 0
def Srt (l : List Int) (i : Nat) : Prop := ∀ a b, a < b → b ≤ i → gd l a 0 ≤ gd l b 0
theorem Ins.swap {l : List Int} {j i : Nat} (h : Ins l j i) (h0 : 0 < j) (hj : j < l.length) (hji : j ≤ i) (hlt : gd l j 0 < gd l (j - 1) 0) : Ins ((l.set j (gd l (j - 1) 0)).set (j - 1) (gd l j 0)) (j - 1) i := by
  have e : ∀ k, gd ((l.set j (gd l (j - 1) 0)).set (j - 1) (gd l j 0)) k 0 = if k = j - 1 then gd l j 0 else if k = j then gd l (j - 1) 0 else gd l k 0 := by
    intro k
    rw [gd_setS (by rw [List.length_set]; omega), gd_setS hj]
  refine ⟨fun a b hab hb ha hb' => ?_, fun b hb hbi => ?_⟩
  · rw [e, e, if_neg ha, if_neg hb']
    by_cases h1 : a = j
    · rw [if_pos h1, if_neg (show ¬ b = j by omega)]
      exact h.1 (j - 1) b (by omega) hb (by omega) (by omega)
    · rw [if_neg h1]
      by_cases h2 : b = j
      · rw [if_pos h2]
        exact h.1 a (j - 1) (by omega) (by omega) h1 (by omega)
      · rw [if_neg h2]
        exact h.1 a b hab hb h1 h2
  · rw [e, e, if_pos rfl, if_neg (show ¬ b = j - 1 by omega)]
    by_cases h2 : b = j
    · rw [if_pos h2]; omega
    · rw [if_neg h2]; exact h.2 b (by omega) hbi
theorem Ins.done {l : List Int} {j i : Nat} (h : Ins l j i) (hs : j = 0 ∨ gd l (j - 1) 0 ≤ gd l j 0) : Srt l i := by
  intro a b hab hb
  by_cases h1 : a = j
  · rw [h1]; exact h.2 b (by omega) hb
  · by_cases h2 : b = j
    · rw [h2]
      have hs' : gd l (j - 1) 0 ≤ gd l j 0 := by
        rcases hs with h | h
        · omega
        · exact h
      by_cases h3 : a = j - 1
      · rw [h3]; exact hs'
      · have := h.1 a (j - 1) (by omega) (by omega) h1 (by omega)
        omega
    · exact h.1 a b hab hb h1 h2
theorem insS_loop {fu : Nat} (i : Nat) : ∀ (fk j : Nat) (l : List Int), j < fk → j ≤ i → i < l.length → l.length ≤ 2097152 → Ins l j i → ∃ l' j', slices_insertionSortOrdered_int_L2 fu 0 fk l j = some (l', j') ∧ l'.Perm l ∧ Srt l' i := by
  intro fk
  induction fk with
  | zero => intro j _ h; omega
  | succ fk ih =>
    intro j l hk hji hi hl hI
    have hj : j < l.length := by omega
    rw [slices_insertionSortOrdered_int_L2]
    by_cases h0 : 0 < j
    · have h0' : (j : Int) > 0 := by omega
      have hj1 : j - 1 < l.length := by omega
      simp only [h0', decide_true, if_true, idx_gd 0 hj, w64_dec h0 (show j ≤ 2097152 by omega), idx_gd 0 hj1, Option.bind_some, less_eq]
      by_cases hc : gd l j 0 < gd l (j - 1) 0
      · have hj2 : j - 1 < (l.set j (gd l (j - 1) 0)).length := by rw [List.length_set]; exact hj1
        simp only [hc, decide_true, if_true, Int.toNat_natCast, idx_gd 0 hj2, Option.bind_some]
        obtain ⟨l', j', h1, h2, h3⟩ := ih (j - 1) ((l.set j (gd l (j - 1) 0)).set (j - 1) (gd l j 0)) (by omega) (by omega) (by simp; omega) (by simpa using hl) (hI.swap h0 hj hji hc)
        refine ⟨l', j', h1, h2.trans ?_, h3⟩
        rw [gd_in 0 hj, gd_in 0 hj1]
        exact List.set_set_perm hj hj1
      · simp only [hc, decide_false, Bool.false_eq_true, if_false]
        exact ⟨_, _, rfl, .refl _, hI.done (.inr (by omega))⟩
    · have h0' : ¬ (j : Int) > 0 := by omega
      simp only [h0', decide_false, Bool.false_eq_true, if_false, Option.bind_some]
      exact ⟨_, _, rfl, .refl _, hI.done (.inl (by omega))⟩
theorem insS_all {fu : Nat} (n : Nat) (hn : n ≤ 2097152) (hfu : n < fu) : ∀ (fk i : Nat) (l : List Int), n - i < fk → 1 ≤ i → i ≤ n ∨ n = 0 → l.length = n → Srt l (i - 1) → ∃ l' i', slices_insertionSortOrdered_int_L1 fu 0 n fk l i = some (l', i') ∧ l'.Perm l ∧ Srt l' (n - 1) := by
  intro fk
  induction fk with
  | zero => intro i _ h; omega
  | succ fk ih =>
    intro i l hk hi hin hl hS
    rw [slices_insertionSortOrdered_int_L1]
    by_cases h : i < n
    · have h' : (i : Int) < (n : Int) := by omega
      obtain ⟨l', j', h1, h2, h3⟩ := insS_loop (fu := fu) i fu i l (by omega) (Nat.le_refl _) (by omega) (by omega) ⟨fun a b hab hb ha hb' => hS a b hab (by omega), fun b h1 h2 => by omega⟩
      obtain ⟨l2, i2, h4, h5, h6⟩ := ih (i + 1) l' (by omega) (by omega) (by omega) (by rw [h2.length_eq]; exact hl) (by simpa using h3)
      simp only [h', decide_true, if_true, h1, Option.bind_some, w64_inc h (show (n : Int) ≤ 9223372036854775807 by omega)]
      exact ⟨l2, i2, h4, h5.trans h2, h6⟩
    · have h' : ¬ (i : Int) < (n : Int) := by omega
      simp only [h', decide_false, Bool.false_eq_true, if_false]
      refine ⟨_, _, rfl, .refl _, fun a b hab hb => ?_⟩
      exact hS a b hab (by omega)
theorem sort_srt {fu : Nat} (hfu : 2097153 ≤ fu) (l : List Int) (h : l.length ≤ 12) : ∃ l', slices_Sort_int_int fu l = some l' ∧ l'.Perm l ∧ Srt l' (l.length - 1) := by
  unfold slices_Sort_int_int slices_pdqsortOrdered_int
  obtain ⟨k, hk⟩ := len8 (fu := fu) (x := (⟨wu64 (l.length : Int)⟩ : U64)) (by simp only [wu64]; omega) (by simp only [wu64]; omega)
  obtain ⟨fk, rfl⟩ := Nat.exists_eq_succ_of_ne_zero (show fu ≠ 0 by omega)
  obtain ⟨l', i', h1, h2, h3⟩ := insS_all (fu := fk.succ) l.length (by omega) (by omega) fk.succ 1 l (by omega) (by omega) (by omega) rfl (fun a b hab hb => by omega)
  rw [hk, Option.bind_some, slices_pdqsortOrdered_int_L1]
  have hd : decide (w64 ((l.length : Int) - 0) ≤ 12) = true := by rw [w64_in (by omega) (by omega)]; simp; omega
  have h01 : w64 (0 + 1) = ((1 : Nat) : Int) := by decide
  simp only [hd, if_true, slices_insertionSortOrdered_int, h01, h1, Option.bind_some]
  exact ⟨_, rfl, h2, h3⟩
end AT

namespace AT
theorem cloneI_eq {fu : Nat} (l : List Int) (h : l.length ≤ 2097152) : slices_Clone_int_int fu l = some l := by
  have hc : app ([] : List Int) l = some l := by unfold app; rw [if_pos (by simp; omega)]; rfl
  unfold slices_Clone_int_int
  rw [hc]
  unfold nilCase
  cases l <;> simp
def sBad (l : List Int) (hi : Int) (i : Nat) : Bool := !(decide (0 ≤ gd l i 0) && decide (gd l i 0 ≤ hi)) || (decide (0 < i) && decide (gd l (i - 1) 0 ≥ gd l i 0))
theorem isSetG_eq {fu : Nat} (l : List Int) (n : Int) (h : l.length < fu) (hn : l.length ≤ 2097152) : impl_isSet fu l n = some (!((List.range l.length).any (sBad l (w64 (n - 1))))) := by
  unfold impl_isSet
  rw [scan_all (l := List.range l.length) (G := impl_isSet_L1 fu l n) (sBad l (w64 (n - 1))) (fun i => false) (by simp; omega)
    (fun fk i hk => by
      have hi' : i < l.length := by simpa using hk
      rw [impl_isSet_L1, if_pos (by simpa using hi'), idx_gd 0 hi', List.getElem_range]
      obtain ⟨b1, h1⟩ : ∃ b, b = (decide (0 ≤ gd l i 0) && decide (gd l i 0 ≤ w64 (n - 1))) := ⟨_, rfl⟩
      simp only [Option.bind_some, within_eq, sBad, ← h1]
      cases b1
      · rfl
      by_cases h0 : 0 < i
      · rw [w64_dec h0 (by omega), idx_gd 0 (show i - 1 < l.length by omega)]
        simp [h0]
      · simp [h0])
    (fun fk => by rw [List.length_range, impl_isSet_L1, if_neg (by simp)]) fu (by simpa using h)]
  cases (List.range l.length).any (sBad l (w64 (n - 1))) <;> rfl
theorem sBad_iff (l s : List Int) (n : Nat) (hn : n ≤ 1000) (hp : s.Perm l) (hs : Srt s (l.length - 1)) : (List.range s.length).any (sBad s (w64 ((n : Int) - 1))) = false ↔ (∀ e ∈ l, 0 ≤ e ∧ e < (n : Int)) ∧ l.Nodup := by
  have hw : w64 ((n : Int) - 1) = (n : Int) - 1 := w64_in (by omega) (by omega)
  have hlen := hp.length_eq
  rw [hw, List.any_eq_false, ← hp.nodup_iff]
  constructor
  · intro h
    have hrise : ∀ a b, a < b → b < s.length → gd s a 0 < gd s b 0 := by
      intro a b hab hb
      have := h b (List.mem_range.2 hb)
      unfold sBad at this
      have h0 : 0 < b := by omega
      simp only [h0, decide_true, Bool.true_and, Bool.or_eq_true, not_or, decide_eq_true_eq] at this
      have h1 := this.2
      by_cases hab' : a = b - 1
      · rw [hab']; omega
      · have := hs a (b - 1) (by omega) (by omega)
        omega
    refine ⟨fun e he => ?_, ?_⟩
    · obtain ⟨i, hi, rfl⟩ := List.mem_iff_getElem.1 (hp.mem_iff.2 he)
      have := h i (List.mem_range.2 hi)
      unfold sBad at this
      rw [gd_in 0 hi] at this
      simp only [Bool.or_eq_true, not_or, Bool.not_eq_true', Bool.not_eq_false, Bool.and_eq_true, decide_eq_true_eq] at this
      omega
    · rw [List.Nodup, List.pairwise_iff_getElem]
      intro i j hi hj hij he
      have := hrise i j hij hj
      rw [gd_in 0 (show i < s.length by omega), gd_in 0 hj] at this
      omega
  · rintro ⟨h1, h2⟩ i hi
    have hi' := List.mem_range.1 hi
    have h3 := h1 _ (hp.mem_iff.1 (List.getElem_mem hi'))
    unfold sBad
    have h5 : gd s i 0 ≤ (n : Int) - 1 := by rw [gd_in 0 hi']; omega
    have h6 : 0 ≤ gd s i 0 := by rw [gd_in 0 hi']; exact h3.1
    by_cases h0 : 0 < i
    · have h7 := hs (i - 1) i (by omega) (by omega)
      have h8 : ¬ gd s (i - 1) 0 ≥ gd s i 0 := by
        intro hge
        have he : gd s (i - 1) 0 = gd s i 0 := by omega
        rw [gd_in 0 (show i - 1 < s.length by omega), gd_in 0 hi'] at he
        have := (List.getElem_inj h2).1 he
        omega
      simp [h5, h6, h8]
    · simp [h5, h6, h0]
end AT

namespace AT
theorem greedy_gre {fu : Nat} (hfu : 2097153 ≤ fu) {l : List Request} (hl : ReqF l) {order : List Int} (hin : ∀ e ∈ order, 0 ≤ e ∧ e < (l.length : Int)) (hnd : order.Nodup) :
    match gre l order (zeros l.length) with
    | none => impl_greedy fu l order = some ([], false) ∧ spec_l12Greedy fu l order = some ([], 0, false)
    | some bl => impl_greedy fu l order = some (bl, true) ∧ spec_l12Greedy fu l order = some (bl, hgt bl, true) ∧ impl_heightOf fu bl = some (hgt bl) := by
  have h7 := hl.len
  have hol := short_of l.length order hnd hin
  have hmk : mk (({ First := 0, Count := 0 } : Block) : Block) (l.length : Int) = some (zeros l.length) := mk_len (by omega)
  have hmk2 : mk (false : Bool) (l.length : Int) = some (List.replicate l.length false) := mk_len (by omega)
  have hdz : ∀ k, gd (List.replicate l.length false) k false = false := by
    intro k
    unfold gd
    rw [List.getElem?_replicate]
    split <;> rfl
  obtain ⟨z, h1⟩ := specGre_loop hfu hl order (by omega) hin hnd fu 0 (zeros l.length) (List.replicate l.length false) (by omega) (by omega) (GI.zero l) (fun e _ => hdz _)
  have h2 := implGre_loop hfu hl order (by omega) hin hnd fu 0 (zeros l.length) (List.replicate l.length false) (by omega) (by omega) (GI.zero l) (fun e _ => hdz _)
  rw [show ((0 : Nat) : Int) = 0 from rfl, List.drop_zero] at h1 h2
  unfold impl_greedy spec_l12Greedy
  rw [hmk, Option.bind_some, hmk2, Option.bind_some, Option.bind_some]
  revert h1 h2
  cases gre l order (zeros l.length) with
  | none =>
    intro h1 h2
    simp only at h1 h2
    rw [h1, h2]
    exact ⟨rfl, rfl⟩
  | some bl =>
    intro h1 h2
    simp only at h1 h2
    obtain ⟨z2, dn, g1, g2, g3⟩ := h2
    obtain ⟨q1, q2⟩ := heightOf_eq hfu bl (by rw [g2.lb]; omega) g2.ok
    refine ⟨?_, ?_, q1⟩
    · rw [g1]; rfl
    · rw [h1]
      simp only [Option.bind_some, Out.on]
      rw [q2]; rfl
def leafOk (l : List Request) (h : Int) (o : List Int) : Bool := match gre l o (zeros l.length) with | none => false | some bl => hgt bl == h
def ordS (l : List Request) (h : Int) : Nat → List Int → Option (List Int)
  | 0, pre => if leafOk l h pre = true then some pre else none
  | d + 1, pre => firstOf (fun i : Nat => if (pre.any fun x => x == (i : Int)) = true then none else ordS l h d (pre ++ [(i : Int)])) l.length 0
def Pre (l : List Request) (o : List Int) : Prop := (∀ e ∈ o, 0 ≤ e ∧ e < (l.length : Int)) ∧ o.Nodup
theorem Pre.snoc {l : List Request} {o : List Int} (h : Pre l o) {i : Nat} (hi : i < l.length) (hn : (o.any fun x => x == (i : Int)) = false) : Pre l (o ++ [(i : Int)]) := by
  rw [List.any_eq_false] at hn
  refine ⟨fun e he => ?_, ?_⟩
  · rcases List.mem_append.1 he with h1 | h1
    · exact h.1 e h1
    · rw [List.mem_singleton] at h1; omega
  · rw [List.nodup_append]
    refine ⟨h.2, by simp, fun a ha b hb => ?_⟩
    rw [List.mem_singleton] at hb
    subst hb
    intro hab
    exact hn a ha (by rw [beq_iff_eq]; exact hab)
theorem ordS_ok {l : List Request} {h : Int} : ∀ (d : Nat) (pre o : List Int), pre.length + d = l.length → Pre l pre → ordS l h d pre = some o → Pre l o ∧ o.length = l.length ∧ leafOk l h o = true
  | 0, pre, o, hd, hp, he => by
    rw [ordS] at he
    split at he
    · rename_i hl
      injection he with he
      subst he
      exact ⟨hp, by omega, hl⟩
    · cases he
  | d + 1, pre, o, hd, hp, he => by
    rw [ordS] at he
    obtain ⟨t, t1, t2, t3⟩ := firstOf_some he
    split at t3
    · cases t3
    · rename_i hn
      rw [Bool.not_eq_true] at hn
      exact ordS_ok d _ o (by rw [List.length_append, List.length_singleton]; omega) (hp.snoc (by omega) hn) t3
theorem ord_both {l : List Request} (hl : ReqF l) (h : Int) : ∀ (d f : Nat) (pre : List Int), 2097153 + d < f → pre.length + d = l.length → Pre l pre →
    impl_GreedyOrder_c1 f pre l h = some (match ordS l h d pre with | some o => (true, o) | none => (false, pre)) ∧ spec_l12First f l pre h = some (match ordS l h d pre with | some o => (o, true) | none => (pre, false)) := by
  have h7 := hl.len
  intro d
  induction d with
  | zero =>
    intro f pre hf hd hp
    obtain ⟨f, rfl⟩ : ∃ g, f = g + 1 := ⟨f - 1, by omega⟩
    have hlen : ((pre.length : Int) == (l.length : Int)) = true := by rw [beq_iff_eq]; omega
    have hg := greedy_gre (fu := f) (by omega) hl hp.1 hp.2
    rw [impl_GreedyOrder_c1, impl_GreedyOrder_c1_B, spec_l12First, spec_l12First_B, if_pos hlen, if_pos hlen, ordS]
    cases hgre : gre l pre (zeros l.length) with
    | none =>
      rw [hgre] at hg
      obtain ⟨g1, g2⟩ := hg
      have hlf : leafOk l h pre = false := by unfold leafOk; rw [hgre]
      rw [g1, g2, hlf]
      exact ⟨rfl, rfl⟩
    | some bl =>
      rw [hgre] at hg
      obtain ⟨g1, g2, g3⟩ := hg
      have hlf : leafOk l h pre = (hgt bl == h) := by unfold leafOk; rw [hgre]
      rw [g1, g2, Option.bind_some, Option.bind_some, if_pos rfl, if_pos rfl, g3, Option.bind_some, Option.bind_some, hlf]
      dsimp only
      cases hgt bl == h
      · exact ⟨rfl, rfl⟩
      · exact ⟨rfl, rfl⟩
  | succ d ih =>
    intro f pre hf hd hp
    obtain ⟨f, rfl⟩ : ∃ g, f = g + 1 := ⟨f - 1, by omega⟩
    have hlen : ((pre.length : Int) == (l.length : Int)) = false := by rw [beq_eq_false_iff_ne]; omega
    have own : spec_l1Own f pre = some pre := by
      have hc : app ([] : List Int) pre = some pre := by unfold app; rw [if_pos (by simp; omega)]; rfl
      unfold spec_l1Own; rw [hc]; rfl
    rw [impl_GreedyOrder_c1, impl_GreedyOrder_c1_B, spec_l12First, spec_l12First_B, hlen, if_neg Bool.false_ne_true, if_neg Bool.false_ne_true, ordS]
    have key : ∀ (fk c i : Nat), c < fk → i + c = l.length →
        (∃ z, impl_GreedyOrder_c1_L1 f l h (fun cap cap2 cap3 => impl_GreedyOrder_c1 f cap cap2 cap3) fk (i : Int) pre = some (match firstOf (fun i : Nat => if (pre.any fun x => x == (i : Int)) = true then none else ordS l h d (pre ++ [(i : Int)])) c i with | some o => .ret (true, o) | none => .next (z, pre))) ∧
        ∃ z, spec_l12First_L1 f l pre h (fun list order height => spec_l12First f list order height) fk (i : Int) = some (match firstOf (fun i : Nat => if (pre.any fun x => x == (i : Int)) = true then none else ordS l h d (pre ++ [(i : Int)])) c i with | some o => .ret (o, true) | none => .next z) := by
      intro fk
      induction fk with
      | zero => intro c i hk; omega
      | succ fk ih2 =>
        intro c i hk hci
        rw [impl_GreedyOrder_c1_L1, spec_l12First_L1]
        cases c with
        | zero =>
          have hn : ¬ (i : Int) < (l.length : Int) := by omega
          rw [decide_eq_false hn, if_neg Bool.false_ne_true, if_neg Bool.false_ne_true, firstOf]
          exact ⟨⟨_, rfl⟩, ⟨_, rfl⟩⟩
        | succ c =>
          have hn : (i : Int) < (l.length : Int) := by omega
          have hil : i < l.length := by omega
          have hw : w64 ((i : Int) + 1) = ((i + 1 : Nat) : Int) := w64_inc hil (by omega)
          obtain ⟨hz1, hz2⟩ := ih2 c (i + 1) (by omega) (by omega)
          rw [decide_eq_true hn, if_pos rfl, if_pos rfl, containsI_eq pre (i : Int) (by omega) (by omega), l1Has_eq pre (i : Int) (by omega) (by omega), Option.bind_some, Option.bind_some, hw, firstOf]
          clear hw
          cases hany : (pre.any fun x => x == (i : Int))
          · rw [if_neg Bool.false_ne_true, if_neg Bool.false_ne_true, if_neg Bool.false_ne_true, own, Option.bind_some, app_ok (by rw [List.length_singleton]; omega), Option.bind_some, Option.bind_some]
            obtain ⟨r1, r2⟩ := ih f (pre ++ [(i : Int)]) (by omega) (by rw [List.length_append, List.length_singleton]; omega) (hp.snoc hil hany)
            rw [r1, r2, Option.bind_some, Option.bind_some]
            cases ordS l h d (pre ++ [(i : Int)]) with
            | some o => exact ⟨⟨0, rfl⟩, ⟨0, rfl⟩⟩
            | none =>
              have hlen2 : ((((pre ++ [(i : Int)]).length : Nat) : Int) - 1) = (pre.length : Int) := by rw [List.length_append, List.length_singleton]; omega
              have hw2 : w64 ((((pre ++ [(i : Int)]).length : Nat) : Int) - 1) = (pre.length : Int) := by rw [hlen2]; exact w64_in (by omega) (by omega)
              have hsub : sub (pre ++ [(i : Int)]) 0 (pre.length : Int) = some pre := by
                rw [sub_take (by rw [List.length_append]; omega), List.take_left']
                rfl
              dsimp only
              rw [if_neg Bool.false_ne_true, if_neg Bool.false_ne_true, hw2, hsub, Option.bind_some]
              exact ⟨hz1, hz2⟩
          · rw [if_pos rfl, if_pos rfl, if_pos rfl]
            exact ⟨hz1, hz2⟩
    obtain ⟨⟨z1, h1⟩, z2, h2⟩ := key f l.length 0 (by omega) (by omega)
    rw [show ((0 : Nat) : Int) = 0 from rfl] at h1 h2
    rw [h1, h2]
    generalize firstOf (fun i : Nat => if (pre.any fun x => x == (i : Int)) = true then none else ordS l h d (pre ++ [(i : Int)])) l.length 0 = q
    cases q with
    | some o => exact ⟨rfl, rfl⟩
    | none => exact ⟨rfl, rfl⟩
theorem assign_leaf {fu : Nat} (hfu : 2097153 ≤ fu) (n : Network) (l : List Request) (hB : NetB n) (hl : ReqB l) (hv : reqsOk n l = true) {h : Int} {o : List Int} (hp : Pre l o) (hol : o.length = l.length) (hleaf : leafOk l h o = true) : ∃ bl, impl_AssignGreedy fu n l o = some (bl, h, true) := by
  have hF := reqF hv
  have h7 := hF.len
  obtain ⟨s, s1, s2, s3⟩ := sort_srt hfu o (by omega)
  have hsl := s2.length_eq
  have e1 : ((o.length : Int) != (l.length : Int)) = false := by rw [hol, bne_self_eq_false]
  have i1 := sBad_iff o s l.length (by omega) s2 s3
  have hg := greedy_gre hfu hF hp.1 hp.2
  unfold leafOk at hleaf
  revert hleaf hg
  cases gre l o (zeros l.length) with
  | none => intro hq _; exact (Bool.false_ne_true hq).elim
  | some bl =>
    rintro hq ⟨g1, g2, g3⟩
    have hh : hgt bl = h := beq_iff_eq.1 hq
    unfold impl_AssignGreedy
    rw [cloneI_eq o (by omega), Option.bind_some, s1, Option.bind_some, implReqs_eq hfu n l hB hl, hv, Option.bind_some, Bool.not_true, if_neg Bool.false_ne_true, e1, if_neg Bool.false_ne_true, isSetG_eq s _ (by omega) (by omega), i1.2 hp, Option.bind_some, Option.bind_some, Bool.not_false, Bool.not_true, if_neg Bool.false_ne_true, g1, Option.bind_some, if_neg (show ¬ (!true) = true by decide), g3, hh]
    exact ⟨bl, rfl⟩
end AT

namespace AT
structure Cur (c : L1CurP) (k : Int) : Prop where
  by_ : ∀ e ∈ c.code, 0 ≤ e.n ∧ e.n ≤ 255
  len : c.code.length ≤ 65536
  lo : 0 ≤ c.at_
  hi : c.at_ ≤ k
theorem and255 (q : Int) : 0 ≤ andu64 q 255 ∧ andu64 q 255 ≤ 255 := by
  unfold andu64
  have h : (BitVec.ofInt 64 q &&& BitVec.ofInt 64 255).toNat ≤ 255 := by
    rw [BitVec.toNat_and]
    exact Nat.le_trans Nat.and_le_right (by decide)
  unfold wu64
  omega
theorem next_ok {fu : Nat} {c : L1CurP} {k : Int} (hc : Cur c k) (hk : k ≤ 4611686018427387904) : ∃ r c', spec_l1Cur_next fu c = some (r, c') ∧ 0 ≤ r ∧ r ≤ 255 ∧ Cur c' (k + 1) := by
  have h0 := hc.lo
  have h1 := hc.hi
  have hl := hc.len
  have e1 : w64 (c.at_ + 1) = c.at_ + 1 := w64_in (by omega) (by omega)
  unfold spec_l1Cur_next
  have hsh : ∀ x : Int, shrk 64 x 40 = some (x.fdiv (2 ^ (min (40 : Int).toNat 64))) := fun x => by unfold shrk; rw [if_neg (by omega)]
  simp only [e1, hsh, Option.bind_some]
  have hcur : ∀ s, Cur ⟨c.code, c.at_ + 1, s⟩ (k + 1) := fun s => ⟨hc.by_, hc.len, by simp only; omega, by simp only; omega⟩
  have ha : ∀ q : Int, 0 ≤ w64 (andu64 q 255) ∧ w64 (andu64 q 255) ≤ 255 := fun q => by
    have := and255 q
    rw [w64_in (by omega) (by omega)]; exact this
  by_cases h : c.at_ < c.code.length
  · simp only [h, decide_true, if_true]
    obtain ⟨e, he, hm⟩ := idx_some (l := c.code) (i := c.at_) h0 h
    have hb := hc.by_ e hm
    have e2 : w64 e.n = e.n := w64_in (by omega) (by omega)
    simp only [he, Option.bind_some, e2]
    split
    · exact ⟨_, _, rfl, hb.1, hb.2, hcur _⟩
    · exact ⟨_, _, rfl, (ha _).1, (ha _).2, hcur _⟩
  · simp only [h, decide_false, Bool.false_eq_true, if_false]
    split
    · exact ⟨_, _, rfl, by omega, by omega, hcur _⟩
    · exact ⟨_, _, rfl, (ha _).1, (ha _).2, hcur _⟩
theorem Cur.mono {c : L1CurP} {k k' : Int} (hc : Cur c k) (h : k ≤ k') : Cur c k' := ⟨hc.by_, hc.len, hc.lo, Int.le_trans hc.hi h⟩
theorem pick_ok {fu : Nat} {c : L1CurP} {k : Int} (hc : Cur c k) (hk : k ≤ 4611686018427387000) (n : Int) (hn : n ≤ 1099511627776) : ∃ r c', spec_l1Cur_pick fu c n = some (r, c') ∧ 0 ≤ r ∧ (1 ≤ n → r < n) ∧ Cur c' (k + 2) := by
  unfold spec_l1Cur_pick
  by_cases h : n ≤ 1
  · simp only [h, decide_true, if_true]
    exact ⟨_, _, rfl, by omega, by omega, hc.mono (by omega)⟩
  · simp only [h, decide_false, Bool.false_eq_true, if_false]
    obtain ⟨r, c', g1, g2, g3, g4⟩ := next_ok (fu := fu) hc (by omega)
    simp only [g1, Option.bind_some]
    have hr : ∀ x : Int, 0 ≤ x → ∃ q, rem x n = some q ∧ 0 ≤ q ∧ q < n := fun x hx => by
      unfold rem
      rw [if_neg (by omega), Int.tmod_eq_emod_of_nonneg hx]
      exact ⟨_, rfl, Int.emod_nonneg _ (by omega), Int.emod_lt_of_pos _ (by omega)⟩
    by_cases h2 : n > 200
    · simp only [h2, decide_true, if_true]
      obtain ⟨r2, c2, q1, q2, q3, q4⟩ := next_ok (fu := fu) g4 (by omega)
      simp only [q1, Option.bind_some]
      rw [w64_in (n := r * 256) (by omega) (by omega), w64_in (by omega) (by omega)]
      obtain ⟨q, p1, p2, p3⟩ := hr (r * 256 + r2) (by omega)
      rw [p1]
      exact ⟨_, _, rfl, p2, fun _ => p3, q4.mono (by omega)⟩
    · simp only [h2, decide_false, Bool.false_eq_true, if_false]
      obtain ⟨q, p1, p2, p3⟩ := hr r g2
      rw [p1]
      exact ⟨_, _, rfl, p2, fun _ => p3, g4.mono (by omega)⟩
theorem among_ok {fu : Nat} {c : L1CurP} {k : Int} (hc : Cur c k) (hk : k ≤ 4611686018427387000) (l : List Int) (h1 : 1 ≤ l.length) (hn : l.length ≤ 1099511627776) : ∃ r c', spec_l1Cur_among fu c l = some (r, c') ∧ r ∈ l ∧ Cur c' (k + 2) := by
  unfold spec_l1Cur_among
  obtain ⟨r, c', g1, g2, g3, g4⟩ := pick_ok (fu := fu) hc hk (l.length : Int) (by omega)
  obtain ⟨e, he, hm⟩ := idx_some (l := l) (i := r) g2 (g3 (by omega))
  simp only [g1, Option.bind_some, he]
  exact ⟨_, _, rfl, hm, g4⟩
theorem start_cur {code : List By} (h : ∀ e ∈ code, 0 ≤ e.n ∧ e.n ≤ 255) (hl : code.length ≤ 65536) : Cur ⟨code, 0, ⟨0⟩⟩ 0 := ⟨h, hl, Int.le_refl _, Int.le_refl _⟩
end AT

namespace AT
theorem app_nil {α : Type} {l : List α} (h : l.length ≤ 1099511627776) : app ([] : List α) l = some l := by rw [app_ok (by simpa using h)]; rfl
structure NetD (n : Network) : Prop where
  n1 : 1 ≤ n.Nodes.length
  n2 : n.Nodes.length ≤ 20
  ns : ∀ e ∈ n.Nodes, e.size ≤ 100
  f2 : n.Fibers.length ≤ 20
theorem NetD.B {n : Network} (h : NetD n) : NetB n := ⟨⟨by have := h.n2; omega, fun e he => by have := h.ns e he; omega⟩, by have := h.f2; omega⟩
theorem rem_ok {a n : Int} (ha : 0 ≤ a) (hn : 0 < n) : ∃ q, rem a n = some q ∧ 0 ≤ q ∧ q < n := by
  unfold rem
  rw [if_neg (by omega), Int.tmod_eq_emod_of_nonneg ha]
  exact ⟨_, rfl, Int.emod_nonneg _ (by omega), Int.emod_lt_of_pos _ hn⟩
theorem app1 {α : Type} {l : List α} {x : α} (h : l.length ≤ 1000000) : app l [x] = some (l ++ [x]) := app_ok (by simp; omega)
theorem least_ex (fu : Nat) (a b : Int) : ∃ r, spec_l1Least fu a b = some r ∧ (r = a ∨ r = b) := by
  unfold spec_l1Least; split <;> exact ⟨_, rfl, by simp⟩
theorem most_ex (fu : Nat) (a b : Int) : ∃ r, spec_l1Most fu a b = some r ∧ (r = a ∨ r = b) := by
  unfold spec_l1Most; split <;> exact ⟨_, rfl, by simp⟩
theorem l2Put_loop {fu : Nat} (l : List Fiber) (f : Fiber) (hl : l.length ≤ 1000000) : ∀ (fk i : Nat), i ≤ l.length → l.length - i < fk → ∃ j : Nat, spec_l2Put_L1 fu l f fk i = some (j : Int) ∧ j ≤ l.length := by
  intro fk
  induction fk with
  | zero => intro i _ h; omega
  | succ fk ih =>
    intro i hi hf
    rw [spec_l2Put_L1]
    by_cases h : i < l.length
    · have hlt : ((i : Int) < (l.length : Int)) = True := by simp; omega
      simp only [hlt, decide_true, if_true, idx_in h, Option.bind_some, l2Before_eq, w64_inc h (show (l.length : Int) ≤ 9223372036854775807 by omega)]
      split
      · exact ih (i + 1) h (by omega)
      · exact ⟨i, rfl, hi⟩
    · have hlt : ((i : Int) < (l.length : Int)) = False := by simp; omega
      simp only [hlt, decide_false, Bool.false_eq_true, if_false, Option.bind_some]
      exact ⟨i, rfl, hi⟩
theorem l2Put_ok {fu : Nat} (hfu : 2097153 ≤ fu) (l : List Fiber) (f : Fiber) (hl : l.length ≤ 1000000) : ∃ r, spec_l2Put fu l f = some r ∧ r.length = l.length + 1 := by
  unfold spec_l2Put
  obtain ⟨j, h1, h2⟩ := l2Put_loop (fu := fu) l f hl fu 0 (by omega) (by omega)
  have hs : sub l (j : Int) (l.length : Int) = some (l.drop j) := by
    unfold sub
    rw [if_pos (by omega)]
    simp
  rw [show ((0 : Nat) : Int) = 0 from rfl] at h1
  rw [h1, Option.bind_some, sub_take h2, Option.bind_some, hs, Option.bind_some, app_nil (by rw [List.length_take]; omega), Option.bind_some, app_ok (by rw [List.length_take, List.length_singleton]; omega), Option.bind_some, app_ok (by rw [List.length_append, List.length_take, List.length_singleton, List.length_drop]; omega), Option.bind_some]
  refine ⟨_, rfl, ?_⟩
  simp only [List.length_append, List.length_take, List.length_singleton, List.length_drop]
  omega
theorem net_loop1 {fu : Nat} (hfu : 2097153 ≤ fu) (y : Int × L1CurP) (K : Nat) (hK : w64 (2 + y.1) = (K : Int)) (h2 : 2 ≤ K) (h6 : K ≤ 6) : ∀ (fk i : Nat) (m : List By) (m2 : Int) (m3 : U64) (l : List Fiber) (k B : Int), Cur ⟨m, m2, m3⟩ k → k ≤ B + 10 * (i : Int) → B ≤ 1000000000 → l.length ≤ i → i ≤ K → K - i < fk →
    ∃ i' m' a' s' l', spec_l1Cur_network_L1 fu y fk i m m2 m3 l = some (i', m', a', s', l') ∧ l'.length ≤ K ∧ Cur ⟨m', a', s'⟩ (B + 10 * (K : Int)) := by
  intro fk
  induction fk with
  | zero => intro i _ _ _ _ _ _ _ _ _ _ _ h; omega
  | succ fk ih =>
    intro i m m2 m3 l k B hc hk hB hl hi hf
    rw [spec_l1Cur_network_L1, hK]
    by_cases h : i < K
    · have hlt : ((i : Int) < (K : Int)) = True := by simp; omega
      have e : w64 ((i : Int) + 1) = ((i + 1 : Nat) : Int) := w64_inc h (by omega)
      obtain ⟨q, hq, q0, q1⟩ := rem_ok (a := ((i + 1 : Nat) : Int)) (n := (K : Int)) (by omega) (by omega)
      obtain ⟨r1, c1, g1, -, -, k1⟩ := pick_ok (fu := fu) hc (by omega) 10 (by decide)
      simp only [hlt, decide_true, if_true, e, hq, Option.bind_some, spec_l1Cur_one, g1]
      have k1' : Cur ⟨c1.code, c1.at_, c1.seed⟩ (k + 2) := k1
      split
      · exact ih (i + 1) _ _ _ _ k B hc (by omega) hB (by omega) h (by omega)
      · split
        · exact ih (i + 1) _ _ _ _ (k + 2) B k1' (by omega) hB (by omega) h (by omega)
        · obtain ⟨r3, g3, -⟩ := least_ex fu (i : Int) q
          obtain ⟨r4, g4, -⟩ := most_ex fu (i : Int) q
          obtain ⟨r5, c5, g5, -, -, k5⟩ := pick_ok (fu := fu) k1 (by omega) 8 (by decide)
          obtain ⟨r6, c6, g6, -, k6⟩ := among_ok (fu := fu) k5 (by omega) [0, 0, 0, 1, 2] (by decide) (by decide)
          obtain ⟨r7, g7, h7⟩ := l2Put_ok hfu l ({ A := r3, B := r4, Length := w64 (100 * (w64 (1 + r5))), Risk := r6 } : Fiber) (by omega)
          simp only [g3, g4, g5, g6, g7, Option.bind_some]
          exact ih (i + 1) _ _ _ _ (k + 2 + 2 + 2) B k6 (by omega) hB (by omega) h (by omega)
    · obtain rfl : i = K := by omega
      have hlt : ((i : Int) < (i : Int)) = False := by simp
      simp only [hlt, decide_false, Bool.false_eq_true, if_false]
      exact ⟨_, _, _, _, _, rfl, hl, hc.mono (by omega)⟩
theorem net_loop2 {fu : Nat} (hfu : 2097153 ≤ fu) (y : Int × L1CurP) (K : Nat) (hK : w64 (2 + y.1) = (K : Int)) (h2 : 2 ≤ K) (h6 : K ≤ 6) : ∀ (fk n : Nat) (l : List Fiber) (m : List By) (m2 : Int) (m3 : U64) (k B : Int), Cur ⟨m, m2, m3⟩ k → k ≤ B - 10 * (n : Int) → B ≤ 1000000000 → l.length + n ≤ 9 → n < fk →
    ∃ i' l' m' a' s', spec_l1Cur_network_L2 fu y fk (n : Int) l m m2 m3 = some (i', l', m', a', s') ∧ l'.length ≤ 9 ∧ l.length ≤ l'.length ∧ Cur ⟨m', a', s'⟩ B := by
  intro fk
  induction fk with
  | zero => intro n _ _ _ _ _ _ _ _ _ _ h; omega
  | succ fk ih =>
    intro n l m m2 m3 k B hc hk hB hl hf
    rw [spec_l1Cur_network_L2, hK]
    by_cases h : 0 < n
    · have hlt : ((n : Int) > 0) = True := by simp; omega
      have e : w64 ((n : Int) - 1) = ((n - 1 : Nat) : Int) := w64_dec h (by omega)
      obtain ⟨r1, c1, g1, -, -, k1⟩ := pick_ok (fu := fu) hc (by omega) (K : Int) (by omega)
      obtain ⟨r2, c2, g2, -, -, k2⟩ := pick_ok (fu := fu) k1 (by omega) (K : Int) (by omega)
      simp only [hlt, decide_true, if_true, e, g1, g2, Option.bind_some]
      split
      · obtain ⟨r3, g3, -⟩ := least_ex fu r1 r2
        obtain ⟨r4, g4, -⟩ := most_ex fu r1 r2
        obtain ⟨r5, c5, g5, -, -, k5⟩ := pick_ok (fu := fu) k2 (by omega) 8 (by decide)
        obtain ⟨r6, c6, g6, -, k6⟩ := among_ok (fu := fu) k5 (by omega) [0, 0, 0, 1, 2] (by decide) (by decide)
        obtain ⟨r7, g7, h7⟩ := l2Put_ok hfu l ({ A := r3, B := r4, Length := w64 (100 * (w64 (1 + r5))), Risk := r6 } : Fiber) (by omega)
        simp only [g3, g4, g5, g6, g7, Option.bind_some]
        obtain ⟨i', l', m', a', s', q1, q2, q3, q4⟩ := ih (n - 1) r7 _ _ _ (k + 2 + 2 + 2 + 2) B k6 (by omega) hB (by omega) (by omega)
        exact ⟨i', l', m', a', s', q1, q2, by omega, q4⟩
      · exact ih (n - 1) _ _ _ _ (k + 2 + 2) B k2 (by omega) hB (by omega) (by omega)
    · obtain rfl : n = 0 := by omega
      rw [if_neg (by simp)]
      exact ⟨_, _, _, _, _, rfl, by omega, Nat.le_refl _, hc.mono (by omega)⟩
theorem network_ok {fu : Nat} (hfu : 2097153 ≤ fu) {c : L1CurP} {k : Int} (hc : Cur c k) (hk : k ≤ 900000000) : ∃ r c', spec_l1Cur_network fu c = some (r, c') ∧ NetD r ∧ r.Nodes.length ≤ 6 ∧ r.Fibers.length ≤ 9 ∧ Cur c' (k + 200) := by
  unfold spec_l1Cur_network
  obtain ⟨r1, c1, g1, p0, p1, k1⟩ := pick_ok (fu := fu) hc (by omega) 5 (by decide)
  have p2 := p1 (by decide)
  have hK : w64 (2 + r1) = (((2 + r1).toNat : Nat) : Int) := by rw [w64_in (by omega) (by omega)]; omega
  have hK2 : 2 ≤ (2 + r1).toNat := by omega
  have hK6 : (2 + r1).toNat ≤ 6 := by omega
  obtain ⟨i2, m2, a2, s2, l2, g2, h2, k2⟩ := net_loop1 hfu (r1, c1) (2 + r1).toNat hK hK2 hK6 fu 0 c1.code c1.at_ c1.seed [] (k + 2) (k + 2) k1 (by omega) (by omega) (by simp) (by omega) (by omega)
  obtain ⟨r3, c3, g3, q0, q1, k3⟩ := pick_ok (fu := fu) k2 (by omega) 4 (by decide)
  have q2 := q1 (by decide)
  obtain ⟨i4, l4, m4, a4, s4, g4, h4, -, k4⟩ := net_loop2 hfu (r1, c1) (2 + r1).toNat hK hK2 hK6 fu r3.toNat l2 c3.code c3.at_ c3.seed (k + 2 + 10 * ((2 + r1).toNat : Int) + 2) (k + 200) k3 (by omega) (by omega) (by omega) (by omega)
  rw [Int.ofNat_zero] at g2
  rw [Int.toNat_of_nonneg q0] at g4
  simp only [g1, Option.bind_some, hK]
  rw [sub_take (by simp; omega)]
  simp only [g2, g3, g4, Option.bind_some]
  refine ⟨_, _, rfl, ⟨by simp; omega, by simp; omega, fun e he => ?_, by simp only; omega⟩, by simp; omega, h4, k4⟩
  have he' := List.mem_of_mem_take he
  simp only [List.mem_cons, List.not_mem_nil, or_false] at he'
  rcases he' with rfl | rfl | rfl | rfl | rfl | rfl <;> decide
theorem linked_ok {fu : Nat} (hfu : 2097153 ≤ fu) {c : L1CurP} {k : Int} (hc : Cur c k) (hk : k ≤ 900000000) : ∃ r c', spec_l1Cur_linked fu c = some (r, c') ∧ NetD r ∧ 1 ≤ r.Fibers.length ∧ Cur c' (k + 200) := by
  unfold spec_l1Cur_linked
  obtain ⟨r, c', g1, h1, h2, h3, k1⟩ := network_ok hfu hc hk
  simp only [g1, Option.bind_some]
  split
  · rename_i h
    have h0 : r.Fibers.length = 0 := by simpa using h
    rw [app1 (by omega)]
    exact ⟨_, _, rfl, ⟨h1.n1, h1.n2, h1.ns, by simp; omega⟩, by simp, k1⟩
  · rename_i h
    have h0 : r.Fibers.length ≠ 0 := by simpa using h
    exact ⟨_, _, rfl, h1, by omega, k1⟩
theorem route_loop2 {fu : Nat} (hfu : 2097153 ≤ fu) (n : Network) (y : Int × L1CurP) (seen : List Int) (hn : n.Fibers.length ≤ 1000000) (h1 : 1 ≤ seen.length) (h2 : seen.length ≤ 1000000) : ∀ (fk i : Nat) (o : List Int), i ≤ n.Fibers.length → n.Fibers.length - i < fk → o.length ≤ i → (∀ e ∈ o, 0 ≤ e ∧ e < (n.Fibers.length : Int)) →
    ∃ l i', spec_l1Cur_route_L2 fu n y seen fk o i = some (l, i') ∧ l.length ≤ n.Fibers.length ∧ ∀ e ∈ l, 0 ≤ e ∧ e < (n.Fibers.length : Int) := by
  intro fk
  induction fk with
  | zero => intro i _ _ h; omega
  | succ fk ih =>
    intro i o hi hf ho hr
    rw [spec_l1Cur_route_L2]
    by_cases h : i < n.Fibers.length
    · have hlt : ((i : Int) < (n.Fibers.length : Int)) = True := by simp; omega
      have e1 : w64 ((seen.length : Int) - 1) = ((seen.length - 1 : Nat) : Int) := by rw [w64_in (by omega) (by omega)]; omega
      have hh : ∀ v, spec_l1Has fu seen v = some (seen.any fun x => x == v) := fun v => l1Has_eq seen v (by omega) (by omega)
      have ha : app o [(i : Int)] = some (o ++ [(i : Int)]) := app1 (by omega)
      simp only [hlt, decide_true, if_true, e1, idx_in (show seen.length - 1 < seen.length by omega), Option.bind_some, l2Other_eq fu n i _ h, hh, ha, w64_inc h (show (n.Fibers.length : Int) ≤ 9223372036854775807 by omega)]
      have two : ∀ b : Bool, ∃ l i', (if b = true then spec_l1Cur_route_L2 fu n y seen fk (o ++ [(i : Int)]) ((i + 1 : Nat) : Int) else spec_l1Cur_route_L2 fu n y seen fk o ((i + 1 : Nat) : Int)) = some (l, i') ∧ l.length ≤ n.Fibers.length ∧ ∀ e ∈ l, 0 ≤ e ∧ e < (n.Fibers.length : Int) := by
        intro b
        cases b
        · exact ih (i + 1) o h (by omega) (by omega) hr
        · refine ih (i + 1) _ h (by omega) (by simp; omega) fun e he => ?_
          rcases List.mem_append.1 he with he | he
          · exact hr e he
          · simp only [List.mem_singleton] at he
            omega
      split
      · exact two _
      · exact two false
    · obtain rfl : i = n.Fibers.length := by omega
      rw [if_neg (by simp)]
      exact ⟨_, _, rfl, ho, hr⟩
theorem route_loop1 {fu : Nat} (hfu : 2097153 ≤ fu) (n : Network) (y : Int × L1CurP) (hn : n.Fibers.length ≤ 1000) : ∀ (fk m : Nat) (seen l : List Int) (b : List By) (a : Int) (s : U64) (k B : Int), Cur ⟨b, a, s⟩ k → k ≤ B - 2 * (m : Int) → B ≤ 1000000000 → 1 ≤ seen.length → seen.length + m ≤ 1000 → l.length + m ≤ 4 → (∀ e ∈ l, 0 ≤ e ∧ e < (n.Fibers.length : Int)) → m < fk →
    ∃ s2 m2 l' b' a' s', spec_l1Cur_route_L1 fu n y fk seen (m : Int) l b a s = some (s2, m2, l', b', a', s') ∧ l'.length ≤ 4 ∧ (∀ e ∈ l', 0 ≤ e ∧ e < (n.Fibers.length : Int)) ∧ Cur ⟨b', a', s'⟩ B := by
  intro fk
  induction fk with
  | zero => intro m _ _ _ _ _ _ _ _ _ _ _ _ _ _ h; omega
  | succ fk ih =>
    intro m seen l b a s k B hc hk hB hs1 hs2 hl hr hf
    rw [spec_l1Cur_route_L1]
    by_cases h : 0 < m
    · have hlt : ((m : Int) > 0) = True := by simp; omega
      have e : w64 ((m : Int) - 1) = ((m - 1 : Nat) : Int) := w64_dec h (by omega)
      obtain ⟨z, zi, g1, z1, z2⟩ := route_loop2 hfu n y seen (by omega) hs1 (by omega) fu 0 [] (by omega) (by omega) (by simp) (by simp)
      rw [Int.ofNat_zero] at g1
      have e1 : w64 ((seen.length : Int) - 1) = ((seen.length - 1 : Nat) : Int) := by rw [w64_in (by omega) (by omega)]; omega
      simp only [hlt, decide_true, if_true, e, g1, Option.bind_some]
      by_cases hz : z.length = 0
      · have hz' : ((z.length : Int) == 0) = true := by simp [hz]
        simp only [hz', if_true]
        exact ⟨_, _, _, _, _, _, rfl, by omega, hr, hc.mono (by omega)⟩
      · have hz' : ((z.length : Int) == 0) = false := by simpa using hz
        obtain ⟨r1, c1, g2, p0, p1, k1⟩ := pick_ok (fu := fu) hc (by omega) (z.length : Int) (by omega)
        obtain ⟨x, hx, hxm⟩ := idx_some (l := z) (i := r1) p0 (p1 (by omega))
        obtain ⟨x0, x1⟩ := z2 x hxm
        have hxn : x = ((x.toNat : Nat) : Int) := by omega
        have ho : ∀ v, spec_l2Other fu n x v = some (oth (gd n.Fibers x.toNat f0) v) := fun v => by
          have := l2Other_eq fu n x.toNat v (by omega)
          rwa [← hxn] at this
        simp only [hz', Bool.false_eq_true, if_false, g2, Option.bind_some, hx, e1, idx_in (show seen.length - 1 < seen.length by omega), ho, app1 (show l.length ≤ 1000000 by omega), app1 (show seen.length ≤ 1000000 by omega)]
        refine ih (m - 1) _ _ _ _ _ (k + 2) B k1 (by omega) hB (by simp) (by simp; omega) (by simp; omega) (fun q hq => ?_) (by omega)
        rcases List.mem_append.1 hq with hq | hq
        · exact hr q hq
        · simp only [List.mem_singleton] at hq
          omega
    · obtain rfl : m = 0 := by omega
      rw [if_neg (by simp)]
      exact ⟨_, _, _, _, _, _, rfl, by omega, hr, hc.mono (by omega)⟩
theorem route_ok {fu : Nat} (hfu : 2097153 ≤ fu) {c : L1CurP} {k : Int} (hc : Cur c k) (hk : k ≤ 900000000) {n : Network} (hn : n.Fibers.length ≤ 1000) (hm : n.Nodes.length ≤ 1000) : ∃ r c', spec_l1Cur_route fu c n = some (r, c') ∧ r.Fibers.length ≤ 4 ∧ (∀ e ∈ r.Fibers, 0 ≤ e ∧ e < (n.Fibers.length : Int)) ∧ Cur c' (k + 20) := by
  unfold spec_l1Cur_route
  obtain ⟨r1, c1, g1, -, -, k1⟩ := pick_ok (fu := fu) hc (by omega) (n.Nodes.length : Int) (by omega)
  obtain ⟨r2, c2, g2, p0, p1, k2⟩ := pick_ok (fu := fu) k1 (by omega) 4 (by decide)
  have p2 := p1 (by decide)
  have e : w64 (1 + r2) = (((1 + r2).toNat : Nat) : Int) := by rw [w64_in (by omega) (by omega)]; omega
  obtain ⟨s3, m3, l3, b3, a3, t3, g3, h3, h4, k3⟩ := route_loop1 hfu n (r1, c1) hn fu (1 + r2).toNat [r1] [] c2.code c2.at_ c2.seed (k + 2 + 2) (k + 20) k2 (by omega) (by omega) (by simp) (by simp; omega) (by simp; omega) (by simp) (by omega)
  simp only [g1, g2, Option.bind_some, e, g3]
  exact ⟨_, _, rfl, h3, h4, k3⟩
theorem routed_ok {fu : Nat} (hfu : 2097153 ≤ fu) {c : L1CurP} {k : Int} (hc : Cur c k) (hk : k ≤ 900000000) {n : Network} (h1 : 1 ≤ n.Fibers.length) (hn : n.Fibers.length ≤ 1000) (hm : n.Nodes.length ≤ 1000) : ∃ r c', spec_l1Cur_routed fu c n = some (r, c') ∧ 1 ≤ r.Fibers.length ∧ r.Fibers.length ≤ 4 ∧ (∀ e ∈ r.Fibers, 0 ≤ e ∧ e < (n.Fibers.length : Int)) ∧ Cur c' (k + 20) := by
  unfold spec_l1Cur_routed
  obtain ⟨r, c', g1, h2, h3, k1⟩ := route_ok hfu hc hk hn hm
  simp only [g1, Option.bind_some]
  split
  · obtain ⟨e, he, -⟩ := idx_some (l := n.Fibers) (i := 0) (Int.le_refl _) (by omega)
    rw [he]
    exact ⟨_, _, rfl, by simp, by simp, by simp; omega, k1⟩
  · rename_i h
    have h0 : r.Fibers.length ≠ 0 := by simpa using h
    exact ⟨_, _, rfl, by omega, h2, h3, k1⟩
theorem anyRoute_ok {fu : Nat} (hfu : 2097153 ≤ fu) {c : L1CurP} {k : Int} (hc : Cur c k) (hk : k ≤ 900000000) {n : Network} (hn : n.Fibers.length ≤ 1000) (hm : n.Nodes.length ≤ 1000) : ∃ r c', spec_l1Cur_anyRoute fu c n = some (r, c') ∧ r.Fibers.length ≤ 5 ∧ Cur c' (k + 30) := by
  unfold spec_l1Cur_anyRoute
  obtain ⟨r, c1, g1, h1, -, k1⟩ := route_ok hfu hc hk hn hm
  obtain ⟨r2, c2, g2, -, -, k2⟩ := pick_ok (fu := fu) k1 (by omega) 16 (by decide)
  obtain ⟨r3, c3, g3, -, -, k3⟩ := pick_ok (fu := fu) k2 (by omega) 8 (by decide)
  simp only [g1, g2, g3, Option.bind_some, app1 (show r.Fibers.length ≤ 1000000 by omega)]
  split
  · exact ⟨_, _, rfl, by simp only; omega, k3.mono (by omega)⟩
  split
  · exact ⟨_, _, rfl, by simp; omega, k3.mono (by omega)⟩
  split
  · exact ⟨_, _, rfl, by simp, k2.mono (by omega)⟩
  split
  · split
    · rename_i h
      have h0 : (1 : Int) < r.Fibers.length := by simpa using h
      have e1 : w64 ((r.Fibers.length : Int) - 1) = ((r.Fibers.length - 1 : Nat) : Int) := by rw [w64_in (by omega) (by omega)]; omega
      simp only [e1, idx_in (show r.Fibers.length - 1 < r.Fibers.length by omega), Option.bind_some, app1 (show r.Fibers.length ≤ 1000000 by omega)]
      exact ⟨_, _, rfl, by simp; omega, k2.mono (by omega)⟩
    · exact ⟨_, _, rfl, by omega, k2.mono (by omega)⟩
  · exact ⟨_, _, rfl, by omega, k2.mono (by omega)⟩
end AT

namespace AT
theorem one_okR {fu : Nat} {c : L1CurP} {k : Int} (hc : Cur c k) (hk : k ≤ 4611686018427387000) (n : Int) (hn : n ≤ 1099511627776) : ∃ r c', spec_l1Cur_one fu c n = some (r, c') ∧ Cur c' (k + 2) := by
  unfold spec_l1Cur_one
  obtain ⟨r, c', g1, -, -, g4⟩ := pick_ok (fu := fu) hc hk n hn
  rw [g1]
  exact ⟨_, _, rfl, g4⟩
theorem req_loop {fu : Nat} (hfu : 2097153 ≤ fu) (y : Network × L1CurP) (h1 : 1 ≤ y.1.Fibers.length) (hn : y.1.Fibers.length ≤ 1000) (hm : y.1.Nodes.length ≤ 1000) : ∀ (fk m : Nat) (l : List Request) (b : List By) (a : Int) (s : U64) (k B : Int), Cur ⟨b, a, s⟩ k → k ≤ B - 30 * (m : Int) → B ≤ 800000000 → l.length + m ≤ 6 → (∀ x ∈ l, x.Route.Fibers.length ≤ 5) → m < fk →
    ∃ l' z b' a' s', spec_l1Cur_requests_L1 fu y fk l m b a s = some (l', z, b', a', s') ∧ l'.length ≤ 6 ∧ (∀ x ∈ l', x.Route.Fibers.length ≤ 5) ∧ Cur ⟨b', a', s'⟩ B := by
  intro fk
  induction fk with
  | zero => intro m _ _ _ _ _ _ _ _ _ _ _ h; omega
  | succ fk ih =>
    intro m l b a s k B hc hk hB hl hx hf
    rw [spec_l1Cur_requests_L1]
    by_cases h : 0 < m
    · have h' : (m : Int) > 0 := by omega
      obtain ⟨r, c1, r1, r2, r3, r4, r5⟩ := routed_ok hfu hc (by omega) h1 hn hm
      obtain ⟨q, c2, q1, q2, q3, q4⟩ := pick_ok (fu := fu) r5 (by omega) 6 (by omega)
      rw [if_pos (decide_eq_true h'), r1, Option.bind_some, q1, Option.bind_some, app1 (by omega), Option.bind_some, w64_dec h (by omega)]
      exact ih (m - 1) _ c2.code c2.at_ c2.seed _ B q4 (by omega) hB (by rw [List.length_append, List.length_singleton]; omega) (fun x hx' => by
        rcases List.mem_append.1 hx' with h | h
        · exact hx x h
        · rw [List.mem_singleton] at h; subst h; exact Nat.le_trans r3 (by omega)) (by omega)
    · obtain rfl : m = 0 := by omega
      rw [if_neg (by simp)]
      exact ⟨_, _, _, _, _, rfl, by omega, hx, hc.mono (by omega)⟩
theorem req_loop2 {fu : Nat} (e : Request) (he : e.Route.Fibers.length ≤ 5) : ∀ (fk : Nat) (l : List Request) (b : List By) (a : Int) (s : U64) (k B : Int), Cur ⟨b, a, s⟩ k → k ≤ B + 2 * (l.length : Int) → B ≤ 800000000 → l.length ≤ 8 → (∀ x ∈ l, x.Route.Fibers.length ≤ 5) → 9 - l.length < fk →
    ∃ l' b' a' s', spec_l1Cur_requests_L2 fu e fk l b a s = some (l', b', a', s') ∧ l.length ≤ l'.length ∧ l'.length ≤ 8 ∧ (∀ x ∈ l', x.Route.Fibers.length ≤ 5) ∧ Cur ⟨b', a', s'⟩ (B + 100) := by
  intro fk
  induction fk with
  | zero => intro l _ _ _ _ _ _ _ _ _ _ h; omega
  | succ fk ih =>
    intro l b a s k B hc hk hB hl hx hf
    rw [spec_l1Cur_requests_L2]
    obtain ⟨q, c2, q1, q2, q3, q4⟩ := pick_ok (fu := fu) hc (by omega) 2 (by omega)
    have q5 := q3 (by omega)
    have hw : w64 (7 + q) = 7 + q := w64_in (by omega) (by omega)
    rw [q1, Option.bind_some, hw]
    by_cases h : (l.length : Int) < 7 + q
    · rw [if_pos (decide_eq_true h), app1 (by omega), Option.bind_some]
      obtain ⟨l', b', a', s', g1, g2, g3, g4, g5⟩ := ih (l ++ [e]) c2.code c2.at_ c2.seed _ B q4 (by rw [List.length_append, List.length_singleton]; omega) hB (by rw [List.length_append, List.length_singleton]; omega) (fun x hx' => by
        rcases List.mem_append.1 hx' with h | h
        · exact hx x h
        · rw [List.mem_singleton] at h; subst h; exact he) (by rw [List.length_append, List.length_singleton]; omega)
      rw [List.length_append, List.length_singleton] at g2
      exact ⟨l', b', a', s', g1, by omega, g3, g4, g5⟩
    · rw [if_neg (by rw [decide_eq_true_eq]; exact h)]
      exact ⟨_, _, _, _, rfl, Nat.le_refl _, by omega, hx, q4.mono (by omega)⟩
theorem set_len {l : List Request} {i : Nat} {x : Request} (h : ∀ y ∈ l, y.Route.Fibers.length ≤ 5) (hx : x.Route.Fibers.length ≤ 5) : ∀ y ∈ l.set i x, y.Route.Fibers.length ≤ 5 := by
  intro y hy
  rcases List.mem_or_eq_of_mem_set hy with h' | h'
  · exact h y h'
  · rw [h']; exact hx
theorem requests_ok {fu : Nat} (hfu : 2097153 ≤ fu) {c : L1CurP} {k : Int} (hc : Cur c k) (hk : k ≤ 100000000) : ∃ n l c', spec_l1Cur_requests fu c = some (n, l, c') ∧ NetD n ∧ l.length ≤ 8 ∧ (∀ x ∈ l, x.Route.Fibers.length ≤ 5) ∧ Cur c' (k + 2000) := by
  unfold spec_l1Cur_requests
  obtain ⟨n, c1, n1, n2, n3, n4⟩ := linked_ok hfu hc (by omega)
  obtain ⟨q, c2, q1, q2, q3, q4⟩ := pick_ok (fu := fu) n4 (by omega) 6 (by omega)
  have q5 := q3 (by omega)
  obtain ⟨m, rfl⟩ := Int.eq_ofNat_of_zero_le q2
  have hfb := n2.f2
  have hnd := n2.n2
  obtain ⟨l, z, b', a', s', l1, l2, l3, l4⟩ := req_loop hfu (n, c1) n3 (show n.Fibers.length ≤ 1000 by omega) (show n.Nodes.length ≤ 1000 by omega) fu m [] c2.code c2.at_ c2.seed _ (k + 500) q4 (by omega) (by omega) (by simp; omega) (fun x hx => by cases hx) (by omega)
  have l1' : spec_l1Cur_requests_L1 fu (n, c1) fu [] (m : Int) c2.code c2.at_ c2.seed = some (l, z, b', a', s') := l1
  simp only [n1, q1, l1', Option.bind_some]
  by_cases h0 : 0 < l.length
  · have h0' : (l.length : Int) > 0 := by omega
    obtain ⟨v, c3, v1, v2⟩ := one_okR (fu := fu) l4 (by omega) 16 (by omega)
    simp only [h0', decide_true, if_true, v1, Option.bind_some]
    cases v
    · simp only [Bool.false_eq_true, if_false]
      exact ⟨_, _, _, rfl, n2, by omega, l3, v2.mono (by omega)⟩
    · obtain ⟨i, c4, i1, i2, i3, i4⟩ := pick_ok (fu := fu) v2 (by omega) (l.length : Int) (by omega)
      have i5 := i3 (by omega)
      obtain ⟨i, rfl⟩ := Int.eq_ofNat_of_zero_le i2
      have hil : i < l.length := by omega
      obtain ⟨t, c5, t1, t2, t3, t4⟩ := pick_ok (fu := fu) i4 (by omega) 3 (by omega)
      have he := l3 _ (List.getElem_mem hil)
      simp only [if_true, i1, Option.bind_some, idx_in hil, t1]
      split
      · obtain ⟨u, c6, u1, -, u3⟩ := among_ok (fu := fu) t4 (by omega) [0, 24, 25] (by simp) (by simp)
        simp only [u1, Option.bind_some]
        exact ⟨_, _, _, rfl, n2, by rw [List.length_set]; omega, set_len l3 he, u3.mono (by omega)⟩
      · split
        · obtain ⟨r, c6, g1, g2, g3⟩ := anyRoute_ok hfu t4 (by omega) (n := n) (by omega) (by omega)
          simp only [g1, Option.bind_some]
          exact ⟨_, _, _, rfl, n2, by rw [List.length_set]; omega, set_len l3 g2, g3.mono (by omega)⟩
        · obtain ⟨l', b2, a2, s2, g1, g2, g3, g4, g5⟩ := req_loop2 (fu := fu) l[i] he fu l c5.code c5.at_ c5.seed _ (k + 1000) t4 (by omega) (by omega) (by omega) l3 (by omega)
          simp only [g1, Option.bind_some, idx_in (show i < l'.length by omega)]
          exact ⟨_, _, _, rfl, n2, by rw [List.length_set]; omega, set_len g4 he, g5.mono (by omega)⟩
  · have h0' : ¬ (l.length : Int) > 0 := by omega
    simp only [h0', decide_false, Bool.false_eq_true, if_false]
    exact ⟨_, _, _, rfl, n2, by omega, l3, l4.mono (by omega)⟩
end AT

namespace AT
theorem vInts_self {fu : Nat} (hfu : 2097153 ≤ fu) (l : List Int) (h : l.length ≤ 2097152) : laws_vInts fu l l = some true := by
  unfold laws_vInts
  have h1 : ((l.length : Int) != (l.length : Int)) = false := by simp
  rw [h1, if_neg Bool.false_ne_true, eq_all0 l (laws_vInts_L1 fu l l) h (fun fk i => by rw [laws_vInts_L1]) fu (by omega)]
  rfl
end AT
