/- The exact assignment: both walk the same tree of blocks. -/
import Derived.Test.YtmokfdffnijbbaaGreatQLow
set_option linter.unusedSimpArgs false
set_option linter.unusedVariables false
namespace AT
def clash (l : List Request) (pre : List Block) (i : Nat) (b : Block) (k : Nat) : Bool := cf (gd l i r0) (gd l k r0) && !apart (bits b) (bits (gd pre k b0))
def free (l : List Request) (pre : List Block) (b : Block) : Bool := !(List.range pre.length).any (clash l pre pre.length b)
def firstOf {α : Type} (g : Nat → Option α) : Nat → Nat → Option α
  | 0, _ => none
  | c + 1, s => match g s with
    | some r => some r
    | none => firstOf g c (s + 1)
def cnt (l : List Request) (pre : List Block) : Int := (gd l pre.length r0).Count
def ext (l : List Request) (h : Int) : Nat → List Block → Option (List Block)
  | 0, pre => some pre
  | d + 1, pre => firstOf (fun s => if free l pre ⟨(s : Int), cnt l pre⟩ = true then ext l h d (pre ++ [⟨(s : Int), cnt l pre⟩]) else none) (h + 1 - cnt l pre).toNat 0
theorem any_lt {m n : Nat} (h : m ≤ n) (q : Nat → Bool) : (List.range n).any (fun k => decide (k < m) && q k) = (List.range m).any q := by
  rw [Bool.eq_iff_iff, List.any_eq_true, List.any_eq_true]
  constructor
  · rintro ⟨k, -, k2⟩
    simp only [Bool.and_eq_true, decide_eq_true_eq] at k2
    exact ⟨k, List.mem_range.2 k2.1, k2.2⟩
  · rintro ⟨k, k1, k2⟩
    have := List.mem_range.1 k1
    exact ⟨k, List.mem_range.2 (by omega), by simp [this, k2]⟩
theorem band_ne (a b : Int) : (band a b != 0) = !apart a b := rfl
theorem gd_ok {pre : List Block} (h : ∀ b ∈ pre, blkOk b = true) {k : Nat} (hk : k < pre.length) : blkOk (gd pre k b0) = true := by
  rw [gd_in b0 hk]; exact h _ (List.getElem_mem hk)
theorem isFree_eq {fu : Nat} (hfu : 2097153 ≤ fu) {l : List Request} (hl : ReqF l) {pre : List Block} (hp : ∀ b ∈ pre, blkOk b = true) (hi : pre.length < l.length) {b : Block} (hb : blkOk b = true) :
    impl_isFree_of_assignedTo_c1c1 fu l pre (pre.length : Int) b (pre.length : Int) = some (free l pre b) := by
  have h7 := hl.len
  unfold impl_isFree_of_assignedTo_c1c1 free
  have := scan_any (l := l) (G := impl_isFree_of_assignedTo_c1c1_L1 fu l pre (pre.length : Int) b (pre.length : Int)) (fun k => decide (k < pre.length) && clash l pre pre.length b k) false (by omega)
    (fun fk k hk _ => by
      by_cases hki : k < pre.length
      · have h1 : ((k : Int) != (pre.length : Int)) = true := by rw [bne_iff_ne]; omega
        have h2 : (k : Int) < (pre.length : Int) := by omega
        have hv : (decide (k < pre.length) && clash l pre pre.length b k) = (cf (gd l pre.length r0) (gd l k r0) && !apart (bits b) (bits (gd pre k b0))) := by
          rw [decide_eq_true hki, Bool.true_and, clash]
        rw [hv, impl_isFree_of_assignedTo_c1c1_L1, if_pos (by simpa using hk), impl_assignedTo_c1c1, h1, if_pos rfl, decide_eq_true h2, Option.bind_some, if_pos rfl, idx_gd r0 hi, Option.bind_some, idx_gd r0 hk, Option.bind_some, implCf_eq hfu hl hi hk, Option.bind_some, idx_gd b0 hki, Option.bind_some, maskOf_eq hb, Option.bind_some, maskOf_eq (gd_ok hp hki), Option.bind_some, band_ne]
        generalize cf (gd l pre.length r0) (gd l k r0) = q
        generalize apart (bits b) (bits (gd pre k b0)) = q2
        cases q
        · rw [if_neg Bool.false_ne_true, Option.bind_some, Bool.false_and]
        · rw [if_pos rfl, Option.bind_some, Bool.true_and]
      · have h2 : ¬ (k : Int) < (pre.length : Int) := by omega
        have hv : (decide (k < pre.length) && clash l pre pre.length b k) = false := by rw [decide_eq_false hki, Bool.false_and]
        rw [hv, impl_isFree_of_assignedTo_c1c1_L1, if_pos (by simpa using hk), impl_assignedTo_c1c1, decide_eq_false h2, Option.bind_some, if_neg Bool.false_ne_true]
        by_cases h1 : ((k : Int) != (pre.length : Int)) = true
        · rw [if_pos h1, Option.bind_some]
        · rw [if_neg h1, Option.bind_some])
    (fun fk => by rw [impl_isFree_of_assignedTo_c1c1_L1, if_neg (by simp)]) fu (by omega)
  rw [this, any_lt (Nat.le_of_lt hi)]
  cases (List.range pre.length).any (clash l pre pre.length b) <;> rfl
theorem sub_pre {α : Type} {l : List α} {n : Nat} (h : n ≤ l.length) : sub l 0 (n : Int) = some (l.take n) := sub_take h
theorem blk_of {l : List Request} (hl : ReqF l) {pre : List Block} (hi : pre.length < l.length) {h : Int} (hh : h ≤ 24) {s : Nat} (hs : (s : Int) + cnt l pre ≤ h) : blkOk ⟨(s : Int), cnt l pre⟩ = true := by
  have := hl.at_ hi
  unfold blkOk
  unfold cnt at hs ⊢
  simp only [Bool.and_eq_true, decide_eq_true_eq]
  omega
theorem snoc_ok {pre : List Block} (hp : ∀ b ∈ pre, blkOk b = true) {b : Block} (hb : blkOk b = true) : ∀ c ∈ pre ++ [b], blkOk c = true := by
  intro c hc
  rcases List.mem_append.1 hc with h | h
  · exact hp c h
  · rw [List.mem_singleton] at h; subst h; exact hb
theorem search_eq {l : List Request} (hl : ReqF l) (h : Int) (hh : h ≤ 24) : ∀ (d f : Nat) (pre : List Block), 2097153 + d < f → pre.length + d = l.length → (∀ b ∈ pre, blkOk b = true) →
    ∃ r, impl_assignedTo_c1 f pre l h = some r ∧ match ext l h d pre with | some full => r = (true, full) | none => r.1 = false ∧ r.2.take pre.length = pre := by
  have h7 := hl.len
  intro d
  induction d with
  | zero =>
    intro f pre hf hd hp
    obtain ⟨f, rfl⟩ : ∃ g, f = g + 1 := ⟨f - 1, by omega⟩
    rw [impl_assignedTo_c1, impl_assignedTo_c1_B, if_pos (by rw [beq_iff_eq]; omega), ext]
    exact ⟨_, rfl, rfl⟩
  | succ d ih =>
    intro f pre hf hd hp
    obtain ⟨f, rfl⟩ : ∃ g, f = g + 1 := ⟨f - 1, by omega⟩
    have hi : pre.length < l.length := by omega
    have hc := hl.at_ hi
    have e0 : cnt l pre = (gd l pre.length r0).Count := rfl
    rw [impl_assignedTo_c1, impl_assignedTo_c1_B, if_neg (by rw [beq_iff_eq]; omega), ext]
    have key : ∀ (fk c s : Nat), c < fk → c = (h + 1 - cnt l pre).toNat - s → s ≤ (h + 1 - cnt l pre).toNat →
        ∃ z, impl_assignedTo_c1_L1 f pre l h (fun cap cap2 cap3 => impl_assignedTo_c1 f cap cap2 cap3) fk (s : Int) pre = some (match firstOf (fun s => if free l pre ⟨(s : Int), cnt l pre⟩ = true then ext l h d (pre ++ [⟨(s : Int), cnt l pre⟩]) else none) c s with | some full => .ret (true, full) | none => .next (z, pre)) := by
      intro fk
      induction fk with
      | zero => intro c s hk; omega
      | succ fk ih2 =>
        intro c s hk hcs hs
        rw [impl_assignedTo_c1_L1, idx_gd r0 hi, Option.bind_some]
        have hw : w64 ((s : Int) + (gd l pre.length r0).Count) = (s : Int) + cnt l pre := w64_in (by unfold cnt at hs; omega) (by unfold cnt at hs; omega)
        rw [hw]
        clear hw
        cases c with
        | zero =>
          have hn : ¬ ((s : Int) + cnt l pre ≤ h) := by
            have : cnt l pre = (gd l pre.length r0).Count := rfl
            omega
          rw [if_neg (by simpa using hn)]
          exact ⟨_, rfl⟩
        | succ c =>
          have hn : (s : Int) + cnt l pre ≤ h := by
            have : cnt l pre = (gd l pre.length r0).Count := rfl
            omega
          have hb := blk_of hl hi hh hn
          rw [if_pos (by simpa using hn), Option.bind_some]
          have hfr := isFree_eq (fu := f) (by omega) hl hp hi hb
          have hw : w64 ((s : Int) + 1) = ((s + 1 : Nat) : Int) := by rw [w64_in (by omega) (by omega)]; rfl
          have e : (gd l pre.length r0).Count = cnt l pre := rfl
          rw [e, hfr, Option.bind_some, hw, firstOf]
          clear hw
          obtain ⟨z, hz⟩ := ih2 c (s + 1) (by omega) (by omega) (by omega)
          cases hfree : free l pre ⟨(s : Int), cnt l pre⟩
          · simp only [Bool.not_false, if_true, Bool.false_eq_true, if_false]
            exact ⟨z, hz⟩
          · simp only [Bool.not_true, Bool.false_eq_true, if_false, if_true]
            obtain ⟨r, r1, r2⟩ := ih f (pre ++ [⟨(s : Int), cnt l pre⟩]) (by omega) (by rw [List.length_append, List.length_singleton]; omega) (snoc_ok hp hb)
            rw [app_ok (by rw [List.length_singleton]; omega), Option.bind_some, r1, Option.bind_some]
            cases he : ext l h d (pre ++ [⟨(s : Int), cnt l pre⟩]) with
            | some full =>
              rw [he] at r2
              simp only at r2
              subst r2
              exact ⟨0, rfl⟩
            | none =>
              rw [he] at r2
              simp only at r2
              obtain ⟨r3, r4⟩ := r2
              have hlen := congrArg List.length r4
              rw [List.length_take, List.length_append, List.length_singleton] at hlen
              have ht : r.2.take pre.length = pre := by
                have := congrArg (List.take pre.length) r4
                rw [List.take_take, List.length_append, List.length_singleton, Nat.min_eq_left (by omega)] at this
                simpa using this
              rw [r3, if_neg Bool.false_ne_true, sub_pre (by omega), Option.bind_some, ht]
              exact ⟨z, hz⟩
    obtain ⟨z, hz⟩ := key f (h + 1 - cnt l pre).toNat 0 (by unfold cnt; omega) (by omega) (by omega)
    rw [show ((0 : Nat) : Int) = 0 from rfl] at hz
    rw [hz]
    cases firstOf (fun s => if free l pre ⟨(s : Int), cnt l pre⟩ = true then ext l h d (pre ++ [⟨(s : Int), cnt l pre⟩]) else none) (h + 1 - cnt l pre).toNat 0 with
    | some full => exact ⟨_, rfl, rfl⟩
    | none => exact ⟨_, rfl, rfl, List.take_length⟩
def takenP (l : List Request) (bl : List Block) (i : Nat) (c : Int) (k : Nat) : Bool := (k != i && (decide ((gd bl k b0).Count > 0) && cf (gd l k r0) (gd l i r0))) && !apart (bits (gd bl k b0)) c
theorem taken_loop {fu : Nat} (hfu : 2097153 ≤ fu) {l : List Request} (hl : ReqF l) {bl : List Block} (hbl : bl.length = l.length) (hp : ∀ b ∈ bl, blkOk b = true ∨ b = b0) {i : Nat} (hi : i < l.length) : ∀ (fk k : Nat) (o : Int), k ≤ l.length → l.length - k < fk → MK o → (∀ c, MK c → apart o c = !(List.range k).any (takenP l bl i c)) →
    ∃ m, spec_l12Taken_L1 fu l bl i fk o k = some (m, (l.length : Int)) ∧ MK m ∧ ∀ c, MK c → apart m c = !(List.range l.length).any (takenP l bl i c) := by
  have h7 := hl.len
  intro fk
  induction fk with
  | zero => intro k _ _ h; omega
  | succ fk ih =>
    intro k o hk hfk ho hoc
    rw [spec_l12Taken_L1]
    by_cases hkl : k < l.length
    · have hkb : k < bl.length := by omega
      have hbk := hp _ (List.getElem_mem hkb)
      rw [← gd_in b0 hkb] at hbk
      have hr : ∀ c, (List.range (k + 1)).any (takenP l bl i c) = ((List.range k).any (takenP l bl i c) || takenP l bl i c k) := by
        intro c
        rw [List.range_succ, List.any_append]; simp
      have hki : ((k : Int) != (i : Int)) = (k != i) := by
        rw [Bool.eq_iff_iff, bne_iff_ne, bne_iff_ne]; omega
      have hcond : (if ((k : Int) != (i : Int)) = true then (idx bl (k : Int)).bind fun e => if decide (e.Count > 0) = true then (idx l (k : Int)).bind fun e2 => (idx l (i : Int)).bind fun e3 => (spec_l12Conflict fu e2 e3).bind fun y => some y else some false else some false) = some (k != i && (decide ((gd bl k b0).Count > 0) && cf (gd l k r0) (gd l i r0))) := by
        rw [hki, idx_gd b0 hkb, Option.bind_some, idx_gd r0 hkl, Option.bind_some, idx_gd r0 hi, Option.bind_some, specCf_eq hfu hl hkl hi, Option.bind_some]
        cases (k != i) <;> cases decide ((gd bl k b0).Count > 0) <;> simp
      rw [if_pos (by simpa using hkl), hcond, Option.bind_some, w64_inc hkl (by omega)]
      cases hq : (k != i && (decide ((gd bl k b0).Count > 0) && cf (gd l k r0) (gd l i r0)))
      · simp only [Bool.false_eq_true, if_false]
        refine ih (k + 1) o hkl (by omega) ho fun c hc => ?_
        rw [hr, hoc c hc]
        have : takenP l bl i c k = false := by unfold takenP; rw [hq, Bool.false_and]
        rw [this, Bool.or_false]
      · have hblk : blkOk (gd bl k b0) = true := by
          rcases hbk with h | h
          · exact h
          · rw [h] at hq; simp [b0] at hq
        simp only [if_true, idx_gd b0 hkb, Option.bind_some, l8Bits_eq hblk]
        refine ih (k + 1) _ hkl (by omega) (bor_mk ho (bits_mk hblk)) fun c hc => ?_
        rw [apart_bor ho (bits_mk hblk) hc, hoc c hc, hr]
        have : takenP l bl i c k = !apart (bits (gd bl k b0)) c := by unfold takenP; rw [hq, Bool.true_and]
        rw [this]
        cases (List.range k).any (takenP l bl i c) <;> simp
    · obtain rfl : k = l.length := by omega
      rw [if_neg (by simp)]
      exact ⟨o, rfl, ho, hoc⟩
theorem taken_ok {fu : Nat} (hfu : 2097153 ≤ fu) {l : List Request} (hl : ReqF l) {bl : List Block} (hbl : bl.length = l.length) (hp : ∀ b ∈ bl, blkOk b = true ∨ b = b0) {i : Nat} (hi : i < l.length) :
    ∃ m, spec_l12Taken fu l bl i = some m ∧ MK m ∧ ∀ c, MK c → apart m c = !(List.range l.length).any (takenP l bl i c) := by
  have h7 := hl.len
  obtain ⟨m, m1, m2, m3⟩ := taken_loop hfu hl hbl hp hi fu 0 0 (by omega) (by omega) mk0 (fun c hc => by rw [apart_zero hc]; rfl)
  unfold spec_l12Taken
  rw [show ((0 : Nat) : Int) = 0 from rfl] at m1
  rw [m1]
  exact ⟨m, rfl, m2, m3⟩
def zeros (d : Nat) : List Block := List.replicate d b0
theorem gd_left {α : Type} {a b : List α} {k : Nat} (x : α) (h : k < a.length) : gd (a ++ b) k x = gd a k x := by
  unfold gd; rw [List.getElem?_append_left h]
theorem apart_comm (a b : Int) : apart a b = apart b a := by
  unfold apart band
  rw [BitVec.and_comm]
theorem taken_free {fu : Nat} (hfu : 2097153 ≤ fu) {l : List Request} (hl : ReqF l) {pre : List Block} (hp : ∀ b ∈ pre, blkOk b = true) (x : Block) {d : Nat} (hd : pre.length + (d + 1) = l.length) (hx : x = b0) :
    ∃ m, spec_l12Taken fu l (pre ++ x :: zeros d) pre.length = some m ∧ MK m ∧ ∀ b, blkOk b = true → apart m (bits b) = free l pre b := by
  subst hx
  have hi : pre.length < l.length := by omega
  obtain ⟨m, m1, m2, m3⟩ := taken_ok hfu hl (bl := pre ++ b0 :: zeros d) (by simp [zeros]; omega) (fun b hb => by
    rcases List.mem_append.1 hb with h | h
    · exact .inl (hp b h)
    · rcases List.mem_cons.1 h with h | h
      · exact .inr h
      · exact .inr (List.eq_of_mem_replicate h)) hi
  refine ⟨m, m1, m2, fun b hb => ?_⟩
  rw [m3 _ (bits_mk hb)]
  unfold free
  congr 1
  rw [← any_lt (Nat.le_of_lt hi)]
  refine any_same fun k hk => ?_
  unfold takenP clash
  by_cases hkp : k < pre.length
  · have h1 : (k != pre.length) = true := by rw [bne_iff_ne]; omega
    have h2 := gd_ok hp hkp
    have h3 : (gd pre k b0).Count > 0 := by
      unfold blkOk at h2; simp only [Bool.and_eq_true, decide_eq_true_eq] at h2; omega
    rw [gd_left b0 hkp, h1, decide_eq_true h3, decide_eq_true hkp, cf_comm, apart_comm]
    simp
  · rw [decide_eq_false hkp]
    have : gd (pre ++ b0 :: zeros d) k b0 = b0 := by
      unfold gd
      rw [List.getElem?_append_right (by omega)]
      cases hq : k - pre.length with
      | zero => rfl
      | succ q =>
        rw [List.getElem?_cons_succ]
        unfold zeros
        rw [List.getElem?_replicate]
        split <;> rfl
    rw [this]
    simp [b0]
def firstIn {α : Type} (g : Int → Option α) (h C : Int) : List Int → Option α
  | [] => none
  | x :: xs => if x + C ≤ h then (match g x with | some r => some r | none => firstIn g h C xs) else none
theorem firstOf_same {α : Type} {g g' : Nat → Option α} : ∀ (c s : Nat), (∀ t, s ≤ t → t < s + c → g t = g' t) → firstOf g c s = firstOf g' c s
  | 0, s, _ => by rw [firstOf, firstOf]
  | c + 1, s, h => by rw [firstOf, firstOf, h s (Nat.le_refl _) (by omega), firstOf_same c (s + 1) fun t h1 h2 => h t (by omega) (by omega)]
theorem firstIn_fits {α : Type} (g : Int → Option α) (p : Nat → Bool) (h C : Int) (hh : h ≤ 24) (h1 : 1 ≤ C) (h2 : C ≤ 24) : ∀ (c s : Nat), c + s = 25 - C.toNat →
    firstIn g h C (((List.range' s c).filter p).map fun t : Nat => (t : Int)) = firstOf (fun s => if p s = true then g (s : Int) else none) ((h + 1 - C).toNat - s) s := by
  intro c
  induction c with
  | zero =>
    intro s hs
    rw [show (h + 1 - C).toNat - s = 0 by omega]
    rfl
  | succ c ih =>
    intro s hs
    rw [List.range'_succ, List.filter_cons]
    by_cases hsh : (s : Int) + C ≤ h
    · obtain ⟨q, hq⟩ : ∃ q, (h + 1 - C).toNat - s = q + 1 := ⟨(h + 1 - C).toNat - s - 1, by omega⟩
      rw [hq, firstOf]
      have hn := ih (s + 1) (by omega)
      rw [show (h + 1 - C).toNat - (s + 1) = q by omega] at hn
      cases hp : p s
      · simp only [Bool.false_eq_true, if_false]
        exact hn
      · simp only [if_true, List.map_cons, firstIn, hsh]
        rw [hn]
    · rw [show (h + 1 - C).toNat - s = 0 by omega, firstOf]
      have hall : ∀ x ∈ (((if p s = true then s :: (List.range' (s + 1) c).filter p else (List.range' (s + 1) c).filter p)).map fun t : Nat => (t : Int)), ¬ x + C ≤ h := by
        intro x hx
        obtain ⟨t, t1, rfl⟩ := List.mem_map.1 hx
        have : s ≤ t := by
          split at t1
          · rcases List.mem_cons.1 t1 with rfl | t1
            · exact Nat.le_refl _
            · have := (List.mem_range'_1.1 (List.mem_filter.1 t1).1).1; omega
          · have := (List.mem_range'_1.1 (List.mem_filter.1 t1).1).1; omega
        omega
      revert hall
      generalize ((if p s = true then s :: (List.range' (s + 1) c).filter p else (List.range' (s + 1) c).filter p).map fun t : Nat => (t : Int)) = L
      intro hall
      cases L with
      | nil => rfl
      | cons x xs => rw [firstIn, if_neg (hall x (by simp))]
theorem set_mid {pre : List Block} {x b : Block} {r : List Block} : (pre ++ x :: r).set pre.length b = pre ++ b :: r := by
  rw [List.set_append_right _ _ (Nat.le_refl _), Nat.sub_self]; rfl
theorem extend_eq {l : List Request} (hl : ReqF l) (h : Int) (hh : h ≤ 24) : ∀ (d f : Nat) (pre : List Block), 2097153 + d < f → pre.length + d = l.length → (∀ b ∈ pre, blkOk b = true) →
    spec_l12Extend f l (pre ++ zeros d) pre.length h = some (match ext l h d pre with | some full => (true, full) | none => (false, pre ++ zeros d)) := by
  have h7 := hl.len
  intro d
  induction d with
  | zero =>
    intro f pre hf hd hp
    obtain ⟨f, rfl⟩ : ∃ g, f = g + 1 := ⟨f - 1, by omega⟩
    rw [spec_l12Extend, spec_l12Extend_B, if_pos (by rw [beq_iff_eq]; omega), ext]
    simp [zeros]
  | succ d ih =>
    intro f pre hf hd hp
    obtain ⟨f, rfl⟩ : ∃ g, f = g + 1 := ⟨f - 1, by omega⟩
    have hi : pre.length < l.length := by omega
    have hc := hl.at_ hi
    have hz : zeros (d + 1) = b0 :: zeros d := rfl
    obtain ⟨m, m1, m2, m3⟩ := taken_free (fu := f) (by omega) hl hp b0 hd rfl
    have e : (gd l pre.length r0).Count = cnt l pre := rfl
    rw [spec_l12Extend, spec_l12Extend_B, if_neg (by rw [beq_iff_eq]; omega), idx_gd r0 hi, Option.bind_some, hz, m1, Option.bind_some, e, l8Fits_eq (by omega) m (cnt l pre) (by rw [← e]; omega) (by rw [← e]; omega), Option.bind_some]
    have hfl := fits_len m (cnt l pre)
    obtain ⟨F, hF⟩ : ∃ F, F = fits m (cnt l pre) := ⟨_, rfl⟩
    rw [← hF] at hfl ⊢
    have hFm : ∀ x ∈ F, 0 ≤ x ∧ x + cnt l pre ≤ 24 ∧ apart m (bits ⟨x, cnt l pre⟩) = true := by
      intro x hx
      rw [hF] at hx
      exact (fits_mem (by rw [← e]; omega) (by rw [← e]; omega)).1 hx
    have key : ∀ (fk k : Nat) (x : Block), F.length - k < fk → k ≤ F.length →
        ∃ z x', spec_l12Extend_L1 f l pre.length h (fun list blocks i height => spec_l12Extend f list blocks i height) F fk (pre ++ x :: zeros d) k = some (match firstIn (fun s => ext l h d (pre ++ [⟨s, cnt l pre⟩])) h (cnt l pre) (F.drop k) with | some full => .ret (true, full) | none => .next (pre ++ x' :: zeros d, z)) := by
      intro fk
      induction fk with
      | zero => intro k x hk; omega
      | succ fk ih2 =>
        intro k x hk hkl
        rw [spec_l12Extend_L1]
        by_cases hkF : k < F.length
        · have hm := hFm _ (List.getElem_mem hkF)
          have hw : w64 (F[k] + cnt l pre) = F[k] + cnt l pre := w64_in (by omega) (by omega)
          rw [← List.getElem_cons_drop hkF, firstIn, if_pos (show decide ((k : Int) < (F.length : Int)) = true by simpa using hkF), idx_in hkF, Option.bind_some, idx_gd r0 hi, Option.bind_some, e, hw, Option.bind_some]
          clear hw
          by_cases hle : F[k] + cnt l pre ≤ h
          · have hb : blkOk ⟨F[k], cnt l pre⟩ = true := by
              unfold blkOk
              simp only [Bool.and_eq_true, decide_eq_true_eq]
              omega
            have hix : idx (pre ++ x :: zeros d) (pre.length : Int) = some x := by
              rw [idx_nat, List.getElem?_append_right (Nat.le_refl _), Nat.sub_self]; rfl
            have hrec := ih f (pre ++ [⟨F[k], cnt l pre⟩]) (by omega) (by rw [List.length_append, List.length_singleton]; omega) (snoc_ok hp hb)
            rw [List.append_assoc, List.length_append, List.length_singleton] at hrec
            have hw : w64 ((pre.length : Int) + 1) = ((pre.length + 1 : Nat) : Int) := by rw [w64_in (by omega) (by omega)]; rfl
            rw [if_pos hle, decide_eq_true hle, if_pos rfl, Option.bind_some, Option.bind_some, hix, Option.bind_some, Int.toNat_natCast, e, set_mid, hw]
            clear hw
            rw [show pre ++ ⟨F[k], cnt l pre⟩ :: zeros d = pre ++ ([⟨F[k], cnt l pre⟩] ++ zeros d) from rfl, hrec, Option.bind_some, w64_inc hkF (by omega)]
            obtain ⟨z, x', hz2⟩ := ih2 (k + 1) ⟨F[k], cnt l pre⟩ (by omega) hkF
            cases he : ext l h d (pre ++ [⟨F[k], cnt l pre⟩]) with
            | some full => exact ⟨0, x, rfl⟩
            | none =>
              simp only [Bool.false_eq_true, if_false]
              exact ⟨z, x', hz2⟩
          · rw [if_neg hle, decide_eq_false hle, if_neg Bool.false_ne_true]
            exact ⟨_, x, rfl⟩
        · obtain rfl : k = F.length := by omega
          rw [if_neg (show ¬ decide ((F.length : Int) < (F.length : Int)) = true by simp), Option.bind_some, if_neg Bool.false_ne_true, List.drop_length, firstIn]
          exact ⟨_, x, rfl⟩
    obtain ⟨z, x', hz2⟩ := key f 0 b0 (by omega) (by omega)
    rw [show ((0 : Nat) : Int) = 0 from rfl] at hz2
    rw [hz2, List.drop_zero]
    have hfi := firstIn_fits (fun s => ext l h d (pre ++ [⟨s, cnt l pre⟩])) (fun t => apart m (bits ⟨(t : Int), cnt l pre⟩)) h (cnt l pre) hh (by rw [← e]; omega) (by rw [← e]; omega) (25 - (cnt l pre).toNat) 0 (by omega)
    have hfF : F = ((List.range' 0 (25 - (cnt l pre).toNat)).filter fun t : Nat => apart m (bits ⟨(t : Int), cnt l pre⟩)).map fun t : Nat => (t : Int) := hF
    rw [← hfF, Nat.sub_zero] at hfi
    have hsame : firstOf (fun s => if apart m (bits ⟨(s : Int), cnt l pre⟩) = true then ext l h d (pre ++ [⟨(s : Int), cnt l pre⟩]) else none) (h + 1 - cnt l pre).toNat 0 = firstOf (fun s => if free l pre ⟨(s : Int), cnt l pre⟩ = true then ext l h d (pre ++ [⟨(s : Int), cnt l pre⟩]) else none) (h + 1 - cnt l pre).toNat 0 := by
      refine firstOf_same _ _ fun t _ ht => ?_
      have e' : cnt l pre = (gd l pre.length r0).Count := rfl
      have hm := m3 _ (blk_of hl hi hh (show (t : Int) + cnt l pre ≤ h by omega))
      show (if apart m (bits ⟨(t : Int), cnt l pre⟩) = true then _ else _) = _
      rw [hm]
    rw [hsame] at hfi
    rw [hfi, ext]
    have hix : ∀ y : Block, idx (pre ++ y :: zeros d) (pre.length : Int) = some y := by
      intro y
      rw [idx_nat, List.getElem?_append_right (Nat.le_refl _), Nat.sub_self]; rfl
    cases firstOf (fun s => if free l pre ⟨(s : Int), cnt l pre⟩ = true then ext l h d (pre ++ [⟨(s : Int), cnt l pre⟩]) else none) (h + 1 - cnt l pre).toNat 0 with
    | some full => rfl
    | none =>
      simp only [Option.bind_some, Out.on]
      rw [hix, Option.bind_some, Int.toNat_natCast, set_mid]
      rfl
def exF (l : List Request) : Nat → Int → Option (List Block × Int)
  | 0, _ => none
  | c + 1, h => match ext l h l.length [] with
    | some full => some (full, h)
    | none => exF l c (h + 1)
def bnd (l : List Request) : Int := (bndF l (2 ^ l.length)).1
def ex (l : List Request) : Option (List Block × Int) := exF l (25 - bnd l).toNat (bnd l)
theorem assign_loop {fu : Nat} (hfu : 2097200 ≤ fu) {l : List Request} (hl : ReqF l) : ∀ (fk c : Nat) (h : Int), c < fk → c = (25 - h).toNat → 0 ≤ h → h ≤ 1000 →
    ∃ z, impl_AssignExact_L1 fu l fk h = some (match exF l c h with | some (full, h) => .ret (full, h, true) | none => .next z) := by
  have h7 := hl.len
  intro fk
  induction fk with
  | zero => intro c h hk; omega
  | succ fk ih =>
    intro c h hk hc h0 h1
    rw [impl_AssignExact_L1]
    cases c with
    | zero =>
      rw [if_neg (by simp; omega)]
      exact ⟨_, rfl⟩
    | succ c =>
      obtain ⟨r, r1, r2⟩ := search_eq hl h (by omega) l.length fu [] (by omega) (by simp) (by simp)
      rw [if_pos (by simp; omega), impl_assignedTo, r1, Option.bind_some, Option.bind_some, exF]
      have hw : w64 (h + 1) = h + 1 := w64_in (by omega) (by omega)
      rw [hw]
      clear hw
      obtain ⟨z, hz⟩ := ih c (h + 1) (by omega) (by omega) (by omega) (by omega)
      cases he : ext l h l.length [] with
      | some full =>
        rw [he] at r2
        simp only at r2
        subst r2
        exact ⟨0, rfl⟩
      | none =>
        rw [he] at r2
        simp only at r2
        rw [r2.1, if_neg Bool.false_ne_true]
        exact ⟨z, hz⟩
theorem exact_loop {fu : Nat} (hfu : 2097200 ≤ fu) {l : List Request} (hl : ReqF l) : ∀ (fk c : Nat) (h : Int), c < fk → c = (25 - h).toNat → 0 ≤ h → h ≤ 1000 →
    ∃ z, spec_l12Exact_L1 fu l fk h = some (match exF l c h with | some (full, h) => .ret (full, h, true) | none => .next z) := by
  have h7 := hl.len
  intro fk
  induction fk with
  | zero => intro c h hk; omega
  | succ fk ih =>
    intro c h hk hc h0 h1
    rw [spec_l12Exact_L1]
    cases c with
    | zero =>
      rw [if_neg (by simp; omega)]
      exact ⟨_, rfl⟩
    | succ c =>
      have r1 := extend_eq hl h (by omega) l.length fu [] (by omega) (by simp) (by simp)
      rw [List.length_nil, show ((0 : Nat) : Int) = 0 from rfl, List.nil_append] at r1
      have hmk : mk (({ First := 0, Count := 0 } : Block) : Block) (l.length : Int) = some (zeros l.length) := mk_len (by omega)
      rw [if_pos (by simp; omega), hmk, Option.bind_some, r1, Option.bind_some, exF]
      have hw : w64 (h + 1) = h + 1 := w64_in (by omega) (by omega)
      rw [hw]
      clear hw
      obtain ⟨z, hz⟩ := ih c (h + 1) (by omega) (by omega) (by omega) (by omega)
      cases he : ext l h l.length [] with
      | some full => exact ⟨0, rfl⟩
      | none =>
        simp only [Bool.false_eq_true, if_false]
        exact ⟨z, hz⟩
def exR (l : List Request) : List Block × Int × Bool := match ex l with | some (full, h) => (full, h, true) | none => ([], 0, false)
theorem bnd_in {l : List Request} (hl : ReqF l) : 0 ≤ bnd l ∧ bnd l ≤ 168 := ⟨(bndF_in hl _).1, (bndF_in hl _).2.1⟩
theorem assignExact_eq {fu : Nat} (hfu : 2097200 ≤ fu) (n : Network) (l : List Request) (hB : NetB n) (hl : ReqB l) : impl_AssignExact fu n l = some (if reqsOk n l = true then exR l else ([], 0, false)) := by
  unfold impl_AssignExact
  rw [implReqs_eq (by omega) n l hB hl]
  cases hv : reqsOk n l
  · rfl
  have hF := reqF hv
  have hb := bnd_in hF
  obtain ⟨z, hz⟩ := assign_loop hfu hF fu (25 - bnd l).toNat (bnd l) (by omega) rfl hb.1 (by omega)
  simp only [Option.bind_some, Bool.not_true, Bool.false_eq_true, if_false, if_true]
  rw [implBound_eq (by omega) hF, Option.bind_some]
  show (impl_AssignExact_L1 fu l fu (bnd l)).bind _ = _
  rw [hz]
  unfold exR ex
  cases exF l (25 - bnd l).toNat (bnd l) <;> rfl
theorem l12Exact_eq {fu : Nat} (hfu : 2097200 ≤ fu) {l : List Request} (hF : ReqF l) : spec_l12Exact fu l = some (exR l) := by
  have hb := bnd_in hF
  obtain ⟨z, hz⟩ := exact_loop hfu hF fu (25 - bnd l).toNat (bnd l) (by omega) rfl hb.1 (by omega)
  unfold spec_l12Exact
  rw [specBound_eq (by omega) hF, Option.bind_some]
  show (spec_l12Exact_L1 fu l fu (bnd l)).bind _ = _
  rw [hz]
  unfold exR ex
  cases exF l (25 - bnd l).toNat (bnd l) <;> rfl
end AT

namespace AT
def As (l : List Request) (h : Int) (bl : List Block) : Prop := ∀ i, i < bl.length → (gd bl i b0).Count = (gd l i r0).Count ∧ 0 ≤ (gd bl i b0).First ∧ (gd bl i b0).First + (gd bl i b0).Count ≤ h ∧ ∀ k, k < i → cf (gd l i r0) (gd l k r0) = true → apart (bits (gd bl i b0)) (bits (gd bl k b0)) = true
theorem firstOf_some {α : Type} {g : Nat → Option α} {r : α} : ∀ {c s : Nat}, firstOf g c s = some r → ∃ t, s ≤ t ∧ t < s + c ∧ g t = some r
  | 0, s, h => by rw [firstOf] at h; cases h
  | c + 1, s, h => by
    rw [firstOf] at h
    cases hg : g s with
    | some x => rw [hg] at h; exact ⟨s, Nat.le_refl _, by omega, by rw [hg]; exact h⟩
    | none =>
      rw [hg] at h
      obtain ⟨t, t1, t2, t3⟩ := firstOf_some h
      exact ⟨t, by omega, by omega, t3⟩
theorem firstOf_none {α : Type} {g : Nat → Option α} : ∀ {c s : Nat}, firstOf g c s = none → ∀ t, s ≤ t → t < s + c → g t = none
  | 0, s, _, t, h1, h2 => by omega
  | c + 1, s, h, t, h1, h2 => by
    rw [firstOf] at h
    cases hg : g s with
    | some x => rw [hg] at h; cases h
    | none =>
      rw [hg] at h
      by_cases hts : t = s
      · rw [hts]; exact hg
      · exact firstOf_none h t (by omega) (by omega)
theorem gd_snoc {pre : List Block} {b : Block} : gd (pre ++ [b]) pre.length b0 = b := by
  unfold gd; simp
theorem free_iff {l : List Request} {pre : List Block} {b : Block} : free l pre b = true ↔ ∀ k, k < pre.length → cf (gd l pre.length r0) (gd l k r0) = true → apart (bits b) (bits (gd pre k b0)) = true := by
  unfold free
  rw [Bool.not_eq_true', List.any_eq_false]
  constructor
  · intro h k hk hc
    have := h k (List.mem_range.2 hk)
    unfold clash at this
    rw [hc] at this
    simpa using this
  · intro h k hk
    unfold clash
    cases hc : cf (gd l pre.length r0) (gd l k r0)
    · simp
    · rw [h k (List.mem_range.1 hk) hc]; simp
theorem As.snoc {l : List Request} {h : Int} {pre : List Block} (hA : As l h pre) {b : Block} (hc : b.Count = cnt l pre) (h0 : 0 ≤ b.First) (h1 : b.First + b.Count ≤ h) (hf : free l pre b = true) : As l h (pre ++ [b]) := by
  intro i hi
  rw [List.length_append, List.length_singleton] at hi
  by_cases hil : i < pre.length
  · obtain ⟨a1, a2, a3, a4⟩ := hA i hil
    rw [gd_left b0 hil]
    refine ⟨a1, a2, a3, fun k hk hcf => ?_⟩
    rw [gd_left b0 (show k < pre.length by omega)]
    exact a4 k hk hcf
  · obtain rfl : i = pre.length := by omega
    rw [gd_snoc]
    refine ⟨hc, h0, h1, fun k hk hcf => ?_⟩
    rw [gd_left b0 hk]
    exact free_iff.1 hf k hk hcf
theorem ext_sound {l : List Request} {h : Int} : ∀ (d : Nat) (pre full : List Block), pre.length + d = l.length → As l h pre → ext l h d pre = some full → As l h full ∧ full.length = l.length
  | 0, pre, full, hd, hA, he => by
    rw [ext] at he
    injection he with he
    subst he
    exact ⟨hA, by omega⟩
  | d + 1, pre, full, hd, hA, he => by
    rw [ext] at he
    obtain ⟨t, t1, t2, t3⟩ := firstOf_some he
    split at t3
    · rename_i hf
      exact ext_sound d _ full (by rw [List.length_append, List.length_singleton]; omega) (hA.snoc rfl (by simp) (show (t : Int) + cnt l pre ≤ h by omega) hf) t3
    · cases t3
theorem ext_none {l : List Request} {h : Int} (hl : ReqF l) : ∀ (d : Nat) (pre full : List Block), pre.length + d = l.length → ext l h d pre = none → As l h full → full.length = l.length → full.take pre.length = pre → False
  | 0, pre, full, hd, he, hA, hfl, hp => by rw [ext] at he; cases he
  | d + 1, pre, full, hd, he, hA, hfl, hp => by
    rw [ext] at he
    have hi : pre.length < full.length := by omega
    obtain ⟨a1, a2, a3, a4⟩ := hA pre.length hi
    have hcnt : (gd full pre.length b0).Count = cnt l pre := a1
    obtain ⟨b, hb⟩ : ∃ b, b = gd full pre.length b0 := ⟨_, rfl⟩
    rw [← hb] at a1 a2 a3 a4 hcnt
    have ht := firstOf_none he b.First.toNat (by omega) (by omega)
    have hbe : (⟨(b.First.toNat : Int), cnt l pre⟩ : Block) = b := by
      rw [← hcnt, Int.toNat_of_nonneg a2]
    rw [hbe] at ht
    have hpre : ∀ k, k < pre.length → gd pre k b0 = gd full k b0 := by
      intro k hk
      rw [← hp]
      unfold gd
      rw [List.getElem?_take_of_lt (by simpa using hk)]
    have hf : free l pre b = true := free_iff.2 fun k hk hc => by
      rw [hpre k hk]
      exact a4 k hk hc
    rw [if_pos hf] at ht
    refine ext_none hl d (pre ++ [b]) full (by rw [List.length_append, List.length_singleton]; omega) ht hA hfl ?_
    rw [List.length_append, List.length_singleton, List.take_add_one, hp, hb, gd, List.getElem?_eq_getElem hi]
    rfl
def ind (b : Block) (t : Nat) : Nat := if b.First ≤ (t : Int) ∧ (t : Int) < b.First + b.Count then 1 else 0
def sumR (f : Nat → Nat) : Nat → Nat
  | 0 => 0
  | n + 1 => sumR f n + f n
theorem sumR_ind (b : Block) (h0 : 0 ≤ b.First) (h1 : 1 ≤ b.Count) : ∀ n : Nat, sumR (ind b) n = min n (b.First + b.Count).toNat - min n b.First.toNat
  | 0 => by simp [sumR]
  | n + 1 => by
    rw [sumR, sumR_ind b h0 h1 n, ind]
    split <;> omega
theorem sumR_add (f g : Nat → Nat) : ∀ n, sumR (fun t => f t + g t) n = sumR f n + sumR g n
  | 0 => rfl
  | n + 1 => by rw [sumR, sumR, sumR, sumR_add f g n]; omega
theorem sumR_le {f : Nat → Nat} (h : ∀ t, f t ≤ 1) : ∀ n, sumR f n ≤ n
  | 0 => Nat.le_refl _
  | n + 1 => by
    have := sumR_le h n
    have := h n
    rw [sumR]; omega
def cov (bl : List Block) (s : Nat) : Nat → Nat → Nat
  | 0, _ => 0
  | i + 1, t => cov bl s i t + if bt s i = true then ind (gd bl i b0) t else 0
theorem sumR_zero : ∀ n, sumR (fun _ => 0) n = 0
  | 0 => rfl
  | n + 1 => by rw [sumR, sumR_zero n]
theorem cov_sum {l : List Request} (hl : ReqF l) {h : Int} {bl : List Block} (hA : As l h bl) (hbl : bl.length = l.length) (s : Nat) : ∀ i, i ≤ l.length → (sumR (cov bl s i) h.toNat : Int) = sumTo l s i
  | 0, _ => by
    rw [sumTo]
    have : cov bl s 0 = fun _ => 0 := rfl
    rw [this, sumR_zero]; rfl
  | i + 1, hi => by
    have hr := hl.at_ (show i < l.length by omega)
    obtain ⟨a1, a2, a3, -⟩ := hA i (by omega)
    have : cov bl s (i + 1) = fun t => cov bl s i t + if bt s i = true then ind (gd bl i b0) t else 0 := rfl
    rw [this, sumR_add, sumTo, ← cov_sum hl hA hbl s i (by omega)]
    cases bt s i
    · simp [sumR_zero]
    · simp only [if_true]
      have := sumR_ind (gd bl i b0) a2 (by omega) h.toNat
      have e : (fun t => ind (gd bl i b0) t) = ind (gd bl i b0) := rfl
      rw [e, this]
      omega
theorem blk_at {l : List Request} (hl : ReqF l) {h : Int} (hh : h ≤ 24) {bl : List Block} (hA : As l h bl) (hbl : bl.length = l.length) {i : Nat} (hi : i < l.length) : blkOk (gd bl i b0) = true := by
  have hr := hl.at_ hi
  obtain ⟨a1, a2, a3, -⟩ := hA i (by omega)
  unfold blkOk
  simp only [Bool.and_eq_true, decide_eq_true_eq]
  omega
theorem cov_le {l : List Request} (hl : ReqF l) {h : Int} (hh : h ≤ 24) {bl : List Block} (hA : As l h bl) (hbl : bl.length = l.length) {s : Nat} (hc : clq l s = true) (t : Nat) : ∀ i, i ≤ l.length → cov bl s i t ≤ 1 ∧ (1 ≤ cov bl s i t → ∃ k, k < i ∧ bt s k = true ∧ (gd bl k b0).First ≤ (t : Int) ∧ (t : Int) < (gd bl k b0).First + (gd bl k b0).Count)
  | 0, _ => ⟨Nat.zero_le _, fun h => by rw [cov] at h; omega⟩
  | i + 1, hi => by
    obtain ⟨c1, c2⟩ := cov_le hl hh hA hbl hc t i (by omega)
    rw [cov]
    cases hb : bt s i
    · simp only [Bool.false_eq_true, if_false, Nat.add_zero]
      refine ⟨c1, fun h => ?_⟩
      obtain ⟨k, k1, k2⟩ := c2 h
      exact ⟨k, by omega, k2⟩
    · simp only [if_true]
      unfold ind
      split
      · rename_i hin
        have hz : cov bl s i t = 0 := by
          rcases Nat.lt_or_ge 0 (cov bl s i t) with hq | hq
          · obtain ⟨k, k1, k2, k3, k4⟩ := c2 hq
            exfalso
            have hcf : cf (gd l i r0) (gd l k r0) = true := by
              unfold clq at hc
              rw [Bool.not_eq_true', List.any_eq_false] at hc
              have := hc i (List.mem_range.2 (by omega))
              unfold badI at this
              rw [hb, Bool.true_and, Bool.not_eq_true, List.any_eq_false] at this
              have := this k (List.mem_range.2 k1)
              rw [k2, Bool.true_and, Bool.not_eq_true, Bool.not_eq_false'] at this
              exact this
            obtain ⟨-, -, -, a4⟩ := hA i (by omega)
            have := a4 k k1 hcf
            rw [bits_apart (blk_at hl hh hA hbl (by omega)) (blk_at hl hh hA hbl (by omega)), decide_eq_true_eq] at this
            omega
          · omega
        exact ⟨by omega, fun _ => ⟨i, by omega, hb, hin⟩⟩
      · refine ⟨by omega, fun h => ?_⟩
        obtain ⟨k, k1, k2⟩ := c2 (by omega)
        exact ⟨k, by omega, k2⟩
theorem clique_le {l : List Request} (hl : ReqF l) {h : Int} (h0 : 0 ≤ h) (hh : h ≤ 24) {bl : List Block} (hA : As l h bl) (hbl : bl.length = l.length) {s : Nat} (hc : clq l s = true) : sumTo l s l.length ≤ h := by
  rw [← cov_sum hl hA hbl s l.length (Nat.le_refl _)]
  have := sumR_le (fun t => (cov_le hl hh hA hbl hc t l.length (Nat.le_refl _)).1) h.toNat
  omega
theorem bndF_clq {l : List Request} {P : Int → Prop} (h0 : P 0) (hP : ∀ s, clq l s = true → P (sumTo l s l.length)) : ∀ k, P (bndF l k).1
  | 0 => h0
  | k + 1 => by
    rw [bndF_succ]
    unfold stepB
    split
    · rename_i h; exact hP k h.2
    · exact bndF_clq h0 hP k
theorem bnd_le {l : List Request} (hl : ReqF l) {h : Int} (h0 : 0 ≤ h) (hh : h ≤ 24) {bl : List Block} (hA : As l h bl) (hbl : bl.length = l.length) : bnd l ≤ h :=
  bndF_clq (P := fun x => x ≤ h) h0 (fun s hs => clique_le hl h0 hh hA hbl hs) _
theorem exF_some {l : List Request} {full : List Block} {h' : Int} : ∀ {c : Nat} {h : Int}, exF l c h = some (full, h') → h ≤ h' ∧ h' < h + c ∧ ext l h' l.length [] = some full ∧ ∀ g, h ≤ g → g < h' → ext l g l.length [] = none
  | 0, h, he => by rw [exF] at he; cases he
  | c + 1, h, he => by
    rw [exF] at he
    cases hx : ext l h l.length [] with
    | some x =>
      rw [hx] at he
      simp only [Option.some.injEq, Prod.mk.injEq] at he
      obtain ⟨rfl, rfl⟩ := he
      exact ⟨Int.le_refl _, by omega, hx, fun g h1 h2 => by omega⟩
    | none =>
      rw [hx] at he
      obtain ⟨e1, e2, e3, e4⟩ := exF_some he
      refine ⟨by omega, by omega, e3, fun g h1 h2 => ?_⟩
      by_cases hg : g = h
      · rw [hg]; exact hx
      · exact e4 g (by omega) h2
theorem ex_some {l : List Request} (hl : ReqF l) {full : List Block} {h : Int} (he : ex l = some (full, h)) : As l h full ∧ full.length = l.length ∧ 0 ≤ h ∧ h ≤ 24 ∧ bnd l ≤ h ∧ ∀ g bl, 0 ≤ g → g ≤ 24 → As l g bl → bl.length = l.length → h ≤ g := by
  have hb := bnd_in hl
  obtain ⟨e1, e2, e3, e4⟩ := exF_some he
  obtain ⟨s1, s2⟩ := ext_sound l.length [] full (by simp) (fun i hi => by simp at hi) e3
  refine ⟨s1, s2, by omega, by omega, e1, fun g bl h0 hg hA hbl => ?_⟩
  have hbg := bnd_le hl h0 hg hA hbl
  rcases Int.lt_or_le g h with hlt | hle
  · exact (ext_none hl l.length [] bl (by simp) (e4 g hbg hlt) hA hbl (by simp)).elim
  · exact hle
end AT

namespace AT
theorem planOk_iff {p : Plan} : planOk p = true ↔ netOk p.Network = true ∧ p.Lights.length ≤ 12 ∧ (∀ x ∈ p.Lights, lightOk p.Network x = true) ∧ p.Lights.Pairwise (fun a b => a.Id < b.Id ∧ coll a b = false) := by
  constructor
  · intro h
    have hI := planI h
    have h' := h
    unfold planOk at h
    simp only [Bool.and_eq_true, decide_eq_true_eq, Bool.not_eq_true'] at h
    obtain ⟨h1, h2, h3⟩ := h
    have hb : ∀ j, j < p.Lights.length → planBad p.Network p.Lights j = false := fun j hj => by
      rw [Bool.eq_false_iff]
      intro h7
      rw [Bool.eq_false_iff] at h3
      exact h3 (List.any_eq_true.2 ⟨j, List.mem_range.2 hj, h7⟩)
    refine ⟨h1, h2, fun x hx => ?_, List.pairwise_iff_getElem.2 fun i j hi hj hij => ⟨?_, ?_⟩⟩
    · obtain ⟨i, hi, rfl⟩ := List.mem_iff_getElem.1 hx
      have := hb i hi
      unfold planBad at this
      rw [Bool.or_eq_false_iff, gd_in l0 hi] at this
      simpa using this.1
    · have := hI.ids i j hij hj
      rwa [gd_in l0 hi, gd_in l0 hj] at this
    · have := hb j hj
      unfold planBad at this
      rw [Bool.or_eq_false_iff, Bool.or_eq_false_iff, gd_in l0 hj] at this
      rw [Bool.eq_false_iff]
      intro hc
      have h5 := this.2.2
      rw [Bool.eq_false_iff] at h5
      exact h5 (List.any_eq_true.2 ⟨p.Lights[i], List.mem_iff_getElem.2 ⟨i, by rw [List.length_take]; omega, by rw [List.getElem_take]⟩, hc⟩)
  · rintro ⟨h1, h2, h3, h4⟩
    rw [List.pairwise_iff_getElem] at h4
    unfold planOk
    simp only [Bool.and_eq_true, decide_eq_true_eq, Bool.not_eq_true']
    refine ⟨h1, h2, ?_⟩
    rw [Bool.eq_false_iff]
    intro h
    obtain ⟨j, hj, hb⟩ := List.any_eq_true.1 h
    have hj' := List.mem_range.1 hj
    unfold planBad at hb
    rw [Bool.or_eq_true, Bool.or_eq_true, gd_in l0 hj', h3 _ (List.getElem_mem hj')] at hb
    rcases hb with hb | hb | hb
    · cases hb
    · simp only [Bool.and_eq_true, decide_eq_true_eq] at hb
      rw [gd_in l0 (show j - 1 < p.Lights.length by omega)] at hb
      have := (h4 (j - 1) j (by omega) hj' (by omega)).1
      omega
    · obtain ⟨y, hy, hc⟩ := List.any_eq_true.1 hb
      obtain ⟨i, hi, rfl⟩ := List.mem_iff_getElem.1 hy
      rw [List.length_take] at hi
      rw [List.getElem_take, (h4 i j (by omega) hj' (by omega)).2] at hc
      cases hc
end AT

namespace AT
theorem copyRoute_eq (fu : Nat) (r : Route) (h : r.Fibers.length ≤ 2097152) : impl_copyRoute fu r = some r := by
  unfold impl_copyRoute
  rw [app_nil (by omega)]
  rfl
theorem copy_loop {fu : Nat} (p : Plan) (hl : p.Lights.length ≤ 2097152) (hr : ∀ x ∈ p.Lights, x.Route.Fibers.length ≤ 2097152) : ∀ (fk i : Nat) (m : List Light), i ≤ p.Lights.length → p.Lights.length - i < fk → m.length ≤ i → ∃ z, impl_copyPlan_L1 fu p fk i m = some (z, m ++ p.Lights.drop i) := by
  intro fk
  induction fk with
  | zero => intro i _ _ h; omega
  | succ fk ih =>
    intro i m hi hk hm
    rw [impl_copyPlan_L1]
    by_cases h : i < p.Lights.length
    · have h' : (i : Int) < (p.Lights.length : Int) := by omega
      simp only [h', decide_true, if_true, idx_in h, Option.bind_some, copyRoute_eq fu _ (hr _ (List.getElem_mem h))]
      rw [app_ok (by simp; omega), Option.bind_some, w64_inc h (by omega)]
      obtain ⟨z, hz⟩ := ih (i + 1) (m ++ [p.Lights[i]]) h (by omega) (by simp; omega)
      refine ⟨z, ?_⟩
      rw [hz, List.append_assoc, ← List.getElem_cons_drop h]
      rfl
    · obtain rfl : i = p.Lights.length := by omega
      rw [if_neg (by simp), List.drop_length, List.append_nil]
      exact ⟨_, rfl⟩
theorem copyPlan_eq {fu : Nat} (hfu : 2097153 ≤ fu) (p : Plan) (hB : PlanB p) : impl_copyPlan fu p = some p := by
  obtain ⟨hN, hL, hR⟩ := hB
  unfold impl_copyPlan impl_copyNetwork
  have h1 := hN.1.1
  have h2 := hN.2
  rw [app_nil (by omega), Option.bind_some, app_nil (by omega)]
  obtain ⟨z, hz⟩ := copy_loop (fu := fu) p hL hR fu 0 [] (by omega) (by omega) (by simp)
  rw [show ((0 : Nat) : Int) = 0 from rfl] at hz
  simp only [Option.bind_some, hz, List.nil_append, List.drop_zero]
end AT

namespace AT
def reqsOf (p : Plan) : List Request := p.Lights.map fun x => ⟨x.Route, x.Block.Count⟩
theorem implReqsOf_eq {fu : Nat} (hfu : 2097153 ≤ fu) (p : Plan) (hl : p.Lights.length ≤ 2097152) : impl_requestsOf fu p = some (reqsOf p) := by
  have key : ∀ (fk i : Nat) (o : List Request), i ≤ p.Lights.length → p.Lights.length - i < fk → o.length ≤ i → ∃ z, impl_requestsOf_L1 fu p fk o i = some (o ++ (p.Lights.drop i).map (fun x => ⟨x.Route, x.Block.Count⟩), z) := by
    intro fk
    induction fk with
    | zero => intro i _ _ h; omega
    | succ fk ih =>
      intro i o hi hk ho
      rw [impl_requestsOf_L1]
      by_cases h : i < p.Lights.length
      · rw [if_pos (by simpa using h), idx_in h, Option.bind_some, app_ok (by rw [List.length_singleton]; omega), Option.bind_some, w64_inc h (by omega), ← List.getElem_cons_drop h]
        obtain ⟨z, hz⟩ := ih (i + 1) (o ++ [⟨p.Lights[i].Route, p.Lights[i].Block.Count⟩]) h (by omega) (by rw [List.length_append, List.length_singleton]; omega)
        rw [hz]
        exact ⟨z, by rw [List.append_assoc, List.map_cons]; rfl⟩
      · obtain rfl : i = p.Lights.length := by omega
        rw [if_neg (by simp), List.drop_length]
        exact ⟨(p.Lights.length : Int), by simp⟩
  unfold impl_requestsOf
  obtain ⟨z, hz⟩ := key fu 0 [] (by omega) (by omega) (by simp)
  rw [show ((0 : Nat) : Int) = 0 from rfl] at hz
  rw [hz]
  simp [reqsOf]
theorem specReqsOf_eq {fu : Nat} (hfu : 2097153 ≤ fu) (p : Plan) (hl : p.Lights.length ≤ 2097152) : spec_l21Requests fu p = some (reqsOf p) := by
  have key : ∀ (fk i : Nat) (o : List Request), i ≤ p.Lights.length → p.Lights.length - i < fk → o.length ≤ i → ∃ z, spec_l21Requests_L1 fu p fk o i = some (o ++ (p.Lights.drop i).map (fun x => ⟨x.Route, x.Block.Count⟩), z) := by
    intro fk
    induction fk with
    | zero => intro i _ _ h; omega
    | succ fk ih =>
      intro i o hi hk ho
      rw [spec_l21Requests_L1]
      by_cases h : i < p.Lights.length
      · rw [if_pos (by simpa using h), idx_in h, Option.bind_some, Option.bind_some, app_ok (by rw [List.length_singleton]; omega), Option.bind_some, w64_inc h (by omega), ← List.getElem_cons_drop h]
        obtain ⟨z, hz⟩ := ih (i + 1) (o ++ [⟨p.Lights[i].Route, p.Lights[i].Block.Count⟩]) h (by omega) (by rw [List.length_append, List.length_singleton]; omega)
        rw [hz]
        exact ⟨z, by rw [List.append_assoc, List.map_cons]; rfl⟩
      · obtain rfl : i = p.Lights.length := by omega
        rw [if_neg (by simp), List.drop_length]
        exact ⟨(p.Lights.length : Int), by simp⟩
  unfold spec_l21Requests
  obtain ⟨z, hz⟩ := key fu 0 [] (by omega) (by omega) (by simp)
  rw [show ((0 : Nat) : Int) = 0 from rfl] at hz
  rw [hz]
  simp [reqsOf]
theorem reqsOf_len (p : Plan) : (reqsOf p).length = p.Lights.length := by simp [reqsOf]
theorem reqsOf_B {p : Plan} (hB : PlanB p) : ReqB (reqsOf p) := by
  refine ⟨by rw [reqsOf_len]; exact hB.2.1, fun x hx => ?_⟩
  obtain ⟨y, hy, rfl⟩ := List.mem_map.1 hx
  exact hB.2.2 y hy
theorem reqsOk_of {p : Plan} (hp : planOk p = true) : reqsOk p.Network (reqsOf p) = decide (p.Lights.length ≤ 7) := by
  obtain ⟨h1, h2, h3, h4⟩ := planOk_iff.1 hp
  unfold reqsOk
  rw [h1, reqsOf_len, Bool.true_and]
  have : (reqsOf p).any (reqBad p.Network) = false := by
    rw [List.any_eq_false]
    intro x hx
    obtain ⟨y, hy, rfl⟩ := List.mem_map.1 hx
    have := h3 y hy
    unfold lightOk blkOk at this
    simp only [Bool.and_eq_true, decide_eq_true_eq] at this
    obtain ⟨-, q1, q2, q3, q4⟩ := this
    unfold reqBad
    have c1 : y.Block.Count ≤ 24 := by omega
    simp [q1, q3, c1]
  rw [this, Bool.not_false, Bool.and_true]
def withB (p : Plan) (bl : List Block) : Plan := { Network := p.Network, Lights := p.Lights.zipWith (fun x b => ⟨x.Id, x.Route, b⟩) bl }
theorem gd_zip (L : List Light) (bl : List Block) {i : Nat} (h1 : i < L.length) (h2 : i < bl.length) : gd (L.zipWith (fun x b => (⟨x.Id, x.Route, b⟩ : Light)) bl) i l0 = ⟨(gd L i l0).Id, (gd L i l0).Route, gd bl i b0⟩ := by
  rw [gd_in l0 (by rw [List.length_zipWith]; omega), gd_in l0 h1, gd_in b0 h2, List.getElem_zipWith]
theorem gd_ext {L M : List Light} (h : L.length = M.length) (he : ∀ i, i < L.length → gd L i l0 = gd M i l0) : L = M :=
  List.ext_getElem h fun i h1 h2 => by
    have := he i h1
    rwa [gd_in l0 h1, gd_in l0 h2] at this
theorem gd_set1 {L : List Light} {i j : Nat} {x : Light} (hi : i < L.length) : gd (L.set i x) j l0 = if j = i then x else gd L j l0 := by
  unfold gd
  by_cases h : j = i
  · subst h; rw [List.getElem?_set_self hi, if_pos rfl]; rfl
  · rw [List.getElem?_set_ne (by omega), if_neg h]
theorem blocks_loop (L : List Light) (bl : List Block) (hbl : bl.length = L.length) (hn : L.length ≤ 2097152) (G : Nat → Int → List Light → Option (Int × List Light))
    (hG : ∀ fk (i : Nat) m, m.length = L.length → i < L.length → G (fk + 1) i m = G fk (w64 ((i : Int) + 1)) (m.set i ⟨(gd m i l0).Id, (gd m i l0).Route, gd bl i b0⟩)) (hz : ∀ fk m, m.length = L.length → G (fk + 1) L.length m = some ((L.length : Int), m)) :
    ∀ (fk i : Nat) (m : List Light), i ≤ L.length → L.length - i < fk → m.length = L.length → (∀ j, j < i → gd m j l0 = ⟨(gd L j l0).Id, (gd L j l0).Route, gd bl j b0⟩) → (∀ j, i ≤ j → gd m j l0 = gd L j l0) →
      G fk i m = some ((L.length : Int), L.zipWith (fun x b => ⟨x.Id, x.Route, b⟩) bl) := by
  intro fk
  induction fk with
  | zero => intro i _ _ h; omega
  | succ fk ih =>
    intro i m hi hk hm h1 h2
    by_cases h : i < L.length
    · rw [hG fk i m hm h, w64_inc h (by omega)]
      refine ih (i + 1) _ h (by omega) (by rw [List.length_set]; exact hm) (fun j hj => ?_) (fun j hj => ?_)
      · rw [gd_set1 (by omega)]
        by_cases hji : j = i
        · rw [if_pos hji, h2 i (Nat.le_refl _), hji]
        · rw [if_neg hji]; exact h1 j (by omega)
      · rw [gd_set1 (by omega), if_neg (by omega)]; exact h2 j (by omega)
    · obtain rfl : i = L.length := by omega
      rw [hz fk m hm]
      congr 2
      refine gd_ext (by rw [hm, List.length_zipWith]; omega) fun j hj => ?_
      rw [gd_zip L bl (by omega) (by omega)]
      exact h1 j (by omega)
theorem implCompact_loop {fu : Nat} (p : Plan) (full : List Block) (h : Int) (b : Bool) (hf : full.length = p.Lights.length) (hn : p.Lights.length ≤ 12) (hfu : 2097153 ≤ fu) : impl_CompactPlan_L1 fu (full, h, b) fu 0 p.Lights = some ((p.Lights.length : Int), (withB p full).Lights) := by
  have := blocks_loop p.Lights full hf (by omega) (fun fk i m => impl_CompactPlan_L1 fu (full, h, b) fk i m)
    (fun fk i m hm hi => by
      show impl_CompactPlan_L1 fu (full, h, b) (fk + 1) i m = _
      rw [impl_CompactPlan_L1, if_pos (show decide ((i : Int) < (full.length : Int)) = true by rw [decide_eq_true_eq]; omega), idx_gd b0 (show i < full.length by omega), Option.bind_some, idx_gd l0 (show i < m.length by omega), Option.bind_some, Int.toNat_natCast])
    (fun fk m hm => by
      show impl_CompactPlan_L1 fu (full, h, b) (fk + 1) p.Lights.length m = _
      rw [impl_CompactPlan_L1, if_neg (show ¬ decide (((p.Lights.length : Nat) : Int) < (full.length : Int)) = true by rw [decide_eq_true_eq]; omega)])
    fu 0 p.Lights (by omega) (by omega) rfl (fun j hj => by omega) (fun j _ => rfl)
  exact this
theorem specCompact_loop {fu : Nat} (p : Plan) (full : List Block) (h : Int) (b : Bool) (hf : full.length = p.Lights.length) (hn : p.Lights.length ≤ 12) (hfu : 2097153 ≤ fu) : spec_CompactPlan_L1 fu (full, h, b) fu 0 p.Lights = some ((p.Lights.length : Int), (withB p full).Lights) := by
  have := blocks_loop p.Lights full hf (by omega) (fun fk i m => spec_CompactPlan_L1 fu (full, h, b) fk i m)
    (fun fk i m hm hi => by
      show spec_CompactPlan_L1 fu (full, h, b) (fk + 1) i m = _
      rw [spec_CompactPlan_L1, if_pos (show decide ((i : Int) < (m.length : Int)) = true by rw [decide_eq_true_eq]; omega), idx_gd l0 (show i < m.length by omega), Option.bind_some, idx_gd b0 (show i < full.length by omega), Option.bind_some, Option.bind_some, Int.toNat_natCast])
    (fun fk m hm => by
      show spec_CompactPlan_L1 fu (full, h, b) (fk + 1) p.Lights.length m = _
      rw [spec_CompactPlan_L1, if_neg (show ¬ decide (((p.Lights.length : Nat) : Int) < (m.length : Int)) = true by rw [decide_eq_true_eq]; omega)])
    fu 0 p.Lights (by omega) (by omega) rfl (fun j hj => by omega) (fun j _ => rfl)
  exact this
end AT
