/- Texts, plainly: bytes, parts of a text, numerals. -/
import Derived.Test.YtlemonjnolciiaaGreatDoorAtPX
import Derived.Test.YtlemonjnolciiaaGreatDoorAtL
import Derived.Lib.SplitLaws
import Derived.Lib.Strings
set_option linter.unusedVariables false
set_option linter.unusedSimpArgs false
namespace AT
open Go.Lib (index occAt)
theorem bl_mk (l : List UInt8) : btl (mkB l) = l := by simp [btl, mkB]
theorem mk_bl (s : ByteArray) : mkB (btl s) = s := by cases s; simp [btl, mkB]
theorem bl_inj {s t : ByteArray} (h : btl s = btl t) : s = t := by rw [← mk_bl s, ← mk_bl t, h]
theorem size_mk (l : List UInt8) : (mkB l).size = l.length := by show l.toArray.size = _; simp
theorem toL (s : ByteArray) : s.toList = btl s := Go.Lib.toList_data s
theorem toL_mk (l : List UInt8) : (mkB l).toList = l := by rw [toL, bl_mk]
theorem len_bl (s : ByteArray) : (btl s).length = s.size := by show s.data.toList.length = s.data.size; simp
theorem eqL (s t : ByteArray) : (s.toList == t.toList) = decide (s = t) := by
  rw [toL, toL]
  by_cases h : s = t
  · subst h; simp
  · have : btl s ≠ btl t := fun e => h (bl_inj e)
    rw [decide_eq_false h, beq_eq_false_iff_ne]
    exact this
theorem app_mk (a b : List UInt8) : mkB a ++ mkB b = mkB (a ++ b) := by
  apply bl_inj
  rw [bl_mk]
  simp [btl, mkB]
theorem scat_mk {a b : List UInt8} (h : a.length + b.length ≤ 4611686018427387904) : scat (mkB a) (mkB b) = some (mkB (a ++ b)) := by
  unfold scat
  rw [size_mk, size_mk, if_pos (by omega), app_mk]
theorem ext_mk (l : List UInt8) (a b : Nat) (h : b ≤ l.length) : (mkB l).extract a b = mkB ((l.take b).drop a) := by
  apply bl_inj
  rw [bl_mk]
  simp [btl, mkB, List.extract_eq_take_drop, List.drop_take]
theorem ssub_mk {l : List UInt8} {a b : Nat} (h : a ≤ b) (hb : b ≤ l.length) : ssub (mkB l) (a : Int) (b : Int) = some (mkB ((l.take b).drop a)) := by
  unfold ssub
  rw [size_mk, if_pos ⟨by omega, by omega, by omega⟩, Int.toNat_natCast, Int.toNat_natCast, ext_mk l a b hb]
def consH (b : UInt8) : List (List UInt8) → List (List UInt8)
  | [] => [[b]]
  | h :: t => (b :: h) :: t
def splitL (c : UInt8) : List UInt8 → List (List UInt8)
  | [] => [[]]
  | b :: r => if b = c then [] :: splitL c r else consH b (splitL c r)
theorem ix_eq {b c : UInt8} {r : List UInt8} (h : b = c) : index (b :: r) [c] = 0 := by
  subst h
  rw [index, if_pos (by simp [List.isPrefixOf])]
theorem ix_ne {b c : UInt8} {r : List UInt8} (h : b ≠ c) : index (b :: r) [c] = if index r [c] == -1 then -1 else index r [c] + 1 := by
  rw [index, if_neg (by simp [List.isPrefixOf]; exact fun e => h e.symm)]
theorem splitK_eq (c : UInt8) : ∀ l : List UInt8, Go.Lib.splitK [c] 0 (l.count c) l = splitL c l
  | [] => rfl
  | b :: r => by
    rw [splitL]
    by_cases h : b = c
    · subst h
      rw [if_pos rfl, List.count_cons_self, Go.Lib.splitK, ix_eq rfl, if_neg (by decide)]
      simp only [Int.toNat_zero, Nat.zero_add, List.take_zero, List.length_singleton, List.drop_succ_cons, List.drop_zero]
      rw [splitK_eq b r]
    · rw [if_neg h, List.count_cons_of_ne h, ← splitK_eq c r]
      cases hk : r.count c with
      | zero => rfl
      | succ k =>
        rw [Go.Lib.splitK, Go.Lib.splitK, ix_ne h]
        by_cases hi : index r [c] = -1
        · rw [hi]; rfl
        · have hge := Go.Lib.index_ge r [c]
          have h1 : (index r [c] == -1) = false := beq_eq_false_iff_ne.2 hi
          have h2 : (index r [c] + 1 == -1) = false := beq_eq_false_iff_ne.2 (by omega)
          obtain ⟨i, hi⟩ : ∃ i : Nat, index r [c] = i := ⟨(index r [c]).toNat, by omega⟩
          have h3 : (index r [c] + 1).toNat = i + 1 := by omega
          have h4 : (index r [c]).toNat = i := by omega
          simp only [h1, Bool.false_eq_true, if_false, h2, h3, h4, Nat.add_zero, List.length_singleton, List.take_succ_cons, List.drop_succ_cons, consH]
theorem splitO_mk {l : List UInt8} {c : UInt8} (h : l.length ≤ 4000000000) : splitO (mkB l) (mkB [c]) = some ((splitL c l).map mkB) := by
  unfold splitO
  rw [size_mk, size_mk, if_pos ⟨by omega, by simp⟩]
  congr 1
  have hd := Go.Lib.splitB_data (mkB [c]) 0 (Go.Lib.countB (mkB l) (mkB [c])) (mkB l)
  have e : ∀ s : ByteArray, s.data.toList = btl s := fun s => rfl
  simp only [e, bl_mk] at hd
  have hc : Go.Lib.countB (mkB l) (mkB [c]) = l.count c := by
    show Go.Lib.count (btl (mkB l)) (btl (mkB [c])) = _
    rw [bl_mk, bl_mk, Go.Lib.count_one]
  rw [hc, splitK_eq] at hd
  rw [hc, ← hd, List.map_map]
  conv => lhs; rw [← List.map_id (Go.Lib.splitB _ _ _ _)]
  exact List.map_congr_left fun s _ => (mk_bl s).symm
theorem splitL_len (c : UInt8) : ∀ l : List UInt8, 1 ≤ (splitL c l).length ∧ (splitL c l).length ≤ l.length + 1
  | [] => by simp [splitL]
  | b :: r => by
    have := splitL_len c r
    rw [splitL]
    split
    · simp only [List.length_cons]; omega
    · cases hs : splitL c r with
      | nil => rw [hs] at this; simp at this
      | cons h t => rw [hs] at this; simp only [consH, List.length_cons] at this ⊢; omega
theorem splitL_part (c : UInt8) : ∀ (l : List UInt8), ∀ p ∈ splitL c l, p.length ≤ l.length
  | [], p, hp => by simp [splitL] at hp; subst hp; simp
  | b :: r, p, hp => by
    have ih := splitL_part c r
    rw [splitL] at hp
    split at hp
    · rcases List.mem_cons.1 hp with rfl | hp
      · simp
      · have := ih p hp; simp only [List.length_cons]; omega
    · cases hs : splitL c r with
      | nil => rw [hs] at hp; simp only [consH, List.mem_singleton] at hp; subst hp; simp
      | cons h t =>
        rw [hs] at hp ih
        simp only [consH] at hp
        rcases List.mem_cons.1 hp with rfl | hp
        · have := ih h (List.mem_cons_self ..); simp only [List.length_cons]; omega
        · have := ih p (List.mem_cons_of_mem _ hp); simp only [List.length_cons]; omega
theorem splitL_none {c : UInt8} : ∀ {x : List UInt8}, c ∉ x → splitL c x = [x]
  | [], _ => rfl
  | b :: r, h => by
    have h1 : ¬ b = c := fun e => h (by rw [e]; exact List.mem_cons_self ..)
    rw [splitL, if_neg h1, splitL_none fun e => h (List.mem_cons_of_mem _ e), consH]
theorem splitL_app {c : UInt8} {t : List UInt8} : ∀ {x : List UInt8}, c ∉ x → splitL c (x ++ c :: t) = x :: splitL c t
  | [], _ => by rw [List.nil_append, splitL, if_pos rfl]
  | b :: r, h => by
    have h1 : ¬ b = c := fun e => h (by rw [e]; exact List.mem_cons_self ..)
    rw [List.cons_append, splitL, if_neg h1, splitL_app fun e => h (List.mem_cons_of_mem _ e), consH]
def tailsOf (c : UInt8) (r : List (List UInt8)) : List UInt8 := (r.map (c :: ·)).flatten
theorem splitL_join {c : UInt8} : ∀ {r : List (List UInt8)} {x : List UInt8}, c ∉ x → (∀ p ∈ r, c ∉ p) → splitL c (x ++ tailsOf c r) = x :: r
  | [], x, hx, _ => by simp only [tailsOf, List.map_nil, List.flatten_nil, List.append_nil]; exact splitL_none hx
  | y :: r, x, hx, hr => by
    have e : x ++ tailsOf c (y :: r) = x ++ c :: (y ++ tailsOf c r) := by simp [tailsOf]
    rw [e, splitL_app hx, splitL_join (hr y (List.mem_cons_self ..)) fun p hp => hr p (List.mem_cons_of_mem _ hp)]
theorem cutO_mk {l m : List UInt8} (h : l.length ≤ 4000000000) : cutO (mkB l) (mkB m) = some (mkB (Go.Lib.cut l m).1, mkB (Go.Lib.cut l m).2.1, (Go.Lib.cut l m).2.2) := by
  unfold cutO
  rw [size_mk, if_pos (by omega), bl_mk, bl_mk]
theorem cut_len (l m : List UInt8) : (Go.Lib.cut l m).1.length ≤ l.length ∧ (Go.Lib.cut l m).2.1.length ≤ l.length := by
  unfold Go.Lib.cut
  split
  · simp only [List.length_take, List.length_drop]; omega
  · simp
theorem cut_at {l m : List UInt8} {i : Nat} (h : index l m = i) : Go.Lib.cut l m = (l.take i, l.drop (i + m.length), true) := by
  unfold Go.Lib.cut
  rw [h, if_pos (by omega), Int.toNat_natCast]
theorem cut_no {l m : List UInt8} (h : index l m = -1) : Go.Lib.cut l m = (l, [], false) := by
  unfold Go.Lib.cut
  rw [h, if_neg (by decide)]
theorem ix_app {c : UInt8} {t : List UInt8} : ∀ {x : List UInt8}, c ∉ x → index (x ++ c :: t) [c] = (x.length : Int)
  | [], _ => ix_eq rfl
  | b :: r, h => by
    have h1 : b ≠ c := fun e => h (by rw [e]; exact List.mem_cons_self ..)
    rw [List.cons_append, ix_ne h1, ix_app fun e => h (List.mem_cons_of_mem _ e), if_neg (by rw [beq_iff_eq]; omega)]
    simp
theorem cut_one {c : UInt8} {x t : List UInt8} (h : c ∉ x) : Go.Lib.cut (x ++ c :: t) [c] = (x, t, true) := by
  rw [cut_at (ix_app h)]
  simp
open Go.Lib (decDigits itoa decFrom decNat digitVal atoi)
theorem dig_val {d : Nat} (h : d < 10) : digitVal (UInt8.ofNat (48 + d)) = some d := by
  unfold digitVal
  have e : (UInt8.ofNat (48 + d)).toNat = 48 + d := by simp [UInt8.toNat_ofNat']; omega
  rw [e, if_pos (by omega)]
  simp
theorem decFrom_app : ∀ (l : List UInt8) (acc n : Nat) {d : Nat}, decFrom acc l = some n → d < 10 → decFrom acc (l ++ [UInt8.ofNat (48 + d)]) = some (n * 10 + d)
  | [], acc, n, d, h, hd => by
    simp only [decFrom, Option.some.injEq] at h
    subst h
    rw [List.nil_append, decFrom, dig_val hd]
    rfl
  | b :: r, acc, n, d, h, hd => by
    rw [decFrom] at h
    rw [List.cons_append, decFrom]
    cases hb : digitVal b with
    | none => rw [hb] at h; cases h
    | some e =>
      rw [hb] at h
      exact decFrom_app r _ n h hd
theorem dec_back : ∀ (k u : Nat), u < 10 ^ (k + 1) → decFrom 0 (decDigits u) = some u ∧ (decDigits u).length ≤ k + 1 ∧ 1 ≤ (decDigits u).length ∧ ∀ b ∈ decDigits u, 48 ≤ b.toNat ∧ b.toNat ≤ 57
  | k, u, h => by
    by_cases h10 : u < 10
    · rw [decDigits, dif_pos h10]
      have e : (UInt8.ofNat (48 + u)).toNat = 48 + u := by simp [UInt8.toNat_ofNat']; omega
      refine ⟨?_, by simp, by simp, fun b hb => ?_⟩
      · have := decFrom_app [] 0 0 (d := u) rfl h10
        simpa using this
      · simp only [List.mem_singleton] at hb
        subst hb
        omega
    · obtain ⟨k, rfl⟩ : ∃ j, k = j + 1 := by
        cases k with
        | zero => simp at h; omega
        | succ j => exact ⟨j, rfl⟩
      have hk : u / 10 < 10 ^ (k + 1) := by rw [Nat.pow_succ] at h; exact Nat.div_lt_of_lt_mul (by rw [Nat.mul_comm]; exact h)
      obtain ⟨h1, h2, h3, h4⟩ := dec_back k (u / 10) hk
      rw [decDigits, dif_neg h10]
      refine ⟨?_, by simp; omega, by simp, fun b hb => ?_⟩
      · rw [decFrom_app _ 0 (u / 10) h1 (Nat.mod_lt _ (by decide))]
        congr 1
        omega
      · rcases List.mem_append.1 hb with hb | hb
        · exact h4 b hb
        · simp only [List.mem_singleton] at hb
          have e : (UInt8.ofNat (48 + u % 10)).toNat = 48 + u % 10 := by simp [UInt8.toNat_ofNat']; omega
          subst hb
          omega
theorem atoi_dig {l : List UInt8} {u : Nat} (h1 : 1 ≤ l.length) (h2 : decFrom 0 l = some u) (h3 : ∀ b ∈ l, 48 ≤ b.toNat ∧ b.toNat ≤ 57) : atoi l = some (u : Int) := by
  cases l with
  | nil => simp at h1
  | cons b r =>
    have hb := h3 b (List.mem_cons_self ..)
    have e1 : (b == 45) = false := by rw [beq_eq_false_iff_ne]; intro e; rw [e] at hb; simp at hb
    have e2 : (b == 43) = false := by rw [beq_eq_false_iff_ne]; intro e; rw [e] at hb; simp at hb
    unfold atoi decNat
    dsimp only
    rw [e1, e2, if_neg (by decide), if_neg (by decide), if_neg (by simp), h2]
    rfl
def NumB (n : Int) : Prop := 0 ≤ n ∧ n ≤ 999999
theorem itoa_facts {n : Int} (h : NumB n) : atoi (itoa n) = some n ∧ (itoa n).length ≤ 6 ∧ 1 ≤ (itoa n).length ∧ ∀ b ∈ itoa n, 48 ≤ b.toNat ∧ b.toNat ≤ 57 := by
  obtain ⟨h0, h1⟩ := h
  obtain ⟨u, rfl⟩ : ∃ u : Nat, n = u := ⟨n.toNat, by omega⟩
  have e : itoa (u : Int) = decDigits u := by unfold itoa; rw [if_neg (by omega), Int.toNat_natCast]
  obtain ⟨a1, a2, a3, a4⟩ := dec_back 5 u (by omega)
  rw [e]
  exact ⟨atoi_dig a3 a1 a4, a2, a3, a4⟩
theorem itoa_not {n : Int} (h : NumB n) {c : UInt8} (hc : ¬ (48 ≤ c.toNat ∧ c.toNat ≤ 57)) : c ∉ itoa n := fun hm => hc ((itoa_facts h).2.2.2 c hm)
theorem itoaO_mk {n : Int} (h : NumB n) : itoaO n = some (mkB (itoa n)) := by
  unfold itoaO
  obtain ⟨h0, h1⟩ := h
  rw [if_pos (by omega)]
theorem parse_back {n : Int} (h : NumB n) : parseO (mkB (itoa n)) = some (n, true) := by
  obtain ⟨h1, h2, -, -⟩ := itoa_facts h
  obtain ⟨h3, h4⟩ := h
  unfold parseO parseI
  rw [size_mk, if_neg (by omega), bl_mk, h1]
  simp only
  rw [if_pos ⟨by omega, trivial⟩]
theorem parse_ex (s : ByteArray) : ∃ n b, parseO s = some (n, b) ∧ -999999 ≤ n ∧ n ≤ 999999 := by
  unfold parseO parseI
  split
  · exact ⟨_, _, rfl, by decide, by decide⟩
  · split
    · exact ⟨_, _, rfl, by decide, by decide⟩
    · split
      · rename_i h
        exact ⟨_, _, rfl, h.1.1, h.1.2⟩
      · exact ⟨_, _, rfl, by decide, by decide⟩
end AT
