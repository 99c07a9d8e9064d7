/- What the exact search finds: an assignment of the smallest height. -/
import Derived.Test.YtmokfdffnijbbaaGreatQExt
import Derived.Test.YtmokfdffnijbbaaGreatOk
import Derived.Test.YtmokfdffnijbbaaGreatAtL
set_option linter.unusedSimpArgs false
set_option linter.unusedVariables false
namespace AT
def As (l : List Request) (h : Int) (bl : List Block) : Prop := ∀ i, i < bl.length → (gd bl i b0).Count = (gd l i r0).Count ∧ 0 ≤ (gd bl i b0).First ∧ (gd bl i b0).First + (gd bl i b0).Count ≤ h ∧ ∀ k, k < i → cf (gd l i r0) (gd l k r0) = true → apart (bits (gd bl i b0)) (bits (gd bl k b0)) = true
theorem firstOf_some {α : Type} {g : Nat → Option α} {r : α} : ∀ {c s : Nat}, firstOf g c s = some r → ∃ t, s ≤ t ∧ t < s + c ∧ g t = some r
  | 0, s, h => by rw [firstOf] at h; cases h
  | c + 1, s, h => by
    rw [firstOf] at h
    cases hg : g s with
    | some x => rw [hg] at h; exact ⟨s, Nat.le_refl _, by omega, by rw [hg]; exact h⟩
    | none =>
      rw [hg] at h
      obtain ⟨t, t1, t2, t3⟩ := firstOf_some h
      exact ⟨t, by omega, by omega, t3⟩
theorem firstOf_none {α : Type} {g : Nat → Option α} : ∀ {c s : Nat}, firstOf g c s = none → ∀ t, s ≤ t → t < s + c → g t = none
  | 0, s, _, t, h1, h2 => by omega
  | c + 1, s, h, t, h1, h2 => by
    rw [firstOf] at h
    cases hg : g s with
    | some x => rw [hg] at h; cases h
    | none =>
      rw [hg] at h
      by_cases hts : t = s
      · rw [hts]; exact hg
      · exact firstOf_none h t (by omega) (by omega)
theorem gd_snoc {pre : List Block} {b : Block} : gd (pre ++ [b]) pre.length b0 = b := by
  unfold gd; simp
theorem free_iff {l : List Request} {pre : List Block} {b : Block} : free l pre b = true ↔ ∀ k, k < pre.length → cf (gd l pre.length r0) (gd l k r0) = true → apart (bits b) (bits (gd pre k b0)) = true := by
  unfold free
  rw [Bool.not_eq_true', List.any_eq_false]
  constructor
  · intro h k hk hc
    have := h k (List.mem_range.2 hk)
    unfold clash at this
    rw [hc] at this
    simpa using this
  · intro h k hk
    unfold clash
    cases hc : cf (gd l pre.length r0) (gd l k r0)
    · simp
    · rw [h k (List.mem_range.1 hk) hc]; simp
theorem As.snoc {l : List Request} {h : Int} {pre : List Block} (hA : As l h pre) {b : Block} (hc : b.Count = cnt l pre) (h0 : 0 ≤ b.First) (h1 : b.First + b.Count ≤ h) (hf : free l pre b = true) : As l h (pre ++ [b]) := by
  intro i hi
  rw [List.length_append, List.length_singleton] at hi
  by_cases hil : i < pre.length
  · obtain ⟨a1, a2, a3, a4⟩ := hA i hil
    rw [gd_left b0 hil]
    refine ⟨a1, a2, a3, fun k hk hcf => ?_⟩
    rw [gd_left b0 (show k < pre.length by omega)]
    exact a4 k hk hcf
  · obtain rfl : i = pre.length := by omega
    rw [gd_snoc]
    refine ⟨hc, h0, h1, fun k hk hcf => ?_⟩
    rw [gd_left b0 hk]
    exact free_iff.1 hf k hk hcf
theorem ext_sound {l : List Request} {h : Int} : ∀ (d : Nat) (pre full : List Block), pre.length + d = l.length → As l h pre → ext l h d pre = some full → As l h full ∧ full.length = l.length
  | 0, pre, full, hd, hA, he => by
    rw [ext] at he
    injection he with he
    subst he
    exact ⟨hA, by omega⟩
  | d + 1, pre, full, hd, hA, he => by
    rw [ext] at he
    obtain ⟨t, t1, t2, t3⟩ := firstOf_some he
    split at t3
    · rename_i hf
      exact ext_sound d _ full (by rw [List.length_append, List.length_singleton]; omega) (hA.snoc rfl (by simp) (show (t : Int) + cnt l pre ≤ h by omega) hf) t3
    · cases t3
theorem ext_none {l : List Request} {h : Int} (hl : ReqF l) : ∀ (d : Nat) (pre full : List Block), pre.length + d = l.length → ext l h d pre = none → As l h full → full.length = l.length → full.take pre.length = pre → False
  | 0, pre, full, hd, he, hA, hfl, hp => by rw [ext] at he; cases he
  | d + 1, pre, full, hd, he, hA, hfl, hp => by
    rw [ext] at he
    have hi : pre.length < full.length := by omega
    obtain ⟨a1, a2, a3, a4⟩ := hA pre.length hi
    have hcnt : (gd full pre.length b0).Count = cnt l pre := a1
    obtain ⟨b, hb⟩ : ∃ b, b = gd full pre.length b0 := ⟨_, rfl⟩
    rw [← hb] at a1 a2 a3 a4 hcnt
    have ht := firstOf_none he b.First.toNat (by omega) (by omega)
    have hbe : (⟨(b.First.toNat : Int), cnt l pre⟩ : Block) = b := by
      rw [← hcnt, Int.toNat_of_nonneg a2]
    rw [hbe] at ht
    have hpre : ∀ k, k < pre.length → gd pre k b0 = gd full k b0 := by
      intro k hk
      rw [← hp]
      unfold gd
      rw [List.getElem?_take_of_lt (by simpa using hk)]
    have hf : free l pre b = true := free_iff.2 fun k hk hc => by
      rw [hpre k hk]
      exact a4 k hk hc
    rw [if_pos hf] at ht
    refine ext_none hl d (pre ++ [b]) full (by rw [List.length_append, List.length_singleton]; omega) ht hA hfl ?_
    rw [List.length_append, List.length_singleton, List.take_add_one, hp, hb, gd, List.getElem?_eq_getElem hi]
    rfl
def ind (b : Block) (t : Nat) : Nat := if b.First ≤ (t : Int) ∧ (t : Int) < b.First + b.Count then 1 else 0
def sumR (f : Nat → Nat) : Nat → Nat
  | 0 => 0
  | n + 1 => sumR f n + f n
theorem sumR_ind (b : Block) (h0 : 0 ≤ b.First) (h1 : 1 ≤ b.Count) : ∀ n : Nat, sumR (ind b) n = min n (b.First + b.Count).toNat - min n b.First.toNat
  | 0 => by simp [sumR]
  | n + 1 => by
    rw [sumR, sumR_ind b h0 h1 n, ind]
    split <;> omega
theorem sumR_add (f g : Nat → Nat) : ∀ n, sumR (fun t => f t + g t) n = sumR f n + sumR g n
  | 0 => rfl
  | n + 1 => by rw [sumR, sumR, sumR, sumR_add f g n]; omega
theorem sumR_le {f : Nat → Nat} (h : ∀ t, f t ≤ 1) : ∀ n, sumR f n ≤ n
  | 0 => Nat.le_refl _
  | n + 1 => by
    have := sumR_le h n
    have := h n
    rw [sumR]; omega
def cov (bl : List Block) (s : Nat) : Nat → Nat → Nat
  | 0, _ => 0
  | i + 1, t => cov bl s i t + if bt s i = true then ind (gd bl i b0) t else 0
theorem sumR_zero : ∀ n, sumR (fun _ => 0) n = 0
  | 0 => rfl
  | n + 1 => by rw [sumR, sumR_zero n]
theorem cov_sum {l : List Request} (hl : ReqF l) {h : Int} {bl : List Block} (hA : As l h bl) (hbl : bl.length = l.length) (s : Nat) : ∀ i, i ≤ l.length → (sumR (cov bl s i) h.toNat : Int) = sumTo l s i
  | 0, _ => by
    rw [sumTo]
    have : cov bl s 0 = fun _ => 0 := rfl
    rw [this, sumR_zero]; rfl
  | i + 1, hi => by
    have hr := hl.at_ (show i < l.length by omega)
    obtain ⟨a1, a2, a3, -⟩ := hA i (by omega)
    have : cov bl s (i + 1) = fun t => cov bl s i t + if bt s i = true then ind (gd bl i b0) t else 0 := rfl
    rw [this, sumR_add, sumTo, ← cov_sum hl hA hbl s i (by omega)]
    cases bt s i
    · simp [sumR_zero]
    · simp only [if_true]
      have := sumR_ind (gd bl i b0) a2 (by omega) h.toNat
      have e : (fun t => ind (gd bl i b0) t) = ind (gd bl i b0) := rfl
      rw [e, this]
      omega
theorem blk_at {l : List Request} (hl : ReqF l) {h : Int} (hh : h ≤ 24) {bl : List Block} (hA : As l h bl) (hbl : bl.length = l.length) {i : Nat} (hi : i < l.length) : blkOk (gd bl i b0) = true := by
  have hr := hl.at_ hi
  obtain ⟨a1, a2, a3, -⟩ := hA i (by omega)
  unfold blkOk
  simp only [Bool.and_eq_true, decide_eq_true_eq]
  omega
theorem cov_le {l : List Request} (hl : ReqF l) {h : Int} (hh : h ≤ 24) {bl : List Block} (hA : As l h bl) (hbl : bl.length = l.length) {s : Nat} (hc : clq l s = true) (t : Nat) : ∀ i, i ≤ l.length → cov bl s i t ≤ 1 ∧ (1 ≤ cov bl s i t → ∃ k, k < i ∧ bt s k = true ∧ (gd bl k b0).First ≤ (t : Int) ∧ (t : Int) < (gd bl k b0).First + (gd bl k b0).Count)
  | 0, _ => ⟨Nat.zero_le _, fun h => by rw [cov] at h; omega⟩
  | i + 1, hi => by
    obtain ⟨c1, c2⟩ := cov_le hl hh hA hbl hc t i (by omega)
    rw [cov]
    cases hb : bt s i
    · simp only [Bool.false_eq_true, if_false, Nat.add_zero]
      refine ⟨c1, fun h => ?_⟩
      obtain ⟨k, k1, k2⟩ := c2 h
      exact ⟨k, by omega, k2⟩
    · simp only [if_true]
      unfold ind
      split
      · rename_i hin
        have hz : cov bl s i t = 0 := by
          rcases Nat.lt_or_ge 0 (cov bl s i t) with hq | hq
          · obtain ⟨k, k1, k2, k3, k4⟩ := c2 hq
            exfalso
            have hcf : cf (gd l i r0) (gd l k r0) = true := by
              unfold clq at hc
              rw [Bool.not_eq_true', List.any_eq_false] at hc
              have := hc i (List.mem_range.2 (by omega))
              unfold badI at this
              rw [hb, Bool.true_and, Bool.not_eq_true, List.any_eq_false] at this
              have := this k (List.mem_range.2 k1)
              rw [k2, Bool.true_and, Bool.not_eq_true, Bool.not_eq_false'] at this
              exact this
            obtain ⟨-, -, -, a4⟩ := hA i (by omega)
            have := a4 k k1 hcf
            rw [bits_apart (blk_at hl hh hA hbl (by omega)) (blk_at hl hh hA hbl (by omega)), decide_eq_true_eq] at this
            omega
          · omega
        exact ⟨by omega, fun _ => ⟨i, by omega, hb, hin⟩⟩
      · refine ⟨by omega, fun h => ?_⟩
        obtain ⟨k, k1, k2⟩ := c2 (by omega)
        exact ⟨k, by omega, k2⟩
theorem clique_le {l : List Request} (hl : ReqF l) {h : Int} (h0 : 0 ≤ h) (hh : h ≤ 24) {bl : List Block} (hA : As l h bl) (hbl : bl.length = l.length) {s : Nat} (hc : clq l s = true) : sumTo l s l.length ≤ h := by
  rw [← cov_sum hl hA hbl s l.length (Nat.le_refl _)]
  have := sumR_le (fun t => (cov_le hl hh hA hbl hc t l.length (Nat.le_refl _)).1) h.toNat
  omega
theorem bndF_clq {l : List Request} {P : Int → Prop} (h0 : P 0) (hP : ∀ s, clq l s = true → P (sumTo l s l.length)) : ∀ k, P (bndF l k).1
  | 0 => h0
  | k + 1 => by
    rw [bndF_succ]
    unfold stepB
    split
    · rename_i h; exact hP k h.2
    · exact bndF_clq h0 hP k
theorem bnd_le {l : List Request} (hl : ReqF l) {h : Int} (h0 : 0 ≤ h) (hh : h ≤ 24) {bl : List Block} (hA : As l h bl) (hbl : bl.length = l.length) : bnd l ≤ h :=
  bndF_clq (P := fun x => x ≤ h) h0 (fun s hs => clique_le hl h0 hh hA hbl hs) _
theorem exF_some {l : List Request} {full : List Block} {h' : Int} : ∀ {c : Nat} {h : Int}, exF l c h = some (full, h') → h ≤ h' ∧ h' < h + c ∧ ext l h' l.length [] = some full ∧ ∀ g, h ≤ g → g < h' → ext l g l.length [] = none
  | 0, h, he => by rw [exF] at he; cases he
  | c + 1, h, he => by
    rw [exF] at he
    cases hx : ext l h l.length [] with
    | some x =>
      rw [hx] at he
      simp only [Option.some.injEq, Prod.mk.injEq] at he
      obtain ⟨rfl, rfl⟩ := he
      exact ⟨Int.le_refl _, by omega, hx, fun g h1 h2 => by omega⟩
    | none =>
      rw [hx] at he
      obtain ⟨e1, e2, e3, e4⟩ := exF_some he
      refine ⟨by omega, by omega, e3, fun g h1 h2 => ?_⟩
      by_cases hg : g = h
      · rw [hg]; exact hx
      · exact e4 g (by omega) h2
def hgt (bl : List Block) : Int := bl.foldl (fun m b => gmax m (b.First + b.Count)) 0
theorem hgt_from : ∀ (bl : List Block) (m : Int), m ≤ bl.foldl (fun m b => gmax m (b.First + b.Count)) m ∧ (∀ b ∈ bl, b.First + b.Count ≤ bl.foldl (fun m b => gmax m (b.First + b.Count)) m) ∧ (∀ h, m ≤ h → (∀ b ∈ bl, b.First + b.Count ≤ h) → bl.foldl (fun m b => gmax m (b.First + b.Count)) m ≤ h)
  | [], m => ⟨Int.le_refl _, fun b hb => (by cases hb), fun h hm _ => hm⟩
  | x :: bl, m => by
    obtain ⟨a1, a2, a3⟩ := hgt_from bl (gmax m (x.First + x.Count))
    have g1 : m ≤ gmax m (x.First + x.Count) ∧ x.First + x.Count ≤ gmax m (x.First + x.Count) ∧ ∀ h, m ≤ h → x.First + x.Count ≤ h → gmax m (x.First + x.Count) ≤ h := by
      unfold gmax
      split
      · exact ⟨by omega, by omega, fun h _ h2 => h2⟩
      · exact ⟨by omega, by omega, fun h h1 _ => h1⟩
    rw [List.foldl_cons]
    refine ⟨by omega, fun b hb => ?_, fun h hm hb => ?_⟩
    · rcases List.mem_cons.1 hb with rfl | hb
      · omega
      · exact a2 b hb
    · exact a3 h (g1.2.2 h hm (hb x (by simp))) fun b hb' => hb b (by simp [hb'])
theorem hgt_0 (bl : List Block) : 0 ≤ hgt bl := (hgt_from bl 0).1
theorem hgt_ge {bl : List Block} {i : Nat} (hi : i < bl.length) : (gd bl i b0).First + (gd bl i b0).Count ≤ hgt bl := by
  rw [gd_in b0 hi]; exact (hgt_from bl 0).2.1 _ (List.getElem_mem hi)
theorem hgt_le {bl : List Block} {h : Int} (h0 : 0 ≤ h) (hb : ∀ i, i < bl.length → (gd bl i b0).First + (gd bl i b0).Count ≤ h) : hgt bl ≤ h := by
  refine (hgt_from bl 0).2.2 h h0 fun b hb' => ?_
  obtain ⟨i, hi, rfl⟩ := List.mem_iff_getElem.1 hb'
  have := hb i hi
  rwa [gd_in b0 hi] at this
theorem As.hgt {l : List Request} {h : Int} {bl : List Block} (hA : As l h bl) : As l (AT.hgt bl) bl := fun i hi => by
  obtain ⟨a1, a2, a3, a4⟩ := hA i hi
  exact ⟨a1, a2, hgt_ge hi, a4⟩
theorem As.le {l : List Request} {h : Int} {bl : List Block} (h0 : 0 ≤ h) (hA : As l h bl) : AT.hgt bl ≤ h := hgt_le h0 fun i hi => (hA i hi).2.2.1
theorem ex_some {l : List Request} (hl : ReqF l) {full : List Block} {h : Int} (he : ex l = some (full, h)) : As l h full ∧ full.length = l.length ∧ 0 ≤ h ∧ h ≤ 24 ∧ bnd l ≤ h ∧ ∀ g bl, 0 ≤ g → g ≤ 24 → As l g bl → bl.length = l.length → h ≤ g := by
  have hb := bnd_in hl
  obtain ⟨e1, e2, e3, e4⟩ := exF_some he
  obtain ⟨s1, s2⟩ := ext_sound l.length [] full (by simp) (fun i hi => by simp at hi) e3
  refine ⟨s1, s2, by omega, by omega, e1, fun g bl h0 hg hA hbl => ?_⟩
  have hbg := bnd_le hl h0 hg hA hbl
  rcases Int.lt_or_le g h with hlt | hle
  · exact (ext_none hl l.length [] bl (by simp) (e4 g hbg hlt) hA hbl (by simp)).elim
  · exact hle
theorem ex_hgt {l : List Request} (hl : ReqF l) {full : List Block} {h : Int} (he : ex l = some (full, h)) : hgt full = h := by
  obtain ⟨a1, a2, a3, a4, a5, a6⟩ := ex_some hl he
  have h1 := a1.le a3
  have h2 := a6 (hgt full) full (hgt_0 _) (by omega) a1.hgt a2
  omega
end AT

namespace AT
structure GI (l : List Request) (bl : List Block) (dn : List Bool) : Prop where
  lb : bl.length = l.length
  ld : dn.length = l.length
  on_ : ∀ k, k < l.length → gd dn k false = true → blkOk (gd bl k b0) = true ∧ (gd bl k b0).Count = (gd l k r0).Count
  off : ∀ k, k < l.length → gd dn k false = false → gd bl k b0 = b0
  ap : ∀ i k, i < l.length → k < l.length → i ≠ k → gd dn i false = true → gd dn k false = true → cf (gd l i r0) (gd l k r0) = true → apart (bits (gd bl i b0)) (bits (gd bl k b0)) = true
theorem GI.ok {l : List Request} {bl : List Block} {dn : List Bool} (h : GI l bl dn) : ∀ b ∈ bl, blkOk b = true ∨ b = b0 := by
  intro b hb
  obtain ⟨k, hk, rfl⟩ := List.mem_iff_getElem.1 hb
  have hk' : k < l.length := by rw [← h.lb]; exact hk
  rw [← gd_in b0 hk]
  cases hd : gd dn k false
  · exact .inr (h.off k hk' hd)
  · exact .inl (h.on_ k hk' hd).1
def freeT (l : List Request) (bl : List Block) (i : Nat) (b : Block) : Bool := !(List.range l.length).any (takenP l bl i (bits b))
def fitF (l : List Request) (bl : List Block) (i : Nat) : Option Nat := firstOf (fun s => if freeT l bl i ⟨(s : Int), (gd l i r0).Count⟩ = true then some s else none) (25 - (gd l i r0).Count).toNat 0
def gre (l : List Request) : List Int → List Block → Option (List Block)
  | [], bl => some bl
  | e :: es, bl => match fitF l bl e.toNat with
    | none => none
    | some s => gre l es (bl.set e.toNat ⟨(s : Int), (gd l e.toNat r0).Count⟩)
theorem gd_setB {α : Type} {l : List α} {i j : Nat} {x d : α} (hi : i < l.length) : gd (l.set i x) j d = if j = i then x else gd l j d := by
  unfold gd
  by_cases h : j = i
  · subst h; rw [List.getElem?_set_self hi, if_pos rfl]; rfl
  · rw [List.getElem?_set_ne (by omega), if_neg h]
theorem fitF_some {l : List Request} {bl : List Block} {i s : Nat} (h : fitF l bl i = some s) : (s : Int) + (gd l i r0).Count ≤ 24 ∧ freeT l bl i ⟨(s : Int), (gd l i r0).Count⟩ = true := by
  obtain ⟨t, t1, t2, t3⟩ := firstOf_some h
  split at t3
  · rename_i hf
    injection t3 with t3
    subst t3
    exact ⟨by omega, hf⟩
  · cases t3
theorem GI.set {l : List Request} (hl : ReqF l) {bl : List Block} {dn : List Bool} (h : GI l bl dn) {i s : Nat} (hi : i < l.length) (hd : gd dn i false = false) (hs : fitF l bl i = some s) : GI l (bl.set i ⟨(s : Int), (gd l i r0).Count⟩) (dn.set i true) := by
  obtain ⟨f1, f2⟩ := fitF_some hs
  have hr := hl.at_ hi
  have hib : i < bl.length := by rw [h.lb]; exact hi
  have hid : i < dn.length := by rw [h.ld]; exact hi
  have hb : blkOk ⟨(s : Int), (gd l i r0).Count⟩ = true := by
    unfold blkOk
    simp only [Bool.and_eq_true, decide_eq_true_eq]
    omega
  have hfree : ∀ k, k < l.length → k ≠ i → gd dn k false = true → cf (gd l i r0) (gd l k r0) = true → apart (bits ⟨(s : Int), (gd l i r0).Count⟩) (bits (gd bl k b0)) = true := by
    intro k hk hki hdk hc
    unfold freeT at f2
    rw [Bool.not_eq_true', List.any_eq_false] at f2
    have := f2 k (List.mem_range.2 hk)
    have hbk := (h.on_ k hk hdk).1
    have hcnt : (gd bl k b0).Count > 0 := by
      unfold blkOk at hbk; simp only [Bool.and_eq_true, decide_eq_true_eq] at hbk; omega
    have hne : (k != i) = true := by rw [bne_iff_ne]; exact hki
    unfold takenP at this
    rw [hne, decide_eq_true hcnt, cf_comm, hc, Bool.true_and, Bool.true_and, Bool.true_and, Bool.not_eq_true, Bool.not_eq_false'] at this
    rw [apart_comm]; exact this
  refine ⟨by rw [List.length_set]; exact h.lb, by rw [List.length_set]; exact h.ld, fun k hk hdk => ?_, fun k hk hdk => ?_, fun a k ha hk hak hda hdk hc => ?_⟩
  · rw [gd_setB hib]
    by_cases hki : k = i
    · subst hki
      rw [if_pos rfl]
      exact ⟨hb, rfl⟩
    · rw [if_neg hki]
      rw [gd_setB hid, if_neg hki] at hdk
      exact h.on_ k hk hdk
  · rw [gd_setB hid] at hdk
    by_cases hki : k = i
    · rw [if_pos hki] at hdk; cases hdk
    · rw [if_neg hki] at hdk
      rw [gd_setB hib, if_neg hki]
      exact h.off k hk hdk
  · rw [gd_setB hid] at hda hdk
    rw [gd_setB hib, gd_setB hib]
    by_cases e1 : a = i
    · subst e1
      have e2 : k ≠ a := fun e => hak e.symm
      rw [if_pos rfl, if_neg e2]
      rw [if_neg e2] at hdk
      exact hfree k hk e2 hdk hc
    · rw [if_neg e1] at hda ⊢
      by_cases e2 : k = i
      · subst e2
        rw [if_pos rfl, apart_comm]
        exact hfree a ha e1 hda (by rw [cf_comm]; exact hc)
      · rw [if_neg e2] at hdk ⊢
        exact h.ap a k ha hk hak hda hdk hc
theorem firstIn_head (C : Int) : ∀ (L : List Int), (∀ x ∈ L, x + C ≤ 24) → firstIn (fun x => some x) 24 C L = L.head?
  | [], _ => rfl
  | x :: L, h => by rw [firstIn, if_pos (h x (by simp))]; rfl
theorem firstOf_mapI {g : Nat → Option Nat} : ∀ (c s : Nat), firstOf (fun s => (g s).map fun t : Nat => (t : Int)) c s = (firstOf g c s).map fun t : Nat => (t : Int)
  | 0, s => by rw [firstOf, firstOf]; rfl
  | c + 1, s => by
    rw [firstOf, firstOf, firstOf_mapI c (s + 1)]
    cases g s <;> rfl
theorem fits_head {m : Int} {l : List Request} (hl : ReqF l) {bl : List Block} {i : Nat} (hi : i < l.length) (hm : ∀ s : Nat, (s : Int) + (gd l i r0).Count ≤ 24 → apart m (bits ⟨(s : Int), (gd l i r0).Count⟩) = freeT l bl i ⟨(s : Int), (gd l i r0).Count⟩) :
    (fits m (gd l i r0).Count).head? = (fitF l bl i).map fun s : Nat => (s : Int) := by
  have hr := hl.at_ hi
  have h1 := firstIn_head (gd l i r0).Count (fits m (gd l i r0).Count) fun x hx => ((fits_mem hr.2.2.1 hr.2.2.2).1 hx).2.1
  rw [← h1]
  have h2 := firstIn_fits (fun x : Int => some x) (fun t => apart m (bits ⟨(t : Int), (gd l i r0).Count⟩)) 24 (gd l i r0).Count (by omega) hr.2.2.1 hr.2.2.2 (25 - (gd l i r0).Count.toNat) 0 (by omega)
  have hf : fits m (gd l i r0).Count = ((List.range' 0 (25 - (gd l i r0).Count.toNat)).filter fun t : Nat => apart m (bits ⟨(t : Int), (gd l i r0).Count⟩)).map fun t : Nat => (t : Int) := rfl
  rw [← hf, Nat.sub_zero] at h2
  rw [h2]
  unfold fitF
  rw [← firstOf_mapI]
  refine firstOf_same _ _ fun t _ ht => ?_
  have := hm t (by omega)
  show (if apart m (bits ⟨(t : Int), (gd l i r0).Count⟩) = true then some (t : Int) else none) = _
  rw [this]
  cases freeT l bl i ⟨(t : Int), (gd l i r0).Count⟩
  · rw [if_neg Bool.false_ne_true, if_neg Bool.false_ne_true]; rfl
  · rw [if_pos rfl, if_pos rfl]; rfl
theorem spec_fit {fu : Nat} (hfu : 2097153 ≤ fu) {l : List Request} (hl : ReqF l) {bl : List Block} {dn : List Bool} (h : GI l bl dn) {i : Nat} (hi : i < l.length) : ∃ m, spec_l12Taken fu l bl i = some m ∧ ∃ L, spec_l8Fits fu m (gd l i r0).Count = some L ∧ L.head? = (fitF l bl i).map fun s : Nat => (s : Int) := by
  have hr := hl.at_ hi
  obtain ⟨m, m1, m2, m3⟩ := taken_ok hfu hl h.lb h.ok hi
  refine ⟨m, m1, _, l8Fits_eq hfu m _ hr.2.2.1 hr.2.2.2, fits_head hl hi fun s hs => ?_⟩
  have hb : blkOk ⟨(s : Int), (gd l i r0).Count⟩ = true := by
    unfold blkOk
    simp only [Bool.and_eq_true, decide_eq_true_eq]
    omega
  rw [m3 _ (bits_mk hb)]
  rfl
theorem specGre_loop {fu : Nat} (hfu : 2097153 ≤ fu) {l : List Request} (hl : ReqF l) (order : List Int) (ho : order.length ≤ 2097152) (hin : ∀ e ∈ order, 0 ≤ e ∧ e < (l.length : Int)) (hnd : order.Nodup) : ∀ (fk m : Nat) (bl : List Block) (dn : List Bool), m ≤ order.length → order.length - m < fk → GI l bl dn → (∀ e ∈ order.drop m, gd dn e.toNat false = false) →
    ∃ z, spec_l12Greedy_L1 fu l order fk bl m = some (match gre l (order.drop m) bl with | none => .ret ([], 0, false) | some bl' => .next (bl', z)) := by
  intro fk
  induction fk with
  | zero => intro m _ _ _ h; omega
  | succ fk ih =>
    intro m bl dn hm hk hG hdn
    rw [spec_l12Greedy_L1]
    by_cases h : m < order.length
    · have hmem := hin _ (List.getElem_mem h)
      obtain ⟨e, he⟩ : ∃ e, e = order[m] := ⟨_, rfl⟩
      have hdr : order.drop m = e :: order.drop (m + 1) := by rw [he, List.getElem_cons_drop]
      rw [← he] at hmem
      have hei : e.toNat < l.length := by omega
      have hee : (e.toNat : Int) = e := Int.toNat_of_nonneg hmem.1
      obtain ⟨t, t1, L, t2, t3⟩ := spec_fit hfu hl hG hei
      have hidx : idx l e = some (gd l e.toNat r0) := by rw [← hee]; exact idx_gd r0 hei
      have hidb : idx bl e = some (gd bl e.toNat b0) := by rw [← hee]; exact idx_gd b0 (by rw [hG.lb]; exact hei)
      rw [hee] at t1
      rw [if_pos (show decide ((m : Int) < (order.length : Int)) = true by simpa using h), idx_in h, ← he, Option.bind_some, hidx, Option.bind_some, t1, Option.bind_some, t2, Option.bind_some, hdr, gre, w64_inc h (by omega)]
      cases hf : fitF l bl e.toNat with
      | none =>
        rw [hf] at t3
        have hL : L = [] := List.head?_eq_none_iff.1 t3
        subst hL
        exact ⟨0, rfl⟩
      | some s =>
        rw [hf] at t3
        obtain ⟨L', rfl⟩ : ∃ L', L = (s : Int) :: L' := by
          cases L with
          | nil => cases t3
          | cons x L' => simp only [List.head?_cons, Option.map_some, Option.some.injEq] at t3; exact ⟨L', by rw [t3]⟩
        have hne : ¬ ((((s : Int) :: L').length : Int) == 0) = true := by rw [beq_iff_eq, List.length_cons]; omega
        have hx0 : idx ((s : Int) :: L') 0 = some (s : Int) := rfl
        rw [if_neg hne, hx0, Option.bind_some, Option.bind_some, hidb, Option.bind_some]
        have hnm : e ∉ order.drop (m + 1) := by
          have := hnd.sublist (List.drop_sublist m order)
          rw [hdr] at this
          exact (List.nodup_cons.1 this).1
        exact ih (m + 1) _ (dn.set e.toNat true) h (by omega) (hG.set hl hei (hdn e (by rw [hdr]; simp)) hf) fun x hx => by
          have hxr := hin x (List.mem_of_mem_drop hx)
          have hxe : x.toNat ≠ e.toNat := fun hq => hnm (by
            have : x = e := by omega
            rw [← this]; exact hx)
          rw [gd_setB (by rw [hG.ld]; exact hei), if_neg hxe]
          exact hdn x (by rw [hdr]; simp [hx])
    · obtain rfl : m = order.length := by omega
      rw [if_neg (by simp), List.drop_length, gre]
      exact ⟨_, rfl⟩
theorem isFreeG_eq {fu : Nat} (hfu : 2097153 ≤ fu) {l : List Request} (hl : ReqF l) {bl : List Block} {dn : List Bool} (h : GI l bl dn) {i : Nat} (hi : i < l.length) {b : Block} (hb : blkOk b = true) :
    impl_isFree_of_greedy_c1 fu l bl (i : Int) b dn = some (freeT l bl i b) := by
  have h7 := hl.len
  unfold impl_isFree_of_greedy_c1 freeT
  have := scan_any (l := l) (G := impl_isFree_of_greedy_c1_L1 fu l bl (i : Int) b dn) (takenP l bl i (bits b)) false (by omega)
    (fun fk k hk _ => by
      have hkd : k < dn.length := by rw [h.ld]; exact hk
      have hkb : k < bl.length := by rw [h.lb]; exact hk
      cases hd : gd dn k false
      · have hz := h.off k hk hd
        have hv : takenP l bl i (bits b) k = false := by
          unfold takenP
          rw [hz]
          have : decide (b0.Count > 0) = false := by decide
          rw [this, Bool.false_and, Bool.and_false, Bool.false_and]
        rw [hv, impl_isFree_of_greedy_c1_L1, if_pos (by simpa using hk), impl_greedy_c1, idx_gd false hkd, hd, Option.bind_some, Option.bind_some, if_neg Bool.false_ne_true]
        by_cases h1 : ((k : Int) != (i : Int)) = true
        · rw [if_pos h1, Option.bind_some]
        · rw [if_neg h1, Option.bind_some]
      · obtain ⟨hbk, hcnt⟩ := h.on_ k hk hd
        have hpos : (gd bl k b0).Count > 0 := by
          unfold blkOk at hbk; simp only [Bool.and_eq_true, decide_eq_true_eq] at hbk; omega
        have hki : ((k : Int) != (i : Int)) = (k != i) := by
          rw [Bool.eq_iff_iff, bne_iff_ne, bne_iff_ne]; omega
        have hv : takenP l bl i (bits b) k = ((k != i) && (cf (gd l i r0) (gd l k r0) && !apart (bits b) (bits (gd bl k b0)))) := by
          unfold takenP
          rw [decide_eq_true hpos, Bool.true_and, cf_comm, apart_comm, Bool.and_assoc]
        rw [hv, impl_isFree_of_greedy_c1_L1, if_pos (by simpa using hk), impl_greedy_c1, idx_gd false hkd, hd, Option.bind_some, Option.bind_some, if_pos rfl, idx_gd r0 hi, Option.bind_some, idx_gd r0 hk, Option.bind_some, implCf_eq hfu hl hi hk, Option.bind_some, idx_gd b0 hkb, Option.bind_some, maskOf_eq hb, Option.bind_some, maskOf_eq hbk, Option.bind_some, band_ne, hki]
        generalize cf (gd l i r0) (gd l k r0) = q
        generalize apart (bits b) (bits (gd bl k b0)) = q2
        cases (k != i)
        · rw [if_neg Bool.false_ne_true, Option.bind_some, Bool.false_and]
        · rw [if_pos rfl, Bool.true_and]
          cases q
          · rw [if_neg Bool.false_ne_true, Option.bind_some, Bool.false_and]
          · rw [if_pos rfl, Option.bind_some, Bool.true_and])
    (fun fk => by rw [impl_isFree_of_greedy_c1_L1, if_neg (by simp)]) fu (by omega)
  rw [this]
  cases (List.range l.length).any (takenP l bl i (bits b)) <;> rfl
theorem greIn_loop {fu : Nat} (hfu : 2097153 ≤ fu) {l : List Request} (hl : ReqF l) {bl : List Block} {dn : List Bool} (h : GI l bl dn) {i : Nat} (hi : i < l.length) (hd : gd dn i false = false) : ∀ (fk c s : Nat), c + 1 < fk → s + c = (25 - (gd l i r0).Count).toNat →
    ∃ z, impl_greedy_L2 fu l (i : Int) fk bl (s : Int) dn = some (match firstOf (fun s => if freeT l bl i ⟨(s : Int), (gd l i r0).Count⟩ = true then some s else none) c s with | none => .ret ([], false) | some t => .next (bl.set i ⟨(t : Int), (gd l i r0).Count⟩, z, dn.set i true)) := by
  have hr := hl.at_ hi
  have hid : i < dn.length := by rw [h.ld]; exact hi
  have hib : i < bl.length := by rw [h.lb]; exact hi
  intro fk
  induction fk with
  | zero => intro c s hk; omega
  | succ fk ih =>
    intro c s hk hs
    have hw : w64 ((s : Int) + 1) = ((s + 1 : Nat) : Int) := by rw [w64_in (by omega) (by omega)]; rfl
    rw [impl_greedy_L2, idx_gd false hid, hd, Option.bind_some, Bool.not_false, if_pos rfl, idx_gd r0 hi, Option.bind_some, implBlk_eq, Option.bind_some]
    cases c with
    | zero =>
      have hb : blkOk ⟨(s : Int), (gd l i r0).Count⟩ = false := by
        rw [Bool.eq_false_iff]
        intro hq
        unfold blkOk at hq
        simp only [Bool.and_eq_true, decide_eq_true_eq] at hq
        omega
      rw [hb, Bool.not_false, if_pos rfl, firstOf]
      exact ⟨0, rfl⟩
    | succ c =>
      have hb : blkOk ⟨(s : Int), (gd l i r0).Count⟩ = true := by
        unfold blkOk
        simp only [Bool.and_eq_true, decide_eq_true_eq]
        omega
      rw [hb, Bool.not_true, if_neg Bool.false_ne_true, isFreeG_eq hfu hl h hi hb, Option.bind_some, firstOf, hw]
      cases hf : freeT l bl i ⟨(s : Int), (gd l i r0).Count⟩
      · rw [if_neg Bool.false_ne_true]
        obtain ⟨z, hz⟩ := ih c (s + 1) (by omega) (by omega)
        exact ⟨z, hz⟩
      · rw [if_pos rfl, idx_gd b0 hib, Option.bind_some, Option.bind_some, Int.toNat_natCast]
        obtain ⟨fk, rfl⟩ : ∃ g, fk = g + 1 := ⟨fk - 1, by omega⟩
        have hid2 : idx (dn.set i true) (i : Int) = some true := idx_set hid
        rw [impl_greedy_L2, hid2, Option.bind_some, Bool.not_true, if_neg Bool.false_ne_true]
        exact ⟨_, rfl⟩
theorem implGre_loop {fu : Nat} (hfu : 2097153 ≤ fu) {l : List Request} (hl : ReqF l) (order : List Int) (ho : order.length ≤ 2097152) (hin : ∀ e ∈ order, 0 ≤ e ∧ e < (l.length : Int)) (hnd : order.Nodup) : ∀ (fk m : Nat) (bl : List Block) (dn : List Bool), m ≤ order.length → order.length - m < fk → GI l bl dn → (∀ e ∈ order.drop m, gd dn e.toNat false = false) →
    match gre l (order.drop m) bl with
    | none => impl_greedy_L1 fu l order fk bl m dn = some (.ret ([], false))
    | some bl' => ∃ z dn', impl_greedy_L1 fu l order fk bl m dn = some (.next (bl', z, dn')) ∧ GI l bl' dn' ∧ (∀ k, k < l.length → gd dn k false = true ∨ ((k : Nat) : Int) ∈ order.drop m → gd dn' k false = true) := by
  intro fk
  induction fk with
  | zero => intro m _ _ _ h; omega
  | succ fk ih =>
    intro m bl dn hm hk hG hdn
    rw [impl_greedy_L1]
    by_cases h : m < order.length
    · have hmem := hin _ (List.getElem_mem h)
      obtain ⟨e, he⟩ : ∃ e, e = order[m] := ⟨_, rfl⟩
      have hdr : order.drop m = e :: order.drop (m + 1) := by rw [he, List.getElem_cons_drop]
      rw [← he] at hmem
      have hei : e.toNat < l.length := by omega
      have hee : (e.toNat : Int) = e := Int.toNat_of_nonneg hmem.1
      have hde := hdn e (by rw [hdr]; simp)
      obtain ⟨z, hz⟩ := greIn_loop hfu hl hG hei hde fu (25 - (gd l e.toNat r0).Count).toNat 0 (by have := hl.at_ hei; omega) (by omega)
      rw [hee, show ((0 : Nat) : Int) = 0 from rfl] at hz
      have hfe : firstOf (fun s => if freeT l bl e.toNat ⟨(s : Int), (gd l e.toNat r0).Count⟩ = true then some s else none) (25 - (gd l e.toNat r0).Count).toNat 0 = fitF l bl e.toNat := rfl
      rw [hfe] at hz
      rw [if_pos (show decide ((m : Int) < (order.length : Int)) = true by simpa using h), idx_in h, ← he, Option.bind_some, hz, Option.bind_some, hdr, gre, w64_inc h (by omega)]
      cases hf : fitF l bl e.toNat with
      | none => rfl
      | some s =>
        have hnm : e ∉ order.drop (m + 1) := by
          have := hnd.sublist (List.drop_sublist m order)
          rw [hdr] at this
          exact (List.nodup_cons.1 this).1
        have hn := ih (m + 1) _ (dn.set e.toNat true) h (by omega) (hG.set hl hei hde hf) fun x hx => by
          have hxr := hin x (List.mem_of_mem_drop hx)
          have hxe : x.toNat ≠ e.toNat := fun hq => hnm (by
            have : x = e := by omega
            rw [← this]; exact hx)
          rw [gd_setB (by rw [hG.ld]; exact hei), if_neg hxe]
          exact hdn x (by rw [hdr]; simp [hx])
        simp only [Out.on]
        revert hn
        cases gre l (order.drop (m + 1)) (bl.set e.toNat ⟨(s : Int), (gd l e.toNat r0).Count⟩) with
        | none => intro hn; exact hn
        | some bl' =>
          rintro ⟨z, dn', n1, n2, n3⟩
          refine ⟨z, dn', n1, n2, fun k hk hor => n3 k hk ?_⟩
          rw [gd_setB (by rw [hG.ld]; exact hei)]
          by_cases hke : k = e.toNat
          · left; rw [if_pos hke]
          · rw [if_neg hke]
            rcases hor with h1 | h1
            · exact .inl h1
            · rcases List.mem_cons.1 h1 with h1 | h1
              · exfalso; exact hke (by omega)
              · exact .inr h1
    · obtain rfl : m = order.length := by omega
      rw [if_neg (by simp), List.drop_length, gre]
      exact ⟨_, dn, rfl, hG, fun k hk hor => by
        rcases hor with h1 | h1
        · exact h1
        · cases h1⟩
theorem GI.zero (l : List Request) : GI l (zeros l.length) (List.replicate l.length false) := by
  have hz : ∀ k, gd (zeros l.length) k b0 = b0 := by
    intro k
    unfold gd zeros
    rw [List.getElem?_replicate]
    split <;> rfl
  have hd : ∀ k, gd (List.replicate l.length false) k false = false := by
    intro k
    unfold gd
    rw [List.getElem?_replicate]
    split <;> rfl
  refine ⟨by simp [zeros], by simp, fun k _ h => ?_, fun k _ _ => hz k, fun i k _ _ _ h => ?_⟩
  · rw [hd] at h; cases h
  · rw [hd] at h; cases h
def OrdOk (l : List Request) (order : List Int) : Prop := (∀ e ∈ order, 0 ≤ e ∧ e < (l.length : Int)) ∧ order.Nodup ∧ order.length = l.length
theorem ord_all {l : List Request} {order : List Int} (h : OrdOk l order) {k : Nat} (hk : k < l.length) : (k : Int) ∈ order := by
  rcases Classical.em ((k : Int) ∈ order) with h1 | h1
  · exact h1
  · have := short_of l.length ((k : Int) :: order) (List.nodup_cons.2 ⟨h1, h.2.1⟩) fun x hx => by
      rcases List.mem_cons.1 hx with rfl | hx
      · omega
      · exact h.1 x hx
    rw [List.length_cons, h.2.2] at this
    omega
theorem gre_as {l : List Request} {bl : List Block} {dn : List Bool} (hG : GI l bl dn) (hd : ∀ k, k < l.length → gd dn k false = true) : As l 24 bl := by
  intro i hi
  rw [hG.lb] at hi
  obtain ⟨h1, h2⟩ := hG.on_ i hi (hd i hi)
  unfold blkOk at h1
  simp only [Bool.and_eq_true, decide_eq_true_eq] at h1
  exact ⟨h2, by omega, by omega, fun k hk hc => hG.ap i k hi (by omega) (by omega) (hd i hi) (hd k (by omega)) hc⟩
theorem most_eq (fu : Nat) (a b : Int) : spec_l1Most fu a b = some (gmax a b) := by
  unfold spec_l1Most gmax
  by_cases c1 : a > b
  · have c2 : ¬ b > a := by omega
    simp [c1, c2]
  · by_cases c2 : b > a
    · simp [c1, c2]
    · have : a = b := by omega
      simp [this]
theorem hgt_loops {fu : Nat} (bl : List Block) (hn : bl.length ≤ 2097152) (hb : ∀ b ∈ bl, blkOk b = true ∨ b = b0) : ∀ (fk i : Nat) (m : Int), i ≤ bl.length → bl.length - i < fk →
    impl_heightOf_L1 fu bl fk m i = some ((bl.drop i).foldl (fun m b => gmax m (b.First + b.Count)) m, (bl.length : Int)) ∧ spec_l12Height_L1 fu bl fk m i = some ((bl.drop i).foldl (fun m b => gmax m (b.First + b.Count)) m, (bl.length : Int)) := by
  intro fk
  induction fk with
  | zero => intro i _ _ h; omega
  | succ fk ih =>
    intro i m hi hk
    rw [impl_heightOf_L1, spec_l12Height_L1]
    by_cases h : i < bl.length
    · have hbi : 0 ≤ bl[i].First + bl[i].Count ∧ bl[i].First + bl[i].Count ≤ 24 := by
        rcases hb _ (List.getElem_mem h) with hq | hq
        · unfold blkOk at hq
          simp only [Bool.and_eq_true, decide_eq_true_eq] at hq
          omega
        · rw [hq]; exact ⟨by decide, by decide⟩
      have hw : w64 (bl[i].First + bl[i].Count) = bl[i].First + bl[i].Count := w64_in (by omega) (by omega)
      rw [if_pos (by simpa using h), if_pos (by simpa using h), idx_in h, Option.bind_some, Option.bind_some, Option.bind_some, hw, most_eq, Option.bind_some, w64_inc h (by omega), ← List.getElem_cons_drop h, List.foldl_cons]
      exact ih (i + 1) _ h (by omega)
    · obtain rfl : i = bl.length := by omega
      rw [if_neg (by simp), if_neg (by simp), List.drop_length]
      exact ⟨rfl, rfl⟩
theorem heightOf_eq {fu : Nat} (hfu : 2097153 ≤ fu) (bl : List Block) (hn : bl.length ≤ 2097152) (hb : ∀ b ∈ bl, blkOk b = true ∨ b = b0) : impl_heightOf fu bl = some (hgt bl) ∧ spec_l12Height fu bl = some (hgt bl) := by
  obtain ⟨h1, h2⟩ := hgt_loops (fu := fu) bl hn hb fu 0 0 (by omega) (by omega)
  rw [show ((0 : Nat) : Int) = 0 from rfl, List.drop_zero] at h1 h2
  unfold impl_heightOf spec_l12Height
  rw [h1, h2]
  exact ⟨rfl, rfl⟩
theorem greedy_both {fu : Nat} (hfu : 2097153 ≤ fu) {l : List Request} (hl : ReqF l) {order : List Int} (hin : ∀ e ∈ order, 0 ≤ e ∧ e < (l.length : Int)) (hnd : order.Nodup) :
    (impl_greedy fu l order = some ([], false) ∧ spec_l12Greedy fu l order = some ([], 0, false)) ∨
    ∃ bl, impl_greedy fu l order = some (bl, true) ∧ spec_l12Greedy fu l order = some (bl, hgt bl, true) ∧ impl_heightOf fu bl = some (hgt bl) ∧ bl.length = l.length ∧ (order.length = l.length → As l 24 bl) := by
  have h7 := hl.len
  have hol := short_of l.length order hnd hin
  have hmk : mk (({ First := 0, Count := 0 } : Block) : Block) (l.length : Int) = some (zeros l.length) := mk_len (by omega)
  have hmk2 : mk (false : Bool) (l.length : Int) = some (List.replicate l.length false) := mk_len (by omega)
  have hdz : ∀ k, gd (List.replicate l.length false) k false = false := by
    intro k
    unfold gd
    rw [List.getElem?_replicate]
    split <;> rfl
  obtain ⟨z, h1⟩ := specGre_loop hfu hl order (by omega) hin hnd fu 0 (zeros l.length) (List.replicate l.length false) (by omega) (by omega) (GI.zero l) (fun e _ => hdz _)
  have h2 := implGre_loop hfu hl order (by omega) hin hnd fu 0 (zeros l.length) (List.replicate l.length false) (by omega) (by omega) (GI.zero l) (fun e _ => hdz _)
  rw [show ((0 : Nat) : Int) = 0 from rfl, List.drop_zero] at h1 h2
  unfold impl_greedy spec_l12Greedy
  rw [hmk, Option.bind_some, hmk2, Option.bind_some, Option.bind_some]
  revert h1 h2
  cases gre l order (zeros l.length) with
  | none =>
    intro h1 h2
    left
    simp only at h1 h2
    rw [h1, h2]
    exact ⟨rfl, rfl⟩
  | some bl =>
    intro h1 h2
    right
    simp only at h1 h2
    obtain ⟨z2, dn, g1, g2, g3⟩ := h2
    obtain ⟨q1, q2⟩ := heightOf_eq hfu bl (by rw [g2.lb]; omega) g2.ok
    refine ⟨bl, ?_, ?_, q1, g2.lb, fun hlen => gre_as g2 fun k hk => g3 k hk (.inr (ord_all ⟨hin, hnd, hlen⟩ hk))⟩
    · rw [g1]; rfl
    · rw [h1]
      simp only [Option.bind_some, Out.on]
      rw [q2]; rfl
end AT

namespace AT
def msk (P : Nat → Bool) : Nat → Nat
  | 0 => 0
  | i + 1 => msk P i + if P i = true then 2 ^ i else 0
theorem msk_lt (P : Nat → Bool) : ∀ n, msk P n < 2 ^ n
  | 0 => by simp [msk]
  | n + 1 => by
    have := msk_lt P n
    rw [msk, Nat.pow_succ]
    split <;> omega
theorem msk_div (P : Nat → Bool) : ∀ (n i : Nat), i < n → (msk P n / 2 ^ i) % 2 = if P i = true then 1 else 0
  | 0, i, h => by omega
  | n + 1, i, h => by
    rw [msk]
    have hlt := msk_lt P n
    by_cases hi : i = n
    · subst hi
      split
      · rw [Nat.add_div_right _ (Nat.two_pow_pos i), Nat.div_eq_of_lt hlt]
      · rw [Nat.add_zero, Nat.div_eq_of_lt hlt]
    · rw [← msk_div P n i (by omega)]
      split
      · obtain ⟨d, rfl⟩ : ∃ d, n = i + 1 + d := ⟨n - i - 1, by omega⟩
        rw [Nat.pow_add, Nat.pow_succ, Nat.mul_assoc, Nat.add_mul_div_left _ _ (Nat.two_pow_pos i)]
        omega
      · rw [Nat.add_zero]
theorem bt_msk (P : Nat → Bool) {n i : Nat} (h : i < n) : bt (msk P n) i = P i := by
  unfold bt
  rw [msk_div P n i h]
  cases P i <;> simp
theorem bndF_ge {l : List Request} {s : Nat} (hc : clq l s = true) : ∀ {k : Nat}, s < k → sumTo l s l.length ≤ (bndF l k).1
  | 0, h => by omega
  | k + 1, h => by
    rw [bndF_succ]
    have hmono : (bndF l k).1 ≤ (stepB l (bndF l k) k).1 := by
      unfold stepB
      split
      · rename_i hq; simp only; omega
      · exact Int.le_refl _
    by_cases hs : s = k
    · subst hs
      unfold stepB
      by_cases hq : sumTo l s l.length > (bndF l s).1
      · rw [if_pos ⟨hq, hc⟩]; exact Int.le_refl _
      · rw [if_neg (fun h => hq h.1)]; omega
    · have := bndF_ge hc (show s < k by omega)
      omega
theorem bndF_best {l : List Request} : ∀ (k : Nat), (bndF l k).1 = sumTo l (bndF l k).2 l.length
  | 0 => by
    have : ∀ i, sumTo l 0 i = 0 := by
      intro i
      induction i with
      | zero => rfl
      | succ i ih => rw [sumTo, ih]; simp [bt]
    exact (this _).symm
  | k + 1 => by
    rw [bndF_succ]
    unfold stepB
    split
    · rfl
    · exact bndF_best k
def hasF (l : List Request) (f : Nat) (i : Nat) : Bool := (gd l i r0).Route.Fibers.any fun x => x == (f : Int)
def fsum (l : List Request) (f : Nat) : Nat → Int
  | 0 => 0
  | i + 1 => fsum l f i + if hasF l f i = true then (gd l i r0).Count else 0
theorem fsum_eq (l : List Request) (f : Nat) : ∀ (n i : Nat), i ≤ n → fsum l f i = sumTo l (msk (hasF l f) n) i
  | n, 0, _ => rfl
  | n, i + 1, h => by rw [fsum, sumTo, fsum_eq l f n i (by omega), bt_msk _ (show i < n by omega)]
theorem fsum_le {l : List Request} (hl : ReqF l) (f : Nat) : fsum l f l.length ≤ bnd l := by
  rw [fsum_eq l f l.length l.length (Nat.le_refl _)]
  refine bndF_ge ?_ (msk_lt _ _)
  unfold clq
  rw [Bool.not_eq_true', List.any_eq_false]
  intro i hi
  have hi' := List.mem_range.1 hi
  unfold badI
  rw [bt_msk _ hi']
  intro hq
  simp only [Bool.and_eq_true, List.any_eq_true] at hq
  obtain ⟨h1, k, hk, h2⟩ := hq
  have hk' := List.mem_range.1 hk
  rw [bt_msk _ (show k < l.length by omega)] at h2
  obtain ⟨h3, h4⟩ := h2
  have : cf (gd l i r0) (gd l k r0) = true := by
    unfold cf meets
    unfold hasF at h1 h3
    rw [List.any_eq_true] at h1 h3 ⊢
    obtain ⟨x, x1, x2⟩ := h1
    obtain ⟨y, y1, y2⟩ := h3
    refine ⟨x, x1, List.any_eq_true.2 ⟨y, y1, ?_⟩⟩
    rw [beq_iff_eq] at x2 y2 ⊢
    rw [x2, y2]
  rw [this] at h4
  cases h4
theorem fsum_in {l : List Request} (hl : ReqF l) (f : Nat) : ∀ {i : Nat}, i ≤ l.length → 0 ≤ fsum l f i ∧ fsum l f i ≤ 24 * (i : Int)
  | 0, _ => ⟨by simp [fsum], by simp [fsum]⟩
  | i + 1, h => by
    have h1 := fsum_in hl f (show i ≤ l.length by omega)
    have := hl.at_ (show i < l.length by omega)
    rw [fsum]
    split <;> omega
theorem gd_setI {l : List Int} {i j : Nat} {x : Int} (hi : i < l.length) : gd (l.set i x) j 0 = if j = i then x else gd l j 0 := gd_setB hi
theorem fib_in {fu : Nat} {l : List Request} (hl : ReqF l) {n : Nat} {i : Nat} (hi : i < l.length) (hr : ∀ x ∈ (gd l i r0).Route.Fibers, 0 ≤ x ∧ x < (n : Int)) : ∀ (fk k : Nat) (s : List Int), k ≤ (gd l i r0).Route.Fibers.length → (gd l i r0).Route.Fibers.length - k < fk → s.length = n →
    (∀ f, f < n → gd s f 0 = fsum l f i + if (((gd l i r0).Route.Fibers.take k).any fun x => x == (f : Int)) = true then (gd l i r0).Count else 0) →
    ∃ s', impl_FiberBound_L2 fu (gd l i r0) fk s k = some (s', ((gd l i r0).Route.Fibers.length : Int)) ∧ s'.length = n ∧ ∀ f, f < n → gd s' f 0 = fsum l f (i + 1) := by
  have h1 := hl.at_ hi
  have h7 := hl.len
  intro fk
  induction fk with
  | zero => intro k _ _ h; omega
  | succ fk ih =>
    intro k s hk hfk hs hgd
    rw [impl_FiberBound_L2]
    by_cases h : k < (gd l i r0).Route.Fibers.length
    · obtain ⟨x, hx⟩ : ∃ x, x = (gd l i r0).Route.Fibers[k] := ⟨_, rfl⟩
      have hxr := hr _ (List.getElem_mem h)
      rw [← hx] at hxr
      have hxn : x.toNat < n := by omega
      have hxx : (x.toNat : Int) = x := Int.toNat_of_nonneg hxr.1
      have hidx : idx s x = some (gd s x.toNat 0) := by rw [← hxx]; exact idx_gd 0 (by rw [hs]; exact hxn)
      have hnot : (((gd l i r0).Route.Fibers.take k).any fun y => y == (x.toNat : Int)) = false := by
        rw [List.any_eq_false]
        intro y hy
        rw [beq_iff_eq, hxx]
        intro hyx
        obtain ⟨j, hj, hjy⟩ := List.mem_iff_getElem.1 hy
        rw [List.length_take] at hj
        rw [List.getElem_take] at hjy
        have : j = k := (List.getElem_inj h1.1).1 (by rw [hjy, hyx, hx])
        omega
      have hval := hgd x.toNat hxn
      rw [hnot, if_neg Bool.false_ne_true, Int.add_zero] at hval
      have hfi := fsum_in hl x.toNat (show i ≤ l.length by omega)
      have hw : w64 (gd s x.toNat 0 + (gd l i r0).Count) = gd s x.toNat 0 + (gd l i r0).Count := w64_in (by omega) (by omega)
      rw [if_pos (show decide ((k : Int) < ((gd l i r0).Route.Fibers.length : Int)) = true by simpa using h), idx_in h, ← hx, Option.bind_some, hidx, Option.bind_some, Option.bind_some, hw, w64_inc h (by omega)]
      clear hw
      refine ih (k + 1) _ h (by omega) (by rw [List.length_set]; exact hs) fun f hf => ?_
      rw [gd_setI (by rw [hs]; exact hxn), List.take_add_one, List.getElem?_eq_getElem h, ← hx, List.any_append]
      simp only [Option.toList, List.any_cons, List.any_nil, Bool.or_false]
      by_cases hfx : f = x.toNat
      · have : (x == (f : Int)) = true := by rw [beq_iff_eq]; omega
        rw [if_pos hfx, this, Bool.or_true, if_pos rfl, hfx, hval]
      · have : (x == (f : Int)) = false := by rw [beq_eq_false_iff_ne]; omega
        rw [if_neg hfx, this, Bool.or_false]
        exact hgd f hf
    · obtain rfl : k = (gd l i r0).Route.Fibers.length := by omega
      rw [if_neg (by simp)]
      refine ⟨s, rfl, hs, fun f hf => ?_⟩
      rw [hgd f hf, List.take_length, fsum]
      rfl
theorem fib_out {fu : Nat} (hfu : 2097153 ≤ fu) {l : List Request} (hl : ReqF l) {n : Nat} (hr : ∀ i, i < l.length → ∀ x ∈ (gd l i r0).Route.Fibers, 0 ≤ x ∧ x < (n : Int)) : ∀ (fk i : Nat) (s : List Int), i ≤ l.length → l.length - i < fk → s.length = n → (∀ f, f < n → gd s f 0 = fsum l f i) →
    ∃ s', impl_FiberBound_L1 fu l fk s i = some (s', (l.length : Int)) ∧ s'.length = n ∧ ∀ f, f < n → gd s' f 0 = fsum l f l.length := by
  have h7 := hl.len
  intro fk
  induction fk with
  | zero => intro i _ _ h; omega
  | succ fk ih =>
    intro i s hi hk hs hgd
    rw [impl_FiberBound_L1]
    by_cases h : i < l.length
    · have h1 := hl.at_ h
      obtain ⟨s', q1, q2, q3⟩ := fib_in (fu := fu) hl h (hr i h) fu 0 s (by omega) (by omega) hs (fun f hf => by rw [hgd f hf]; simp)
      rw [show ((0 : Nat) : Int) = 0 from rfl] at q1
      rw [if_pos (by simpa using h), idx_gd r0 h, Option.bind_some, q1, Option.bind_some, w64_inc h (by omega)]
      exact ih (i + 1) s' h (by omega) q2 q3
    · obtain rfl : i = l.length := by omega
      rw [if_neg (by simp)]
      exact ⟨s, rfl, hs, hgd⟩
theorem max_loop {fu : Nat} (s : List Int) (hs : s.length ≤ 2097152) (B : Int) (hB : ∀ x ∈ s, x ≤ B) : ∀ (fk i : Nat) (m : Int), i ≤ s.length → s.length - i < fk → m ≤ B → ∃ z, slices_Max_int_int_L1 fu s fk m i = some (z, (s.length : Int)) ∧ z ≤ B := by
  intro fk
  induction fk with
  | zero => intro i _ _ h; omega
  | succ fk ih =>
    intro i m hi hk hm
    rw [slices_Max_int_int_L1]
    by_cases h : i < s.length
    · have := hB _ (List.getElem_mem h)
      rw [if_pos (by simpa using h), idx_in h, Option.bind_some, w64_inc h (by omega)]
      exact ih (i + 1) _ h (by omega) (by unfold gmax; split <;> omega)
    · obtain rfl : i = s.length := by omega
      rw [if_neg (by simp)]
      exact ⟨m, rfl, hm⟩
theorem fiberBound_ok {fu : Nat} (hfu : 2097153 ≤ fu) (n : Network) (l : List Request) (hB : NetB n) (hl : ReqB l) : ∃ k w, impl_FiberBound fu n l = some (k, w, reqsOk n l) ∧ (reqsOk n l = true → k ≤ bnd l) ∧ (reqsOk n l = false → k = 0) := by
  unfold impl_FiberBound
  rw [implReqs_eq hfu n l hB hl]
  cases hv : reqsOk n l
  · exact ⟨0, 0, rfl, fun h => (by cases h), fun _ => rfl⟩
  have hF := reqF hv
  have h7 := hF.len
  have hnet : netOk n = true := by
    unfold reqsOk at hv
    simp only [Bool.and_eq_true] at hv
    exact hv.1
  have hn := netF hnet
  have hb0 := bnd_in hF
  have hr : ∀ i, i < l.length → ∀ x ∈ (gd l i r0).Route.Fibers, 0 ≤ x ∧ x < (n.Fibers.length : Int) := by
    intro i hi x hx
    unfold reqsOk at hv
    simp only [Bool.and_eq_true, Bool.not_eq_true', List.any_eq_false] at hv
    have := hv.2.2 _ (List.getElem_mem hi)
    rw [← gd_in r0 hi] at this
    unfold reqBad at this
    cases ho : rnodes n (gd l i r0).Route with
    | none => rw [ho] at this; simp at this
    | some o => exact rnodes_in ho x hx
  have hmk : mk (0 : Int) (n.Fibers.length : Int) = some (List.replicate n.Fibers.length 0) := mk_len (by have := hn.fib; omega)
  obtain ⟨s, s1, s2, s3⟩ := fib_out hfu hF hr fu 0 (List.replicate n.Fibers.length 0) (by omega) (by omega) (by simp) (fun f hf => by
    unfold gd
    rw [List.getElem?_replicate, if_pos hf]
    rfl)
  rw [show ((0 : Nat) : Int) = 0 from rfl] at s1
  rw [Option.bind_some, Bool.not_true, if_neg Bool.false_ne_true, hmk, Option.bind_some, s1, Option.bind_some]
  dsimp only
  have hall : ∀ x ∈ s, x ≤ bnd l := by
    intro x hx
    obtain ⟨i, hi, rfl⟩ := List.mem_iff_getElem.1 hx
    rw [← gd_in 0 hi, s3 i (by omega)]
    exact fsum_le hF i
  have hfib := hn.fib
  by_cases hz : s.length = 0
  · rw [if_pos (by rw [beq_iff_eq]; omega)]
    exact ⟨0, 0, rfl, fun _ => hb0.1, fun h => (by cases h)⟩
  · have hx0 : idx s 0 = some (gd s 0 0) := idx_gd 0 (i := 0) (by omega)
    have hm0 : gd s 0 0 ≤ bnd l := hall _ (by rw [gd_in 0 (show 0 < s.length by omega)]; exact List.getElem_mem _)
    obtain ⟨m, m1, m2⟩ := max_loop (fu := fu) s (by omega) (bnd l) hall fu 1 (gd s 0 0) (by omega) (by omega) hm0
    rw [show ((1 : Nat) : Int) = 1 from rfl] at m1
    have hmax : slices_Max_int_int fu s = some m := by
      unfold slices_Max_int_int
      rw [if_neg (show ¬ decide ((s.length : Int) < 1) = true by rw [decide_eq_true_eq]; omega), hx0, Option.bind_some, m1]
      rfl
    rw [if_neg (by rw [beq_iff_eq]; omega), hmax, Option.bind_some, indexI_eq s m (by omega) (by omega)]
    exact ⟨m, _, rfl, fun _ => m2, fun h => (by cases h)⟩
def setOf (s : Nat) (n : Nat) : List Int := ((List.range n).filter (bt s)).map fun i : Nat => (i : Int)
theorem setOf_succ (s i : Nat) : setOf s (i + 1) = setOf s i ++ if bt s i = true then [(i : Int)] else [] := by
  unfold setOf
  rw [List.range_succ, List.filter_append, List.map_append]
  congr 1
  cases hb : bt s i
  · simp [hb]
  · simp [hb]
theorem clique_loop {fu : Nat} {l : List Request} (hl : l.length ≤ 7) {s : Nat} (hs : s < 16777216) (m : Int) : ∀ (fk i : Nat) (o : List Int), i ≤ l.length → l.length - i < fk → o = setOf s i → impl_CliqueBound_L1 fu l (m, (s : Int)) fk o i = some (setOf s l.length, (l.length : Int)) := by
  intro fk
  induction fk with
  | zero => intro i _ _ h; omega
  | succ fk ih =>
    intro i o hi hk ho
    rw [impl_CliqueBound_L1]
    have hsucc := setOf_succ s i
    by_cases h : i < l.length
    · have hol : o.length ≤ i := by
        rw [ho]
        unfold setOf
        rw [List.length_map]
        exact Nat.le_trans (List.length_filter_le _ _) (by simp)
      rw [if_pos (by simpa using h)]
      show ((shr (s : Int) (i : Int)).bind _) = _
      rw [shr_nat s i (by omega), Option.bind_some, bit_eq hs (by omega), w64_inc h (by omega)]
      cases hb : bt s i
      · rw [if_neg Bool.false_ne_true]
        rw [hb, if_neg Bool.false_ne_true, List.append_nil] at hsucc
        exact ih (i + 1) o h (by omega) (by rw [ho, hsucc])
      · rw [if_pos rfl, app_ok (by rw [List.length_singleton]; omega), Option.bind_some]
        rw [hb, if_pos rfl] at hsucc
        exact ih (i + 1) _ h (by omega) (by rw [hsucc, ho])
    · obtain rfl : i = l.length := by omega
      rw [if_neg (by simp), ho]
def best (l : List Request) : Nat := (bndF l (2 ^ l.length)).2
theorem best_lt {l : List Request} (hl : ReqF l) : best l < 16777216 := by
  have h7 := pow7 hl.len
  have := (bndF_in hl (2 ^ l.length)).2.2
  unfold best
  omega
theorem cliqueBound_eq {fu : Nat} (hfu : 2097153 ≤ fu) (n : Network) (l : List Request) (hB : NetB n) (hl : ReqB l) : impl_CliqueBound fu n l = some (if reqsOk n l = true then (bnd l, setOf (best l) l.length, true) else (0, [], false)) := by
  unfold impl_CliqueBound
  rw [implReqs_eq hfu n l hB hl]
  cases hv : reqsOk n l
  · rfl
  have hF := reqF hv
  have h7 := hF.len
  rw [Option.bind_some, Bool.not_true, if_neg Bool.false_ne_true, if_pos rfl, implBound_eq hfu hF, Option.bind_some]
  have := clique_loop (fu := fu) h7 (best_lt hF) (bnd l) fu 0 [] (by omega) (by omega) rfl
  rw [show ((0 : Nat) : Int) = 0 from rfl] at this
  show ((impl_CliqueBound_L1 fu l (bnd l, (best l : Int)) fu [] 0).bind _) = _
  rw [this]
  rfl
theorem isFreeC_eq {fu : Nat} (hfu : 2097153 ≤ fu) {l : List Request} (hl : ReqF l) {h : Int} (hh : h ≤ 24) {bl : List Block} (hA : As l h bl) (hbl : bl.length = l.length) {i : Nat} (hi : i < l.length) :
    impl_isFree_of_CheckAssignment_c1 fu l bl (i : Int) (gd bl i b0) (i : Int) = some true := by
  have h7 := hl.len
  unfold impl_isFree_of_CheckAssignment_c1
  have := scan_any (l := l) (G := impl_isFree_of_CheckAssignment_c1_L1 fu l bl (i : Int) (gd bl i b0) (i : Int)) (fun _ => false) false (by omega)
    (fun fk k hk _ => by
      have hkb : k < bl.length := by omega
      rw [impl_isFree_of_CheckAssignment_c1_L1, if_pos (by simpa using hk), impl_CheckAssignment_c1]
      by_cases hki : k < i
      · have h1 : ((k : Int) != (i : Int)) = true := by rw [bne_iff_ne]; omega
        have h2 : (k : Int) < (i : Int) := by omega
        rw [h1, if_pos rfl, decide_eq_true h2, Option.bind_some, if_pos rfl, idx_gd r0 hi, Option.bind_some, idx_gd r0 hk, Option.bind_some, implCf_eq hfu hl hi hk, Option.bind_some, idx_gd b0 hkb, Option.bind_some, maskOf_eq (blk_at hl hh hA hbl hi), Option.bind_some, maskOf_eq (blk_at hl hh hA hbl hk), Option.bind_some, band_ne]
        cases hc : cf (gd l i r0) (gd l k r0)
        · rw [if_neg Bool.false_ne_true, Option.bind_some]
        · have := (hA i (by omega)).2.2.2 k hki hc
          rw [this, if_pos rfl, Option.bind_some, Bool.not_true]
      · have h2 : ¬ (k : Int) < (i : Int) := by omega
        rw [decide_eq_false h2, Option.bind_some, if_neg Bool.false_ne_true]
        by_cases h1 : ((k : Int) != (i : Int)) = true
        · rw [if_pos h1, Option.bind_some]
        · rw [if_neg h1, Option.bind_some])
    (fun fk => by rw [impl_isFree_of_CheckAssignment_c1_L1, if_neg (by simp)]) fu (by omega)
  rw [this]
  have hf : (List.range l.length).any (fun _ => false) = false := by simp
  rw [hf]
  rfl
theorem check_ok {fu : Nat} (hfu : 2097153 ≤ fu) (n : Network) (l : List Request) (hB : NetB n) (hl : ReqB l) (hv : reqsOk n l = true) {bl : List Block} (hA : As l 24 bl) (hbl : bl.length = l.length) : impl_CheckAssignment fu n l bl = some (hgt bl, true) := by
  have hF := reqF hv
  have h7 := hF.len
  unfold impl_CheckAssignment
  have hlen : ((bl.length : Int) != (l.length : Int)) = false := by rw [hbl, bne_self_eq_false]
  rw [implReqs_eq hfu n l hB hl, hv, Option.bind_some, Bool.not_true, if_neg Bool.false_ne_true, hlen, Option.bind_some, if_neg Bool.false_ne_true]
  have hok : ∀ b ∈ bl, blkOk b = true ∨ b = b0 := by
    intro b hb
    obtain ⟨i, hi, rfl⟩ := List.mem_iff_getElem.1 hb
    left
    rw [← gd_in b0 hi]
    exact blk_at hF (by omega) hA hbl (by omega)
  have := scan_any (l := bl) (G := impl_CheckAssignment_L1 fu l bl) (fun _ => false) (0, false) (by omega)
    (fun fk i hi _ => by
      have hi' : i < l.length := by omega
      have hc : ((gd bl i b0).Count != (gd l i r0).Count) = false := by rw [(hA i hi).1, bne_self_eq_false]
      rw [impl_CheckAssignment_L1, if_pos (by simpa using hi), idx_gd b0 hi, Option.bind_some, implBlk_eq, Option.bind_some, blk_at hF (by omega) hA hbl hi', Bool.not_true, if_neg Bool.false_ne_true, idx_gd r0 hi', Option.bind_some, hc, if_neg Bool.false_ne_true, isFreeC_eq hfu hF (by omega) hA hbl hi', Option.bind_some, Bool.not_true, Option.bind_some])
    (fun fk => by rw [impl_CheckAssignment_L1, if_neg (by simp)]) fu (by omega)
  rw [this]
  have hf : (List.range bl.length).any (fun _ => false) = false := by simp
  rw [hf, if_neg Bool.false_ne_true]
  simp only [Option.bind_some, Out.on]
  rw [(heightOf_eq hfu bl (by omega) hok).1]
  rfl
theorem check_ex {fu : Nat} (hfu : 2097153 ≤ fu) (n : Network) (l : List Request) (hB : NetB n) (hl : ReqB l) : ∃ z, impl_CheckAssignment fu n l [] = some z := by
  unfold impl_CheckAssignment
  rw [implReqs_eq hfu n l hB hl]
  cases hv : reqsOk n l
  · exact ⟨_, rfl⟩
  rw [Option.bind_some, Bool.not_true, if_neg Bool.false_ne_true]
  by_cases hz : l.length = 0
  · have hlen : (((([] : List Block).length : Nat) : Int) != (l.length : Int)) = false := by rw [hz]; rfl
    rw [hlen, Option.bind_some, if_neg Bool.false_ne_true]
    obtain ⟨fu, rfl⟩ : ∃ g, fu = g + 1 := ⟨fu - 1, by omega⟩
    rw [impl_CheckAssignment_L1, if_neg (by simp)]
    simp only [Option.bind_some, Out.on]
    rw [(heightOf_eq (by omega) [] (by simp) (by simp)).1]
    exact ⟨_, rfl⟩
  · have hlen : (((([] : List Block).length : Nat) : Int) != (l.length : Int)) = true := by
      rw [bne_iff_ne, List.length_nil]; omega
    rw [hlen, Option.bind_some, if_pos rfl]
    exact ⟨_, rfl⟩
end AT

namespace AT
theorem gd_setS {l : List Int} {i j : Nat} {x : Int} (hi : i < l.length) : gd (l.set i x) j 0 = if j = i then x else gd l j 0 := by
  unfold gd
  by_cases h : j = i
  · subst h; rw [List.getElem?_set_self hi, if_pos rfl]; rfl
  · rw [List.getElem?_set_ne (by omega), if_neg h]
def Ins (l : List Int) (j i : Nat) : Prop := (∀ a b, a < b → b ≤ i → a ≠ j → b ≠ j → gd l a 0 ≤ gd l b 0) ∧ ∀ b, j < b → b ≤ i → gd l j 0 ≤ gd l b 0
def Srt (l : List Int) (i : Nat) : Prop := ∀ a b, a < b → b ≤ i → gd l a 0 ≤ gd l b 0
theorem Ins.swap {l : List Int} {j i : Nat} (h : Ins l j i) (h0 : 0 < j) (hj : j < l.length) (hji : j ≤ i) (hlt : gd l j 0 < gd l (j - 1) 0) : Ins ((l.set j (gd l (j - 1) 0)).set (j - 1) (gd l j 0)) (j - 1) i := by
  have e : ∀ k, gd ((l.set j (gd l (j - 1) 0)).set (j - 1) (gd l j 0)) k 0 = if k = j - 1 then gd l j 0 else if k = j then gd l (j - 1) 0 else gd l k 0 := by
    intro k
    rw [gd_setS (by rw [List.length_set]; omega), gd_setS hj]
  refine ⟨fun a b hab hb ha hb' => ?_, fun b hb hbi => ?_⟩
  · rw [e, e, if_neg ha, if_neg hb']
    by_cases h1 : a = j
    · rw [if_pos h1, if_neg (show ¬ b = j by omega)]
      exact h.1 (j - 1) b (by omega) hb (by omega) (by omega)
    · rw [if_neg h1]
      by_cases h2 : b = j
      · rw [if_pos h2]
        exact h.1 a (j - 1) (by omega) (by omega) h1 (by omega)
      · rw [if_neg h2]
        exact h.1 a b hab hb h1 h2
  · rw [e, e, if_pos rfl, if_neg (show ¬ b = j - 1 by omega)]
    by_cases h2 : b = j
    · rw [if_pos h2]; omega
    · rw [if_neg h2]; exact h.2 b (by omega) hbi
theorem Ins.done {l : List Int} {j i : Nat} (h : Ins l j i) (hs : j = 0 ∨ gd l (j - 1) 0 ≤ gd l j 0) : Srt l i := by
  intro a b hab hb
  by_cases h1 : a = j
  · rw [h1]; exact h.2 b (by omega) hb
  · by_cases h2 : b = j
    · rw [h2]
      have hs' : gd l (j - 1) 0 ≤ gd l j 0 := by
        rcases hs with h | h
        · omega
        · exact h
      by_cases h3 : a = j - 1
      · rw [h3]; exact hs'
      · have := h.1 a (j - 1) (by omega) (by omega) h1 (by omega)
        omega
    · exact h.1 a b hab hb h1 h2
theorem insS_loop {fu : Nat} (i : Nat) : ∀ (fk j : Nat) (l : List Int), j < fk → j ≤ i → i < l.length → l.length ≤ 2097152 → Ins l j i → ∃ l' j', slices_insertionSortOrdered_int_L2 fu 0 fk l j = some (l', j') ∧ l'.Perm l ∧ Srt l' i := by
  intro fk
  induction fk with
  | zero => intro j _ h; omega
  | succ fk ih =>
    intro j l hk hji hi hl hI
    have hj : j < l.length := by omega
    rw [slices_insertionSortOrdered_int_L2]
    by_cases h0 : 0 < j
    · have h0' : (j : Int) > 0 := by omega
      have hj1 : j - 1 < l.length := by omega
      simp only [h0', decide_true, if_true, idx_gd 0 hj, w64_dec h0 (show j ≤ 2097152 by omega), idx_gd 0 hj1, Option.bind_some, less_eq]
      by_cases hc : gd l j 0 < gd l (j - 1) 0
      · have hj2 : j - 1 < (l.set j (gd l (j - 1) 0)).length := by rw [List.length_set]; exact hj1
        simp only [hc, decide_true, if_true, Int.toNat_natCast, idx_gd 0 hj2, Option.bind_some]
        obtain ⟨l', j', h1, h2, h3⟩ := ih (j - 1) ((l.set j (gd l (j - 1) 0)).set (j - 1) (gd l j 0)) (by omega) (by omega) (by simp; omega) (by simpa using hl) (hI.swap h0 hj hji hc)
        refine ⟨l', j', h1, h2.trans ?_, h3⟩
        rw [gd_in 0 hj, gd_in 0 hj1]
        exact List.set_set_perm hj hj1
      · simp only [hc, decide_false, Bool.false_eq_true, if_false]
        exact ⟨_, _, rfl, .refl _, hI.done (.inr (by omega))⟩
    · have h0' : ¬ (j : Int) > 0 := by omega
      simp only [h0', decide_false, Bool.false_eq_true, if_false, Option.bind_some]
      exact ⟨_, _, rfl, .refl _, hI.done (.inl (by omega))⟩
theorem insS_all {fu : Nat} (n : Nat) (hn : n ≤ 2097152) (hfu : n < fu) : ∀ (fk i : Nat) (l : List Int), n - i < fk → 1 ≤ i → i ≤ n ∨ n = 0 → l.length = n → Srt l (i - 1) → ∃ l' i', slices_insertionSortOrdered_int_L1 fu 0 n fk l i = some (l', i') ∧ l'.Perm l ∧ Srt l' (n - 1) := by
  intro fk
  induction fk with
  | zero => intro i _ h; omega
  | succ fk ih =>
    intro i l hk hi hin hl hS
    rw [slices_insertionSortOrdered_int_L1]
    by_cases h : i < n
    · have h' : (i : Int) < (n : Int) := by omega
      obtain ⟨l', j', h1, h2, h3⟩ := insS_loop (fu := fu) i fu i l (by omega) (Nat.le_refl _) (by omega) (by omega) ⟨fun a b hab hb ha hb' => hS a b hab (by omega), fun b h1 h2 => by omega⟩
      obtain ⟨l2, i2, h4, h5, h6⟩ := ih (i + 1) l' (by omega) (by omega) (by omega) (by rw [h2.length_eq]; exact hl) (by simpa using h3)
      simp only [h', decide_true, if_true, h1, Option.bind_some, w64_inc h (show (n : Int) ≤ 9223372036854775807 by omega)]
      exact ⟨l2, i2, h4, h5.trans h2, h6⟩
    · have h' : ¬ (i : Int) < (n : Int) := by omega
      simp only [h', decide_false, Bool.false_eq_true, if_false]
      refine ⟨_, _, rfl, .refl _, fun a b hab hb => ?_⟩
      exact hS a b hab (by omega)
theorem sort_srt {fu : Nat} (hfu : 2097153 ≤ fu) (l : List Int) (h : l.length ≤ 12) : ∃ l', slices_Sort_int_int fu l = some l' ∧ l'.Perm l ∧ Srt l' (l.length - 1) := by
  unfold slices_Sort_int_int slices_pdqsortOrdered_int
  obtain ⟨k, hk⟩ := len8 (fu := fu) (x := (⟨wu64 (l.length : Int)⟩ : U64)) (by simp only [wu64]; omega) (by simp only [wu64]; omega)
  obtain ⟨fk, rfl⟩ := Nat.exists_eq_succ_of_ne_zero (show fu ≠ 0 by omega)
  obtain ⟨l', i', h1, h2, h3⟩ := insS_all (fu := fk.succ) l.length (by omega) (by omega) fk.succ 1 l (by omega) (by omega) (by omega) rfl (fun a b hab hb => by omega)
  rw [hk, Option.bind_some, slices_pdqsortOrdered_int_L1]
  have hd : decide (w64 ((l.length : Int) - 0) ≤ 12) = true := by rw [w64_in (by omega) (by omega)]; simp; omega
  have h01 : w64 (0 + 1) = ((1 : Nat) : Int) := by decide
  simp only [hd, if_true, slices_insertionSortOrdered_int, h01, h1, Option.bind_some]
  exact ⟨_, rfl, h2, h3⟩
end AT

namespace AT
theorem cloneI_eq {fu : Nat} (l : List Int) (h : l.length ≤ 2097152) : slices_Clone_int_int fu l = some l := by
  have hc : app ([] : List Int) l = some l := by unfold app; rw [if_pos (by simp; omega)]; rfl
  unfold slices_Clone_int_int
  rw [hc]
  unfold nilCase
  cases l <;> simp
def sBad (l : List Int) (hi : Int) (i : Nat) : Bool := !(decide (0 ≤ gd l i 0) && decide (gd l i 0 ≤ hi)) || (decide (0 < i) && decide (gd l (i - 1) 0 ≥ gd l i 0))
theorem isSetG_eq {fu : Nat} (l : List Int) (n : Int) (h : l.length < fu) (hn : l.length ≤ 2097152) : impl_isSet fu l n = some (!((List.range l.length).any (sBad l (w64 (n - 1))))) := by
  unfold impl_isSet
  rw [scan_all (l := List.range l.length) (G := impl_isSet_L1 fu l n) (sBad l (w64 (n - 1))) (fun i => false) (by simp; omega)
    (fun fk i hk => by
      have hi' : i < l.length := by simpa using hk
      rw [impl_isSet_L1, if_pos (by simpa using hi'), idx_gd 0 hi', List.getElem_range]
      obtain ⟨b1, h1⟩ : ∃ b, b = (decide (0 ≤ gd l i 0) && decide (gd l i 0 ≤ w64 (n - 1))) := ⟨_, rfl⟩
      simp only [Option.bind_some, within_eq, sBad, ← h1]
      cases b1
      · rfl
      by_cases h0 : 0 < i
      · rw [w64_dec h0 (by omega), idx_gd 0 (show i - 1 < l.length by omega)]
        simp [h0]
      · simp [h0])
    (fun fk => by rw [List.length_range, impl_isSet_L1, if_neg (by simp)]) fu (by simpa using h)]
  cases (List.range l.length).any (sBad l (w64 (n - 1))) <;> rfl
def oBad (l : List Int) (hi : Int) (i : Nat) : Bool := !(decide (0 ≤ gd l i 0) && decide (gd l i 0 ≤ hi)) || (l.take i).any fun x => x == gd l i 0
theorem order_eq {fu : Nat} (hfu : 2097153 ≤ fu) (l : List Int) (n : Int) (hn : l.length ≤ 2097152) : spec_l12Order fu l n = some (!((List.range l.length).any (oBad l (w64 (n - 1)))) && ((l.length : Int) == n)) := by
  unfold spec_l12Order
  rw [scan_all (l := List.range l.length) (G := spec_l12Order_L1 fu l n) (oBad l (w64 (n - 1))) (fun i => false) (by simp; omega)
    (fun fk i hk => by
      have hi' : i < l.length := by simpa using hk
      rw [spec_l12Order_L1, if_pos (by simpa using hi'), idx_gd 0 hi', List.getElem_range]
      obtain ⟨b1, h1⟩ : ∃ b, b = (decide (0 ≤ gd l i 0) && decide (gd l i 0 ≤ w64 (n - 1))) := ⟨_, rfl⟩
      simp only [Option.bind_some, l1In_eq, oBad, ← h1]
      cases b1
      · rfl
      · rw [sub_take (Nat.le_of_lt hi'), Option.bind_some, l1Has_eq _ _ (by rw [List.length_take]; omega) (by rw [List.length_take]; omega)]
        simp)
    (fun fk => by rw [List.length_range, spec_l12Order_L1, if_neg (by simp)]) fu (by simp; omega)]
  cases (List.range l.length).any (oBad l (w64 (n - 1))) <;> rfl
theorem oBad_iff (l : List Int) (n : Nat) (hn : n ≤ 1000) : (List.range l.length).any (oBad l (w64 ((n : Int) - 1))) = false ↔ (∀ e ∈ l, 0 ≤ e ∧ e < (n : Int)) ∧ l.Nodup := by
  have hw : w64 ((n : Int) - 1) = (n : Int) - 1 := w64_in (by omega) (by omega)
  rw [hw, List.any_eq_false]
  constructor
  · intro h
    refine ⟨fun e he => ?_, ?_⟩
    · obtain ⟨i, hi, rfl⟩ := List.mem_iff_getElem.1 he
      have := h i (List.mem_range.2 hi)
      unfold oBad at this
      rw [gd_in 0 hi] at this
      simp only [Bool.or_eq_true, not_or, Bool.not_eq_true', Bool.not_eq_false, Bool.and_eq_true, decide_eq_true_eq] at this
      omega
    · rw [List.Nodup, List.pairwise_iff_getElem]
      intro i j hi hj hij he
      have := h j (List.mem_range.2 hj)
      unfold oBad at this
      simp only [Bool.or_eq_true, not_or, Bool.not_eq_true] at this
      have h2 := this.2
      rw [List.any_eq_false] at h2
      refine h2 l[i] (List.mem_iff_getElem.2 ⟨i, by rw [List.length_take]; omega, by rw [List.getElem_take]⟩) ?_
      rw [beq_iff_eq, gd_in 0 hj]
      exact he
  · rintro ⟨h1, h2⟩ i hi
    have hi' := List.mem_range.1 hi
    have h3 := h1 _ (List.getElem_mem hi')
    unfold oBad
    rw [gd_in 0 hi']
    have h4 : ((l.take i).any fun x => x == l[i]) = false := by
      rw [List.any_eq_false]
      intro x hx
      obtain ⟨j, hj, rfl⟩ := List.mem_iff_getElem.1 hx
      rw [List.length_take] at hj
      rw [List.getElem_take, beq_iff_eq]
      intro he
      have := (List.getElem_inj h2).1 he
      omega
    have h5 : l[i] ≤ (n : Int) - 1 := by omega
    simp [h4, h3.1, h5]
theorem sBad_iff (l s : List Int) (n : Nat) (hn : n ≤ 1000) (hp : s.Perm l) (hs : Srt s (l.length - 1)) : (List.range s.length).any (sBad s (w64 ((n : Int) - 1))) = false ↔ (∀ e ∈ l, 0 ≤ e ∧ e < (n : Int)) ∧ l.Nodup := by
  have hw : w64 ((n : Int) - 1) = (n : Int) - 1 := w64_in (by omega) (by omega)
  have hlen := hp.length_eq
  rw [hw, List.any_eq_false, ← hp.nodup_iff]
  constructor
  · intro h
    have hrise : ∀ a b, a < b → b < s.length → gd s a 0 < gd s b 0 := by
      intro a b hab hb
      have := h b (List.mem_range.2 hb)
      unfold sBad at this
      have h0 : 0 < b := by omega
      simp only [h0, decide_true, Bool.true_and, Bool.or_eq_true, not_or, decide_eq_true_eq] at this
      have h1 := this.2
      by_cases hab' : a = b - 1
      · rw [hab']; omega
      · have := hs a (b - 1) (by omega) (by omega)
        omega
    refine ⟨fun e he => ?_, ?_⟩
    · obtain ⟨i, hi, rfl⟩ := List.mem_iff_getElem.1 (hp.mem_iff.2 he)
      have := h i (List.mem_range.2 hi)
      unfold sBad at this
      rw [gd_in 0 hi] at this
      simp only [Bool.or_eq_true, not_or, Bool.not_eq_true', Bool.not_eq_false, Bool.and_eq_true, decide_eq_true_eq] at this
      omega
    · rw [List.Nodup, List.pairwise_iff_getElem]
      intro i j hi hj hij he
      have := hrise i j hij hj
      rw [gd_in 0 (show i < s.length by omega), gd_in 0 hj] at this
      omega
  · rintro ⟨h1, h2⟩ i hi
    have hi' := List.mem_range.1 hi
    have h3 := h1 _ (hp.mem_iff.1 (List.getElem_mem hi'))
    unfold sBad
    have h5 : gd s i 0 ≤ (n : Int) - 1 := by rw [gd_in 0 hi']; omega
    have h6 : 0 ≤ gd s i 0 := by rw [gd_in 0 hi']; exact h3.1
    by_cases h0 : 0 < i
    · have h7 := hs (i - 1) i (by omega) (by omega)
      have h8 : ¬ gd s (i - 1) 0 ≥ gd s i 0 := by
        intro hge
        have he : gd s (i - 1) 0 = gd s i 0 := by omega
        rw [gd_in 0 (show i - 1 < s.length by omega), gd_in 0 hi'] at he
        have := (List.getElem_inj h2).1 he
        omega
      simp [h5, h6, h8]
    · simp [h5, h6, h0]
theorem assignGreedy_both {fu : Nat} (hfu : 2097153 ≤ fu) (n : Network) (l : List Request) (hB : NetB n) (hl : ReqB l) (order : List Int) (ho : order.length ≤ 12) :
    (impl_AssignGreedy fu n l order = some ([], 0, false) ∧ spec_AssignGreedy fu n l order = some ([], 0, false)) ∨
    ∃ bl, reqsOk n l = true ∧ impl_AssignGreedy fu n l order = some (bl, hgt bl, true) ∧ spec_AssignGreedy fu n l order = some (bl, hgt bl, true) ∧ bl.length = l.length ∧ As l 24 bl := by
  obtain ⟨s, s1, s2, s3⟩ := sort_srt hfu order ho
  have hsl := s2.length_eq
  unfold impl_AssignGreedy spec_AssignGreedy
  rw [cloneI_eq order (by omega), Option.bind_some, s1, Option.bind_some, implReqs_eq hfu n l hB hl, specReqs_eq hfu n l hB hl]
  cases hv : reqsOk n l
  · exact .inl ⟨rfl, rfl⟩
  have hF := reqF hv
  have h7 := hF.len
  rw [Option.bind_some, Option.bind_some, Bool.not_true, if_neg Bool.false_ne_true, if_neg Bool.false_ne_true, order_eq hfu order _ (by omega), Option.bind_some, isSetG_eq s _ (by omega) (by omega), Option.bind_some]
  by_cases hlen : order.length = l.length
  · have e1 : ((order.length : Int) != (l.length : Int)) = false := by rw [hlen, bne_self_eq_false]
    have e2 : ((order.length : Int) == (l.length : Int)) = true := by rw [hlen, beq_self_eq_true]
    rw [e1, e2, if_neg Bool.false_ne_true, Bool.and_true, Option.bind_some, Option.bind_some]
    have i1 := sBad_iff order s l.length (by omega) s2 s3
    have i2 := oBad_iff order l.length (by omega)
    by_cases hp : (∀ e ∈ order, 0 ≤ e ∧ e < (l.length : Int)) ∧ order.Nodup
    · rw [i1.2 hp, i2.2 hp]
      simp only [Bool.not_false, Bool.not_true, Bool.false_eq_true, if_false]
      rcases greedy_both hfu hF hp.1 hp.2 with ⟨g1, g2⟩ | ⟨bl, g1, g2, g3, g4, g5⟩
      · rw [g1, g2]
        exact .inl ⟨rfl, rfl⟩
      · rw [g1, g2]
        simp only [Option.bind_some, Bool.not_true, Bool.false_eq_true, if_false, g3]
        exact .inr ⟨bl, by first | trivial | rfl, by first | trivial | rfl, by first | trivial | rfl, g4, g5 hlen⟩
    · have q1 : (List.range s.length).any (sBad s (w64 ((l.length : Int) - 1))) = true := by
        rw [← Bool.not_eq_false]; exact fun h => hp (i1.1 h)
      have q2 : (List.range order.length).any (oBad order (w64 ((l.length : Int) - 1))) = true := by
        rw [← Bool.not_eq_false]; exact fun h => hp (i2.1 h)
      rw [q1, q2]
      exact .inl ⟨rfl, rfl⟩
  · have e1 : ((order.length : Int) != (l.length : Int)) = true := by rw [bne_iff_ne]; omega
    have e2 : ((order.length : Int) == (l.length : Int)) = false := by rw [beq_eq_false_iff_ne]; omega
    rw [e1, e2, if_pos rfl, Bool.and_false]
    exact .inl ⟨rfl, rfl⟩
end AT

namespace AT
structure Cur (c : L1CurP) (k : Int) : Prop where
  by_ : ∀ e ∈ c.code, 0 ≤ e.n ∧ e.n ≤ 255
  len : c.code.length ≤ 65536
  lo : 0 ≤ c.at_
  hi : c.at_ ≤ k
theorem and255 (q : Int) : 0 ≤ andu64 q 255 ∧ andu64 q 255 ≤ 255 := by
  unfold andu64
  have h : (BitVec.ofInt 64 q &&& BitVec.ofInt 64 255).toNat ≤ 255 := by
    rw [BitVec.toNat_and]
    exact Nat.le_trans Nat.and_le_right (by decide)
  unfold wu64
  omega
theorem next_ok {fu : Nat} {c : L1CurP} {k : Int} (hc : Cur c k) (hk : k ≤ 4611686018427387904) : ∃ r c', spec_l1Cur_next fu c = some (r, c') ∧ 0 ≤ r ∧ r ≤ 255 ∧ Cur c' (k + 1) := by
  have h0 := hc.lo
  have h1 := hc.hi
  have hl := hc.len
  have e1 : w64 (c.at_ + 1) = c.at_ + 1 := w64_in (by omega) (by omega)
  unfold spec_l1Cur_next
  have hsh : ∀ x : Int, shrk 64 x 40 = some (x.fdiv (2 ^ (min (40 : Int).toNat 64))) := fun x => by unfold shrk; rw [if_neg (by omega)]
  simp only [e1, hsh, Option.bind_some]
  have hcur : ∀ s, Cur ⟨c.code, c.at_ + 1, s⟩ (k + 1) := fun s => ⟨hc.by_, hc.len, by simp only; omega, by simp only; omega⟩
  have ha : ∀ q : Int, 0 ≤ w64 (andu64 q 255) ∧ w64 (andu64 q 255) ≤ 255 := fun q => by
    have := and255 q
    rw [w64_in (by omega) (by omega)]; exact this
  by_cases h : c.at_ < c.code.length
  · simp only [h, decide_true, if_true]
    obtain ⟨e, he, hm⟩ := idx_some (l := c.code) (i := c.at_) h0 h
    have hb := hc.by_ e hm
    have e2 : w64 e.n = e.n := w64_in (by omega) (by omega)
    simp only [he, Option.bind_some, e2]
    split
    · exact ⟨_, _, rfl, hb.1, hb.2, hcur _⟩
    · exact ⟨_, _, rfl, (ha _).1, (ha _).2, hcur _⟩
  · simp only [h, decide_false, Bool.false_eq_true, if_false]
    split
    · exact ⟨_, _, rfl, by omega, by omega, hcur _⟩
    · exact ⟨_, _, rfl, (ha _).1, (ha _).2, hcur _⟩
theorem Cur.mono {c : L1CurP} {k k' : Int} (hc : Cur c k) (h : k ≤ k') : Cur c k' := ⟨hc.by_, hc.len, hc.lo, Int.le_trans hc.hi h⟩
theorem pick_ok {fu : Nat} {c : L1CurP} {k : Int} (hc : Cur c k) (hk : k ≤ 4611686018427387000) (n : Int) (hn : n ≤ 1099511627776) : ∃ r c', spec_l1Cur_pick fu c n = some (r, c') ∧ 0 ≤ r ∧ (1 ≤ n → r < n) ∧ Cur c' (k + 2) := by
  unfold spec_l1Cur_pick
  by_cases h : n ≤ 1
  · simp only [h, decide_true, if_true]
    exact ⟨_, _, rfl, by omega, by omega, hc.mono (by omega)⟩
  · simp only [h, decide_false, Bool.false_eq_true, if_false]
    obtain ⟨r, c', g1, g2, g3, g4⟩ := next_ok (fu := fu) hc (by omega)
    simp only [g1, Option.bind_some]
    have hr : ∀ x : Int, 0 ≤ x → ∃ q, rem x n = some q ∧ 0 ≤ q ∧ q < n := fun x hx => by
      unfold rem
      rw [if_neg (by omega), Int.tmod_eq_emod_of_nonneg hx]
      exact ⟨_, rfl, Int.emod_nonneg _ (by omega), Int.emod_lt_of_pos _ (by omega)⟩
    by_cases h2 : n > 200
    · simp only [h2, decide_true, if_true]
      obtain ⟨r2, c2, q1, q2, q3, q4⟩ := next_ok (fu := fu) g4 (by omega)
      simp only [q1, Option.bind_some]
      rw [w64_in (n := r * 256) (by omega) (by omega), w64_in (by omega) (by omega)]
      obtain ⟨q, p1, p2, p3⟩ := hr (r * 256 + r2) (by omega)
      rw [p1]
      exact ⟨_, _, rfl, p2, fun _ => p3, q4.mono (by omega)⟩
    · simp only [h2, decide_false, Bool.false_eq_true, if_false]
      obtain ⟨q, p1, p2, p3⟩ := hr r g2
      rw [p1]
      exact ⟨_, _, rfl, p2, fun _ => p3, g4.mono (by omega)⟩
theorem among_ok {fu : Nat} {c : L1CurP} {k : Int} (hc : Cur c k) (hk : k ≤ 4611686018427387000) (l : List Int) (h1 : 1 ≤ l.length) (hn : l.length ≤ 1099511627776) : ∃ r c', spec_l1Cur_among fu c l = some (r, c') ∧ r ∈ l ∧ Cur c' (k + 2) := by
  unfold spec_l1Cur_among
  obtain ⟨r, c', g1, g2, g3, g4⟩ := pick_ok (fu := fu) hc hk (l.length : Int) (by omega)
  obtain ⟨e, he, hm⟩ := idx_some (l := l) (i := r) g2 (g3 (by omega))
  simp only [g1, Option.bind_some, he]
  exact ⟨_, _, rfl, hm, g4⟩
theorem start_cur {code : List By} (h : ∀ e ∈ code, 0 ≤ e.n ∧ e.n ≤ 255) (hl : code.length ≤ 65536) : Cur ⟨code, 0, ⟨0⟩⟩ 0 := ⟨h, hl, Int.le_refl _, Int.le_refl _⟩
end AT

namespace AT
end AT

namespace AT
end AT

namespace AT
end AT

namespace AT
end AT

namespace AT
end AT

namespace AT
structure NetD (n : Network) : Prop where
  n1 : 1 ≤ n.Nodes.length
  n2 : n.Nodes.length ≤ 20
  ns : ∀ e ∈ n.Nodes, e.size ≤ 100
  f2 : n.Fibers.length ≤ 20
theorem NetD.B {n : Network} (h : NetD n) : NetB n := ⟨⟨by have := h.n2; omega, fun e he => by have := h.ns e he; omega⟩, by have := h.f2; omega⟩
theorem rem_ok {a n : Int} (ha : 0 ≤ a) (hn : 0 < n) : ∃ q, rem a n = some q ∧ 0 ≤ q ∧ q < n := by
  unfold rem
  rw [if_neg (by omega), Int.tmod_eq_emod_of_nonneg ha]
  exact ⟨_, rfl, Int.emod_nonneg _ (by omega), Int.emod_lt_of_pos _ hn⟩
theorem app1 {α : Type} {l : List α} {x : α} (h : l.length ≤ 1000000) : app l [x] = some (l ++ [x]) := app_ok (by simp; omega)
theorem least_ex (fu : Nat) (a b : Int) : ∃ r, spec_l1Least fu a b = some r ∧ (r = a ∨ r = b) := by
  unfold spec_l1Least; split <;> exact ⟨_, rfl, by simp⟩
theorem most_ex (fu : Nat) (a b : Int) : ∃ r, spec_l1Most fu a b = some r ∧ (r = a ∨ r = b) := by
  unfold spec_l1Most; split <;> exact ⟨_, rfl, by simp⟩
theorem l2Put_loop {fu : Nat} (l : List Fiber) (f : Fiber) (hl : l.length ≤ 1000000) : ∀ (fk i : Nat), i ≤ l.length → l.length - i < fk → ∃ j : Nat, spec_l2Put_L1 fu l f fk i = some (j : Int) ∧ j ≤ l.length := by
  intro fk
  induction fk with
  | zero => intro i _ h; omega
  | succ fk ih =>
    intro i hi hf
    rw [spec_l2Put_L1]
    by_cases h : i < l.length
    · have hlt : ((i : Int) < (l.length : Int)) = True := by simp; omega
      simp only [hlt, decide_true, if_true, idx_in h, Option.bind_some, l2Before_eq, w64_inc h (show (l.length : Int) ≤ 9223372036854775807 by omega)]
      split
      · exact ih (i + 1) h (by omega)
      · exact ⟨i, rfl, hi⟩
    · have hlt : ((i : Int) < (l.length : Int)) = False := by simp; omega
      simp only [hlt, decide_false, Bool.false_eq_true, if_false, Option.bind_some]
      exact ⟨i, rfl, hi⟩
theorem l2Put_ok {fu : Nat} (hfu : 2097153 ≤ fu) (l : List Fiber) (f : Fiber) (hl : l.length ≤ 1000000) : ∃ r, spec_l2Put fu l f = some r ∧ r.length = l.length + 1 := by
  unfold spec_l2Put
  obtain ⟨j, h1, h2⟩ := l2Put_loop (fu := fu) l f hl fu 0 (by omega) (by omega)
  have hs : sub l (j : Int) (l.length : Int) = some (l.drop j) := by
    unfold sub
    rw [if_pos (by omega)]
    simp
  rw [show ((0 : Nat) : Int) = 0 from rfl] at h1
  rw [h1, Option.bind_some, sub_take h2, Option.bind_some, hs, Option.bind_some, app_nil (by rw [List.length_take]; omega), Option.bind_some, app_ok (by rw [List.length_take, List.length_singleton]; omega), Option.bind_some, app_ok (by rw [List.length_append, List.length_take, List.length_singleton, List.length_drop]; omega), Option.bind_some]
  refine ⟨_, rfl, ?_⟩
  simp only [List.length_append, List.length_take, List.length_singleton, List.length_drop]
  omega
theorem net_loop1 {fu : Nat} (hfu : 2097153 ≤ fu) (y : Int × L1CurP) (K : Nat) (hK : w64 (2 + y.1) = (K : Int)) (h2 : 2 ≤ K) (h6 : K ≤ 6) : ∀ (fk i : Nat) (m : List By) (m2 : Int) (m3 : U64) (l : List Fiber) (k B : Int), Cur ⟨m, m2, m3⟩ k → k ≤ B + 10 * (i : Int) → B ≤ 1000000000 → l.length ≤ i → i ≤ K → K - i < fk →
    ∃ i' m' a' s' l', spec_l1Cur_network_L1 fu y fk i m m2 m3 l = some (i', m', a', s', l') ∧ l'.length ≤ K ∧ Cur ⟨m', a', s'⟩ (B + 10 * (K : Int)) := by
  intro fk
  induction fk with
  | zero => intro i _ _ _ _ _ _ _ _ _ _ _ h; omega
  | succ fk ih =>
    intro i m m2 m3 l k B hc hk hB hl hi hf
    rw [spec_l1Cur_network_L1, hK]
    by_cases h : i < K
    · have hlt : ((i : Int) < (K : Int)) = True := by simp; omega
      have e : w64 ((i : Int) + 1) = ((i + 1 : Nat) : Int) := w64_inc h (by omega)
      obtain ⟨q, hq, q0, q1⟩ := rem_ok (a := ((i + 1 : Nat) : Int)) (n := (K : Int)) (by omega) (by omega)
      obtain ⟨r1, c1, g1, -, -, k1⟩ := pick_ok (fu := fu) hc (by omega) 10 (by decide)
      simp only [hlt, decide_true, if_true, e, hq, Option.bind_some, spec_l1Cur_one, g1]
      have k1' : Cur ⟨c1.code, c1.at_, c1.seed⟩ (k + 2) := k1
      split
      · exact ih (i + 1) _ _ _ _ k B hc (by omega) hB (by omega) h (by omega)
      · split
        · exact ih (i + 1) _ _ _ _ (k + 2) B k1' (by omega) hB (by omega) h (by omega)
        · obtain ⟨r3, g3, -⟩ := least_ex fu (i : Int) q
          obtain ⟨r4, g4, -⟩ := most_ex fu (i : Int) q
          obtain ⟨r5, c5, g5, -, -, k5⟩ := pick_ok (fu := fu) k1 (by omega) 8 (by decide)
          obtain ⟨r6, c6, g6, -, k6⟩ := among_ok (fu := fu) k5 (by omega) [0, 0, 0, 1, 2] (by decide) (by decide)
          obtain ⟨r7, g7, h7⟩ := l2Put_ok hfu l ({ A := r3, B := r4, Length := w64 (100 * (w64 (1 + r5))), Risk := r6 } : Fiber) (by omega)
          simp only [g3, g4, g5, g6, g7, Option.bind_some]
          exact ih (i + 1) _ _ _ _ (k + 2 + 2 + 2) B k6 (by omega) hB (by omega) h (by omega)
    · obtain rfl : i = K := by omega
      have hlt : ((i : Int) < (i : Int)) = False := by simp
      simp only [hlt, decide_false, Bool.false_eq_true, if_false]
      exact ⟨_, _, _, _, _, rfl, hl, hc.mono (by omega)⟩
theorem net_loop2 {fu : Nat} (hfu : 2097153 ≤ fu) (y : Int × L1CurP) (K : Nat) (hK : w64 (2 + y.1) = (K : Int)) (h2 : 2 ≤ K) (h6 : K ≤ 6) : ∀ (fk n : Nat) (l : List Fiber) (m : List By) (m2 : Int) (m3 : U64) (k B : Int), Cur ⟨m, m2, m3⟩ k → k ≤ B - 10 * (n : Int) → B ≤ 1000000000 → l.length + n ≤ 9 → n < fk →
    ∃ i' l' m' a' s', spec_l1Cur_network_L2 fu y fk (n : Int) l m m2 m3 = some (i', l', m', a', s') ∧ l'.length ≤ 9 ∧ l.length ≤ l'.length ∧ Cur ⟨m', a', s'⟩ B := by
  intro fk
  induction fk with
  | zero => intro n _ _ _ _ _ _ _ _ _ _ h; omega
  | succ fk ih =>
    intro n l m m2 m3 k B hc hk hB hl hf
    rw [spec_l1Cur_network_L2, hK]
    by_cases h : 0 < n
    · have hlt : ((n : Int) > 0) = True := by simp; omega
      have e : w64 ((n : Int) - 1) = ((n - 1 : Nat) : Int) := w64_dec h (by omega)
      obtain ⟨r1, c1, g1, -, -, k1⟩ := pick_ok (fu := fu) hc (by omega) (K : Int) (by omega)
      obtain ⟨r2, c2, g2, -, -, k2⟩ := pick_ok (fu := fu) k1 (by omega) (K : Int) (by omega)
      simp only [hlt, decide_true, if_true, e, g1, g2, Option.bind_some]
      split
      · obtain ⟨r3, g3, -⟩ := least_ex fu r1 r2
        obtain ⟨r4, g4, -⟩ := most_ex fu r1 r2
        obtain ⟨r5, c5, g5, -, -, k5⟩ := pick_ok (fu := fu) k2 (by omega) 8 (by decide)
        obtain ⟨r6, c6, g6, -, k6⟩ := among_ok (fu := fu) k5 (by omega) [0, 0, 0, 1, 2] (by decide) (by decide)
        obtain ⟨r7, g7, h7⟩ := l2Put_ok hfu l ({ A := r3, B := r4, Length := w64 (100 * (w64 (1 + r5))), Risk := r6 } : Fiber) (by omega)
        simp only [g3, g4, g5, g6, g7, Option.bind_some]
        obtain ⟨i', l', m', a', s', q1, q2, q3, q4⟩ := ih (n - 1) r7 _ _ _ (k + 2 + 2 + 2 + 2) B k6 (by omega) hB (by omega) (by omega)
        exact ⟨i', l', m', a', s', q1, q2, by omega, q4⟩
      · exact ih (n - 1) _ _ _ _ (k + 2 + 2) B k2 (by omega) hB (by omega) (by omega)
    · obtain rfl : n = 0 := by omega
      rw [if_neg (by simp)]
      exact ⟨_, _, _, _, _, rfl, by omega, Nat.le_refl _, hc.mono (by omega)⟩
theorem network_ok {fu : Nat} (hfu : 2097153 ≤ fu) {c : L1CurP} {k : Int} (hc : Cur c k) (hk : k ≤ 900000000) : ∃ r c', spec_l1Cur_network fu c = some (r, c') ∧ NetD r ∧ r.Nodes.length ≤ 6 ∧ r.Fibers.length ≤ 9 ∧ Cur c' (k + 200) := by
  unfold spec_l1Cur_network
  obtain ⟨r1, c1, g1, p0, p1, k1⟩ := pick_ok (fu := fu) hc (by omega) 5 (by decide)
  have p2 := p1 (by decide)
  have hK : w64 (2 + r1) = (((2 + r1).toNat : Nat) : Int) := by rw [w64_in (by omega) (by omega)]; omega
  have hK2 : 2 ≤ (2 + r1).toNat := by omega
  have hK6 : (2 + r1).toNat ≤ 6 := by omega
  obtain ⟨i2, m2, a2, s2, l2, g2, h2, k2⟩ := net_loop1 hfu (r1, c1) (2 + r1).toNat hK hK2 hK6 fu 0 c1.code c1.at_ c1.seed [] (k + 2) (k + 2) k1 (by omega) (by omega) (by simp) (by omega) (by omega)
  obtain ⟨r3, c3, g3, q0, q1, k3⟩ := pick_ok (fu := fu) k2 (by omega) 4 (by decide)
  have q2 := q1 (by decide)
  obtain ⟨i4, l4, m4, a4, s4, g4, h4, -, k4⟩ := net_loop2 hfu (r1, c1) (2 + r1).toNat hK hK2 hK6 fu r3.toNat l2 c3.code c3.at_ c3.seed (k + 2 + 10 * ((2 + r1).toNat : Int) + 2) (k + 200) k3 (by omega) (by omega) (by omega) (by omega)
  rw [Int.ofNat_zero] at g2
  rw [Int.toNat_of_nonneg q0] at g4
  simp only [g1, Option.bind_some, hK]
  rw [sub_take (by simp; omega)]
  simp only [g2, g3, g4, Option.bind_some]
  refine ⟨_, _, rfl, ⟨by simp; omega, by simp; omega, fun e he => ?_, by simp only; omega⟩, by simp; omega, h4, k4⟩
  have he' := List.mem_of_mem_take he
  simp only [List.mem_cons, List.not_mem_nil, or_false] at he'
  rcases he' with rfl | rfl | rfl | rfl | rfl | rfl <;> decide
theorem linked_ok {fu : Nat} (hfu : 2097153 ≤ fu) {c : L1CurP} {k : Int} (hc : Cur c k) (hk : k ≤ 900000000) : ∃ r c', spec_l1Cur_linked fu c = some (r, c') ∧ NetD r ∧ 1 ≤ r.Fibers.length ∧ Cur c' (k + 200) := by
  unfold spec_l1Cur_linked
  obtain ⟨r, c', g1, h1, h2, h3, k1⟩ := network_ok hfu hc hk
  simp only [g1, Option.bind_some]
  split
  · rename_i h
    have h0 : r.Fibers.length = 0 := by simpa using h
    rw [app1 (by omega)]
    exact ⟨_, _, rfl, ⟨h1.n1, h1.n2, h1.ns, by simp; omega⟩, by simp, k1⟩
  · rename_i h
    have h0 : r.Fibers.length ≠ 0 := by simpa using h
    exact ⟨_, _, rfl, h1, by omega, k1⟩
theorem route_loop2 {fu : Nat} (hfu : 2097153 ≤ fu) (n : Network) (y : Int × L1CurP) (seen : List Int) (hn : n.Fibers.length ≤ 1000000) (h1 : 1 ≤ seen.length) (h2 : seen.length ≤ 1000000) : ∀ (fk i : Nat) (o : List Int), i ≤ n.Fibers.length → n.Fibers.length - i < fk → o.length ≤ i → (∀ e ∈ o, 0 ≤ e ∧ e < (n.Fibers.length : Int)) →
    ∃ l i', spec_l1Cur_route_L2 fu n y seen fk o i = some (l, i') ∧ l.length ≤ n.Fibers.length ∧ ∀ e ∈ l, 0 ≤ e ∧ e < (n.Fibers.length : Int) := by
  intro fk
  induction fk with
  | zero => intro i _ _ h; omega
  | succ fk ih =>
    intro i o hi hf ho hr
    rw [spec_l1Cur_route_L2]
    by_cases h : i < n.Fibers.length
    · have hlt : ((i : Int) < (n.Fibers.length : Int)) = True := by simp; omega
      have e1 : w64 ((seen.length : Int) - 1) = ((seen.length - 1 : Nat) : Int) := by rw [w64_in (by omega) (by omega)]; omega
      have hh : ∀ v, spec_l1Has fu seen v = some (seen.any fun x => x == v) := fun v => l1Has_eq seen v (by omega) (by omega)
      have ha : app o [(i : Int)] = some (o ++ [(i : Int)]) := app1 (by omega)
      simp only [hlt, decide_true, if_true, e1, idx_in (show seen.length - 1 < seen.length by omega), Option.bind_some, l2Other_eq fu n i _ h, hh, ha, w64_inc h (show (n.Fibers.length : Int) ≤ 9223372036854775807 by omega)]
      have two : ∀ b : Bool, ∃ l i', (if b = true then spec_l1Cur_route_L2 fu n y seen fk (o ++ [(i : Int)]) ((i + 1 : Nat) : Int) else spec_l1Cur_route_L2 fu n y seen fk o ((i + 1 : Nat) : Int)) = some (l, i') ∧ l.length ≤ n.Fibers.length ∧ ∀ e ∈ l, 0 ≤ e ∧ e < (n.Fibers.length : Int) := by
        intro b
        cases b
        · exact ih (i + 1) o h (by omega) (by omega) hr
        · refine ih (i + 1) _ h (by omega) (by simp; omega) fun e he => ?_
          rcases List.mem_append.1 he with he | he
          · exact hr e he
          · simp only [List.mem_singleton] at he
            omega
      split
      · exact two _
      · exact two false
    · obtain rfl : i = n.Fibers.length := by omega
      rw [if_neg (by simp)]
      exact ⟨_, _, rfl, ho, hr⟩
theorem route_loop1 {fu : Nat} (hfu : 2097153 ≤ fu) (n : Network) (y : Int × L1CurP) (hn : n.Fibers.length ≤ 1000) : ∀ (fk m : Nat) (seen l : List Int) (b : List By) (a : Int) (s : U64) (k B : Int), Cur ⟨b, a, s⟩ k → k ≤ B - 2 * (m : Int) → B ≤ 1000000000 → 1 ≤ seen.length → seen.length + m ≤ 1000 → l.length + m ≤ 4 → (∀ e ∈ l, 0 ≤ e ∧ e < (n.Fibers.length : Int)) → m < fk →
    ∃ s2 m2 l' b' a' s', spec_l1Cur_route_L1 fu n y fk seen (m : Int) l b a s = some (s2, m2, l', b', a', s') ∧ l'.length ≤ 4 ∧ (∀ e ∈ l', 0 ≤ e ∧ e < (n.Fibers.length : Int)) ∧ Cur ⟨b', a', s'⟩ B := by
  intro fk
  induction fk with
  | zero => intro m _ _ _ _ _ _ _ _ _ _ _ _ _ _ h; omega
  | succ fk ih =>
    intro m seen l b a s k B hc hk hB hs1 hs2 hl hr hf
    rw [spec_l1Cur_route_L1]
    by_cases h : 0 < m
    · have hlt : ((m : Int) > 0) = True := by simp; omega
      have e : w64 ((m : Int) - 1) = ((m - 1 : Nat) : Int) := w64_dec h (by omega)
      obtain ⟨z, zi, g1, z1, z2⟩ := route_loop2 hfu n y seen (by omega) hs1 (by omega) fu 0 [] (by omega) (by omega) (by simp) (by simp)
      rw [Int.ofNat_zero] at g1
      have e1 : w64 ((seen.length : Int) - 1) = ((seen.length - 1 : Nat) : Int) := by rw [w64_in (by omega) (by omega)]; omega
      simp only [hlt, decide_true, if_true, e, g1, Option.bind_some]
      by_cases hz : z.length = 0
      · have hz' : ((z.length : Int) == 0) = true := by simp [hz]
        simp only [hz', if_true]
        exact ⟨_, _, _, _, _, _, rfl, by omega, hr, hc.mono (by omega)⟩
      · have hz' : ((z.length : Int) == 0) = false := by simpa using hz
        obtain ⟨r1, c1, g2, p0, p1, k1⟩ := pick_ok (fu := fu) hc (by omega) (z.length : Int) (by omega)
        obtain ⟨x, hx, hxm⟩ := idx_some (l := z) (i := r1) p0 (p1 (by omega))
        obtain ⟨x0, x1⟩ := z2 x hxm
        have hxn : x = ((x.toNat : Nat) : Int) := by omega
        have ho : ∀ v, spec_l2Other fu n x v = some (oth (gd n.Fibers x.toNat f0) v) := fun v => by
          have := l2Other_eq fu n x.toNat v (by omega)
          rwa [← hxn] at this
        simp only [hz', Bool.false_eq_true, if_false, g2, Option.bind_some, hx, e1, idx_in (show seen.length - 1 < seen.length by omega), ho, app1 (show l.length ≤ 1000000 by omega), app1 (show seen.length ≤ 1000000 by omega)]
        refine ih (m - 1) _ _ _ _ _ (k + 2) B k1 (by omega) hB (by simp) (by simp; omega) (by simp; omega) (fun q hq => ?_) (by omega)
        rcases List.mem_append.1 hq with hq | hq
        · exact hr q hq
        · simp only [List.mem_singleton] at hq
          omega
    · obtain rfl : m = 0 := by omega
      rw [if_neg (by simp)]
      exact ⟨_, _, _, _, _, _, rfl, by omega, hr, hc.mono (by omega)⟩
theorem route_ok {fu : Nat} (hfu : 2097153 ≤ fu) {c : L1CurP} {k : Int} (hc : Cur c k) (hk : k ≤ 900000000) {n : Network} (hn : n.Fibers.length ≤ 1000) (hm : n.Nodes.length ≤ 1000) : ∃ r c', spec_l1Cur_route fu c n = some (r, c') ∧ r.Fibers.length ≤ 4 ∧ (∀ e ∈ r.Fibers, 0 ≤ e ∧ e < (n.Fibers.length : Int)) ∧ Cur c' (k + 20) := by
  unfold spec_l1Cur_route
  obtain ⟨r1, c1, g1, -, -, k1⟩ := pick_ok (fu := fu) hc (by omega) (n.Nodes.length : Int) (by omega)
  obtain ⟨r2, c2, g2, p0, p1, k2⟩ := pick_ok (fu := fu) k1 (by omega) 4 (by decide)
  have p2 := p1 (by decide)
  have e : w64 (1 + r2) = (((1 + r2).toNat : Nat) : Int) := by rw [w64_in (by omega) (by omega)]; omega
  obtain ⟨s3, m3, l3, b3, a3, t3, g3, h3, h4, k3⟩ := route_loop1 hfu n (r1, c1) hn fu (1 + r2).toNat [r1] [] c2.code c2.at_ c2.seed (k + 2 + 2) (k + 20) k2 (by omega) (by omega) (by simp) (by simp; omega) (by simp; omega) (by simp) (by omega)
  simp only [g1, g2, Option.bind_some, e, g3]
  exact ⟨_, _, rfl, h3, h4, k3⟩
theorem routed_ok {fu : Nat} (hfu : 2097153 ≤ fu) {c : L1CurP} {k : Int} (hc : Cur c k) (hk : k ≤ 900000000) {n : Network} (h1 : 1 ≤ n.Fibers.length) (hn : n.Fibers.length ≤ 1000) (hm : n.Nodes.length ≤ 1000) : ∃ r c', spec_l1Cur_routed fu c n = some (r, c') ∧ 1 ≤ r.Fibers.length ∧ r.Fibers.length ≤ 4 ∧ (∀ e ∈ r.Fibers, 0 ≤ e ∧ e < (n.Fibers.length : Int)) ∧ Cur c' (k + 20) := by
  unfold spec_l1Cur_routed
  obtain ⟨r, c', g1, h2, h3, k1⟩ := route_ok hfu hc hk hn hm
  simp only [g1, Option.bind_some]
  split
  · obtain ⟨e, he, -⟩ := idx_some (l := n.Fibers) (i := 0) (Int.le_refl _) (by omega)
    rw [he]
    exact ⟨_, _, rfl, by simp, by simp, by simp; omega, k1⟩
  · rename_i h
    have h0 : r.Fibers.length ≠ 0 := by simpa using h
    exact ⟨_, _, rfl, by omega, h2, h3, k1⟩
theorem anyRoute_ok {fu : Nat} (hfu : 2097153 ≤ fu) {c : L1CurP} {k : Int} (hc : Cur c k) (hk : k ≤ 900000000) {n : Network} (hn : n.Fibers.length ≤ 1000) (hm : n.Nodes.length ≤ 1000) : ∃ r c', spec_l1Cur_anyRoute fu c n = some (r, c') ∧ r.Fibers.length ≤ 5 ∧ Cur c' (k + 30) := by
  unfold spec_l1Cur_anyRoute
  obtain ⟨r, c1, g1, h1, -, k1⟩ := route_ok hfu hc hk hn hm
  obtain ⟨r2, c2, g2, -, -, k2⟩ := pick_ok (fu := fu) k1 (by omega) 16 (by decide)
  obtain ⟨r3, c3, g3, -, -, k3⟩ := pick_ok (fu := fu) k2 (by omega) 8 (by decide)
  simp only [g1, g2, g3, Option.bind_some, app1 (show r.Fibers.length ≤ 1000000 by omega)]
  split
  · exact ⟨_, _, rfl, by simp only; omega, k3.mono (by omega)⟩
  split
  · exact ⟨_, _, rfl, by simp; omega, k3.mono (by omega)⟩
  split
  · exact ⟨_, _, rfl, by simp, k2.mono (by omega)⟩
  split
  · split
    · rename_i h
      have h0 : (1 : Int) < r.Fibers.length := by simpa using h
      have e1 : w64 ((r.Fibers.length : Int) - 1) = ((r.Fibers.length - 1 : Nat) : Int) := by rw [w64_in (by omega) (by omega)]; omega
      simp only [e1, idx_in (show r.Fibers.length - 1 < r.Fibers.length by omega), Option.bind_some, app1 (show r.Fibers.length ≤ 1000000 by omega)]
      exact ⟨_, _, rfl, by simp; omega, k2.mono (by omega)⟩
    · exact ⟨_, _, rfl, by omega, k2.mono (by omega)⟩
  · exact ⟨_, _, rfl, by omega, k2.mono (by omega)⟩
end AT

namespace AT
theorem one_okR {fu : Nat} {c : L1CurP} {k : Int} (hc : Cur c k) (hk : k ≤ 4611686018427387000) (n : Int) (hn : n ≤ 1099511627776) : ∃ r c', spec_l1Cur_one fu c n = some (r, c') ∧ Cur c' (k + 2) := by
  unfold spec_l1Cur_one
  obtain ⟨r, c', g1, -, -, g4⟩ := pick_ok (fu := fu) hc hk n hn
  rw [g1]
  exact ⟨_, _, rfl, g4⟩
theorem req_loop {fu : Nat} (hfu : 2097153 ≤ fu) (y : Network × L1CurP) (h1 : 1 ≤ y.1.Fibers.length) (hn : y.1.Fibers.length ≤ 1000) (hm : y.1.Nodes.length ≤ 1000) : ∀ (fk m : Nat) (l : List Request) (b : List By) (a : Int) (s : U64) (k B : Int), Cur ⟨b, a, s⟩ k → k ≤ B - 30 * (m : Int) → B ≤ 800000000 → l.length + m ≤ 6 → (∀ x ∈ l, x.Route.Fibers.length ≤ 5) → m < fk →
    ∃ l' z b' a' s', spec_l1Cur_requests_L1 fu y fk l m b a s = some (l', z, b', a', s') ∧ l'.length ≤ 6 ∧ (∀ x ∈ l', x.Route.Fibers.length ≤ 5) ∧ Cur ⟨b', a', s'⟩ B := by
  intro fk
  induction fk with
  | zero => intro m _ _ _ _ _ _ _ _ _ _ _ h; omega
  | succ fk ih =>
    intro m l b a s k B hc hk hB hl hx hf
    rw [spec_l1Cur_requests_L1]
    by_cases h : 0 < m
    · have h' : (m : Int) > 0 := by omega
      obtain ⟨r, c1, r1, r2, r3, r4, r5⟩ := routed_ok hfu hc (by omega) h1 hn hm
      obtain ⟨q, c2, q1, q2, q3, q4⟩ := pick_ok (fu := fu) r5 (by omega) 6 (by omega)
      rw [if_pos (decide_eq_true h'), r1, Option.bind_some, q1, Option.bind_some, app1 (by omega), Option.bind_some, w64_dec h (by omega)]
      exact ih (m - 1) _ c2.code c2.at_ c2.seed _ B q4 (by omega) hB (by rw [List.length_append, List.length_singleton]; omega) (fun x hx' => by
        rcases List.mem_append.1 hx' with h | h
        · exact hx x h
        · rw [List.mem_singleton] at h; subst h; exact Nat.le_trans r3 (by omega)) (by omega)
    · obtain rfl : m = 0 := by omega
      rw [if_neg (by simp)]
      exact ⟨_, _, _, _, _, rfl, by omega, hx, hc.mono (by omega)⟩
theorem req_loop2 {fu : Nat} (e : Request) (he : e.Route.Fibers.length ≤ 5) : ∀ (fk : Nat) (l : List Request) (b : List By) (a : Int) (s : U64) (k B : Int), Cur ⟨b, a, s⟩ k → k ≤ B + 2 * (l.length : Int) → B ≤ 800000000 → l.length ≤ 8 → (∀ x ∈ l, x.Route.Fibers.length ≤ 5) → 9 - l.length < fk →
    ∃ l' b' a' s', spec_l1Cur_requests_L2 fu e fk l b a s = some (l', b', a', s') ∧ l.length ≤ l'.length ∧ l'.length ≤ 8 ∧ (∀ x ∈ l', x.Route.Fibers.length ≤ 5) ∧ Cur ⟨b', a', s'⟩ (B + 100) := by
  intro fk
  induction fk with
  | zero => intro l _ _ _ _ _ _ _ _ _ _ h; omega
  | succ fk ih =>
    intro l b a s k B hc hk hB hl hx hf
    rw [spec_l1Cur_requests_L2]
    obtain ⟨q, c2, q1, q2, q3, q4⟩ := pick_ok (fu := fu) hc (by omega) 2 (by omega)
    have q5 := q3 (by omega)
    have hw : w64 (7 + q) = 7 + q := w64_in (by omega) (by omega)
    rw [q1, Option.bind_some, hw]
    by_cases h : (l.length : Int) < 7 + q
    · rw [if_pos (decide_eq_true h), app1 (by omega), Option.bind_some]
      obtain ⟨l', b', a', s', g1, g2, g3, g4, g5⟩ := ih (l ++ [e]) c2.code c2.at_ c2.seed _ B q4 (by rw [List.length_append, List.length_singleton]; omega) hB (by rw [List.length_append, List.length_singleton]; omega) (fun x hx' => by
        rcases List.mem_append.1 hx' with h | h
        · exact hx x h
        · rw [List.mem_singleton] at h; subst h; exact he) (by rw [List.length_append, List.length_singleton]; omega)
      rw [List.length_append, List.length_singleton] at g2
      exact ⟨l', b', a', s', g1, by omega, g3, g4, g5⟩
    · rw [if_neg (by rw [decide_eq_true_eq]; exact h)]
      exact ⟨_, _, _, _, rfl, Nat.le_refl _, by omega, hx, q4.mono (by omega)⟩
theorem set_len {l : List Request} {i : Nat} {x : Request} (h : ∀ y ∈ l, y.Route.Fibers.length ≤ 5) (hx : x.Route.Fibers.length ≤ 5) : ∀ y ∈ l.set i x, y.Route.Fibers.length ≤ 5 := by
  intro y hy
  rcases List.mem_or_eq_of_mem_set hy with h' | h'
  · exact h y h'
  · rw [h']; exact hx
theorem requests_ok {fu : Nat} (hfu : 2097153 ≤ fu) {c : L1CurP} {k : Int} (hc : Cur c k) (hk : k ≤ 100000000) : ∃ n l c', spec_l1Cur_requests fu c = some (n, l, c') ∧ NetD n ∧ l.length ≤ 8 ∧ (∀ x ∈ l, x.Route.Fibers.length ≤ 5) ∧ Cur c' (k + 2000) := by
  unfold spec_l1Cur_requests
  obtain ⟨n, c1, n1, n2, n3, n4⟩ := linked_ok hfu hc (by omega)
  obtain ⟨q, c2, q1, q2, q3, q4⟩ := pick_ok (fu := fu) n4 (by omega) 6 (by omega)
  have q5 := q3 (by omega)
  obtain ⟨m, rfl⟩ := Int.eq_ofNat_of_zero_le q2
  have hfb := n2.f2
  have hnd := n2.n2
  obtain ⟨l, z, b', a', s', l1, l2, l3, l4⟩ := req_loop hfu (n, c1) n3 (show n.Fibers.length ≤ 1000 by omega) (show n.Nodes.length ≤ 1000 by omega) fu m [] c2.code c2.at_ c2.seed _ (k + 500) q4 (by omega) (by omega) (by simp; omega) (fun x hx => by cases hx) (by omega)
  have l1' : spec_l1Cur_requests_L1 fu (n, c1) fu [] (m : Int) c2.code c2.at_ c2.seed = some (l, z, b', a', s') := l1
  simp only [n1, q1, l1', Option.bind_some]
  by_cases h0 : 0 < l.length
  · have h0' : (l.length : Int) > 0 := by omega
    obtain ⟨v, c3, v1, v2⟩ := one_okR (fu := fu) l4 (by omega) 16 (by omega)
    simp only [h0', decide_true, if_true, v1, Option.bind_some]
    cases v
    · simp only [Bool.false_eq_true, if_false]
      exact ⟨_, _, _, rfl, n2, by omega, l3, v2.mono (by omega)⟩
    · obtain ⟨i, c4, i1, i2, i3, i4⟩ := pick_ok (fu := fu) v2 (by omega) (l.length : Int) (by omega)
      have i5 := i3 (by omega)
      obtain ⟨i, rfl⟩ := Int.eq_ofNat_of_zero_le i2
      have hil : i < l.length := by omega
      obtain ⟨t, c5, t1, t2, t3, t4⟩ := pick_ok (fu := fu) i4 (by omega) 3 (by omega)
      have he := l3 _ (List.getElem_mem hil)
      simp only [if_true, i1, Option.bind_some, idx_in hil, t1]
      split
      · obtain ⟨u, c6, u1, -, u3⟩ := among_ok (fu := fu) t4 (by omega) [0, 24, 25] (by simp) (by simp)
        simp only [u1, Option.bind_some]
        exact ⟨_, _, _, rfl, n2, by rw [List.length_set]; omega, set_len l3 he, u3.mono (by omega)⟩
      · split
        · obtain ⟨r, c6, g1, g2, g3⟩ := anyRoute_ok hfu t4 (by omega) (n := n) (by omega) (by omega)
          simp only [g1, Option.bind_some]
          exact ⟨_, _, _, rfl, n2, by rw [List.length_set]; omega, set_len l3 g2, g3.mono (by omega)⟩
        · obtain ⟨l', b2, a2, s2, g1, g2, g3, g4, g5⟩ := req_loop2 (fu := fu) l[i] he fu l c5.code c5.at_ c5.seed _ (k + 1000) t4 (by omega) (by omega) (by omega) l3 (by omega)
          simp only [g1, Option.bind_some, idx_in (show i < l'.length by omega)]
          exact ⟨_, _, _, rfl, n2, by rw [List.length_set]; omega, set_len g4 he, g5.mono (by omega)⟩
  · have h0' : ¬ (l.length : Int) > 0 := by omega
    simp only [h0', decide_false, Bool.false_eq_true, if_false]
    exact ⟨_, _, _, rfl, n2, by omega, l3, l4.mono (by omega)⟩
theorem order_loop {fu : Nat} (n : Nat) (hn : n ≤ 1000) : ∀ (fk i : Nat) (l : List Int) (b : List By) (a : Int) (s : U64) (k B : Int), Cur ⟨b, a, s⟩ k → k ≤ B + 2 * (i : Int) → B ≤ 800000000 → l.length = i → i ≤ n → n - i < fk →
    ∃ l' z b' a' s', spec_l1Cur_order_L1 fu n fk l i b a s = some (l', z, b', a', s') ∧ l'.length = n ∧ Cur ⟨b', a', s'⟩ (B + 2 * (n : Int)) := by
  intro fk
  induction fk with
  | zero => intro i _ _ _ _ _ _ _ _ _ _ _ h; omega
  | succ fk ih =>
    intro i l b a s k B hc hk hB hl hi hf
    rw [spec_l1Cur_order_L1]
    by_cases h : i < n
    · have h' : (i : Int) < (n : Int) := by omega
      have hw : w64 ((i : Int) + 1) = ((i + 1 : Nat) : Int) := w64_inc h (by omega)
      obtain ⟨q, c2, q1, q2, q3, q4⟩ := pick_ok (fu := fu) hc (by omega) ((i + 1 : Nat) : Int) (by omega)
      have q5 := q3 (by omega)
      obtain ⟨q, rfl⟩ := Int.eq_ofNat_of_zero_le q2
      have hql : q ≤ l.length := by omega
      have hs : sub l (q : Int) (l.length : Int) = some (l.drop q) := by
        unfold sub
        rw [if_pos (by omega)]
        simp
      rw [if_pos (decide_eq_true h'), hw, q1, Option.bind_some, sub_take hql, Option.bind_some, hs, Option.bind_some, app_nil (by rw [List.length_take]; omega), Option.bind_some, app1 (by rw [List.length_take]; omega), Option.bind_some, app_ok (by rw [List.length_append, List.length_take, List.length_singleton, List.length_drop]; omega), Option.bind_some]
      exact ih (i + 1) _ c2.code c2.at_ c2.seed _ B q4 (by omega) hB (by rw [List.length_append, List.length_append, List.length_take, List.length_singleton, List.length_drop]; omega) h (by omega)
    · obtain rfl : i = n := by omega
      rw [if_neg (by simp)]
      exact ⟨_, _, _, _, _, rfl, hl, hc.mono (by omega)⟩
theorem orderDraw_ok {fu : Nat} (hfu : 2097153 ≤ fu) {c : L1CurP} {k : Int} (hc : Cur c k) (hk : k ≤ 100000000) (n : Nat) (hn : n ≤ 8) : ∃ l c', spec_l1Cur_order fu c (n : Int) = some (l, c') ∧ l.length ≤ 8 := by
  unfold spec_l1Cur_order
  obtain ⟨l, z, b', a', s', l1, l2, l3⟩ := order_loop (fu := fu) n (by omega) fu 0 [] c.code c.at_ c.seed k k hc (by omega) (by omega) rfl (by omega) (by omega)
  rw [show ((0 : Nat) : Int) = 0 from rfl] at l1
  simp only [l1, Option.bind_some]
  by_cases h0 : 0 < n
  · have h0' : (n : Int) > 0 := by omega
    obtain ⟨v, c3, v1, v2⟩ := one_okR (fu := fu) l3 (by omega) 12 (by omega)
    simp only [h0', decide_true, if_true, v1, Option.bind_some]
    cases v
    · simp only [Bool.false_eq_true, if_false]
      exact ⟨_, _, rfl, by omega⟩
    · obtain ⟨i, c4, i1, i2, i3, i4⟩ := pick_ok (fu := fu) v2 (by omega) (n : Int) (by omega)
      have i5 := i3 (by omega)
      obtain ⟨i, rfl⟩ := Int.eq_ofNat_of_zero_le i2
      have hil : i < l.length := by omega
      have hw : w64 ((n : Int) + 1) = (n : Int) + 1 := w64_in (by omega) (by omega)
      obtain ⟨t, c5, t1, -, -, -⟩ := pick_ok (fu := fu) i4 (by omega) ((n : Int) + 1) (by omega)
      simp only [if_true, i1, Option.bind_some, hw, t1, idx_in hil]
      exact ⟨_, _, rfl, by rw [List.length_set]; omega⟩
  · have h0' : ¬ (n : Int) > 0 := by omega
    simp only [h0', decide_false, Bool.false_eq_true, if_false]
    exact ⟨_, _, rfl, by omega⟩
end AT
