/- Packing numbers into rooms: a plain theory, no program in sight. -/
import Derived.Test.YtfkdikbnajeelaaAtL
import Derived.Test.YtfkdikbnajeelaaF
import Derived.Test.YtfkdikbnajeelaaOk
set_option linter.unusedSimpArgs false
set_option linter.unusedVariables false
namespace AT
def Fit : List Int → List Int → Prop
  | [], _ => True
  | x :: xs, f => ∃ u, u < f.length ∧ x ≤ gd f u 0 ∧ Fit xs (f.set u (gd f u 0 - x))
theorem gd_setP {l : List Int} {i j : Nat} {x : Int} (hi : i < l.length) : gd (l.set i x) j 0 = if j = i then x else gd l j 0 := by
  unfold gd
  by_cases h : j = i
  · subst h; rw [List.getElem?_set_self hi, if_pos rfl]; rfl
  · rw [List.getElem?_set_ne (by omega), if_neg h]
theorem set_erase {f : List Int} {u : Nat} (hu : u < f.length) (a : Int) : (f.set u a).Perm (a :: f.eraseIdx u) := by
  rw [List.set_eq_take_append_cons_drop, if_pos hu, List.eraseIdx_eq_take_drop_succ]
  exact List.perm_middle
theorem erase_cons {f : List Int} {u : Nat} (hu : u < f.length) : f.Perm (gd f u 0 :: f.eraseIdx u) := by
  have := set_erase hu (gd f u 0)
  rw [gd_in 0 hu, List.set_getElem_self] at this
  rw [gd_in 0 hu]
  exact this
theorem Fit.perm : ∀ {xs f f' : List Int}, Fit xs f → f.Perm f' → Fit xs f'
  | [], _, _, _, _ => trivial
  | x :: xs, f, f', h, hp => by
    obtain ⟨u, hu, hx, hf⟩ := h
    have hm : gd f u 0 ∈ f' := hp.mem_iff.1 (by rw [gd_in 0 hu]; exact List.getElem_mem hu)
    obtain ⟨v, hv, hve⟩ := List.mem_iff_getElem.1 hm
    have hve' : gd f' v 0 = gd f u 0 := by rw [gd_in 0 hv]; exact hve
    refine ⟨v, hv, by rw [hve']; exact hx, Fit.perm hf ?_⟩
    rw [hve']
    have h1 : (gd f u 0 :: f.eraseIdx u).Perm (gd f u 0 :: f'.eraseIdx v) := by
      have := ((erase_cons hu).symm.trans hp).trans (erase_cons hv)
      rwa [hve'] at this
    exact ((set_erase hu _).trans ((List.perm_cons _).2 ((List.perm_cons _).1 h1))).trans (set_erase hv _).symm
theorem Fit.swap {x y : Int} {xs f : List Int} (hx0 : 0 ≤ x) (hy0 : 0 ≤ y) (h : Fit (x :: y :: xs) f) : Fit (y :: x :: xs) f := by
  obtain ⟨u, hu, hx, v, hv, hy, hf⟩ := h
  rw [List.length_set] at hv
  rw [gd_setP hu] at hy hf
  by_cases e : v = u
  · subst e
    rw [if_pos rfl] at hy hf
    refine ⟨v, hv, by omega, v, by rw [List.length_set]; exact hv, by rw [gd_setP hv, if_pos rfl]; omega, ?_⟩
    rw [gd_setP hv, if_pos rfl, List.set_set]
    rw [List.set_set] at hf
    rw [show gd f v 0 - y - x = gd f v 0 - x - y by omega]
    exact hf
  · rw [if_neg e] at hy hf
    refine ⟨v, hv, hy, u, by rw [List.length_set]; exact hu, by rw [gd_setP hv, if_neg (fun h => e h.symm)]; exact hx, ?_⟩
    rw [gd_setP hv, if_neg (fun h => e h.symm), List.set_comm _ _ (fun h => e h)]
    exact hf
theorem Fit.xperm {xs ys : List Int} (hp : xs.Perm ys) : (∀ x ∈ xs, 0 ≤ x) → ∀ {f : List Int}, Fit xs f → Fit ys f := by
  induction hp with
  | nil => intro _ f h; exact h
  | cons x _ ih =>
    intro h0 f h
    obtain ⟨u, hu, hx, hf⟩ := h
    exact ⟨u, hu, hx, ih (fun z hz => h0 z (by simp [hz])) hf⟩
  | swap x y l => intro h0 f h; exact Fit.swap (h0 y (by simp)) (h0 x (by simp)) h
  | trans h1 _ ih1 ih2 => intro h0 f h; exact ih2 (fun z hz => h0 z (h1.mem_iff.2 hz)) (ih1 h0 h)
theorem Fit.mono : ∀ {xs f g : List Int}, Fit xs f → f.length ≤ g.length → (∀ i, i < f.length → gd f i 0 ≤ gd g i 0) → Fit xs g
  | [], _, _, _, _, _ => trivial
  | x :: xs, f, g, h, hl, hg => by
    obtain ⟨u, hu, hx, hf⟩ := h
    have := hg u hu
    refine ⟨u, by omega, by omega, Fit.mono hf (by rw [List.length_set, List.length_set]; exact hl) fun i hi => ?_⟩
    rw [List.length_set] at hi
    rw [gd_setP hu, gd_setP (by omega)]
    split
    · omega
    · exact hg i hi
def tot : List Int → Int
  | [] => 0
  | x :: l => x + tot l
theorem tot_set : ∀ {l : List Int} {i : Nat} (x : Int), i < l.length → tot (l.set i x) = tot l - gd l i 0 + x
  | [], i, x, h => by simp at h
  | y :: l, 0, x, h => by
    show x + tot l = y + tot l - y + x
    omega
  | y :: l, i + 1, x, h => by
    have := tot_set (l := l) (i := i) x (by simpa using h)
    show y + tot (l.set i x) = y + tot l - gd l i 0 + x
    rw [this]; omega
theorem tot_le {l : List Int} (h : ∀ x ∈ l, 0 ≤ x) : 0 ≤ tot l := by
  induction l with
  | nil => simp [tot]
  | cons x l ih =>
    have := ih fun y hy => h y (by simp [hy])
    have := h x (by simp)
    rw [tot]; omega
theorem Fit.tot_le : ∀ {xs f : List Int}, Fit xs f → (∀ x ∈ f, 0 ≤ x) → tot xs ≤ tot f
  | [], f, _, h0 => AT.tot_le h0
  | x :: xs, f, h, h0 => by
    obtain ⟨u, hu, hx, hf⟩ := h
    have := Fit.tot_le hf fun y hy => by
      rcases List.mem_or_eq_of_mem_set hy with h | h
      · exact h0 y h
      · rw [h]; omega
    rw [tot_set _ hu] at this
    rw [tot]; omega
end AT

namespace AT
def ldL : List Int → (Nat → Nat) → Nat → Int
  | [], _, _ => 0
  | x :: xs, g, b => (if g 0 = b then x else 0) + ldL xs (fun i => g (i + 1)) b
theorem ldL_pos : ∀ {xs : List Int} {g : Nat → Nat} {b : Nat}, (∀ x ∈ xs, 0 ≤ x) → 0 ≤ ldL xs g b
  | [], _, _, _ => Int.le_refl _
  | x :: xs, g, b, h => by
    have h1 := h x (by simp)
    have h2 := ldL_pos (xs := xs) (g := fun i => g (i + 1)) (b := b) fun y hy => h y (by simp [hy])
    rw [ldL]
    split <;> omega
theorem fit_of : ∀ {xs f : List Int} {g : Nat → Nat}, (∀ x ∈ xs, 0 ≤ x) → (∀ i, i < xs.length → g i < f.length) → (∀ b, b < f.length → ldL xs g b ≤ gd f b 0) → Fit xs f
  | [], _, _, _, _, _ => trivial
  | x :: xs, f, g, h0, hg, hl => by
    have hu := hg 0 (by simp)
    have h0' : ∀ y ∈ xs, 0 ≤ y := fun y hy => h0 y (by simp [hy])
    refine ⟨g 0, hu, ?_, fit_of (g := fun i => g (i + 1)) h0' (fun i hi => ?_) fun b hb => ?_⟩
    · have h1 := hl (g 0) hu
      have h2 := ldL_pos (g := fun i => g (i + 1)) (b := g 0) h0'
      rw [ldL, if_pos rfl] at h1
      omega
    · rw [List.length_set]; exact hg (i + 1) (by simpa using hi)
    · rw [List.length_set] at hb
      have h1 := hl b hb
      rw [ldL] at h1
      rw [gd_setP hu]
      by_cases e : b = g 0
      · rw [if_pos e]; rw [if_pos e.symm, e] at h1; rw [e]; omega
      · rw [if_neg e]; rw [if_neg (fun h => e h.symm)] at h1; omega
theorem of_fit : ∀ {xs f : List Int}, Fit xs f → (∀ y ∈ f, 0 ≤ y) → ∃ g : Nat → Nat, (∀ i, i < xs.length → g i < f.length) ∧ ∀ b, b < f.length → ldL xs g b ≤ gd f b 0
  | [], f, _, h0 => ⟨fun _ => 0, fun i hi => by simp at hi, fun b hb => by rw [ldL, gd_in 0 hb]; exact h0 _ (List.getElem_mem hb)⟩
  | x :: xs, f, h, h0 => by
    obtain ⟨u, hu, hx, hf⟩ := h
    obtain ⟨g, g1, g2⟩ := of_fit hf fun y hy => by
      rcases List.mem_or_eq_of_mem_set hy with h | h
      · exact h0 y h
      · rw [h]; omega
    refine ⟨fun i => match i with | 0 => u | i + 1 => g i, fun i hi => ?_, fun b hb => ?_⟩
    · cases i with
      | zero => exact hu
      | succ i => have := g1 i (by simpa using hi); rwa [List.length_set] at this
    · have := g2 b (by rw [List.length_set]; exact hb)
      rw [gd_setP hu] at this
      rw [ldL]
      show (if u = b then x else 0) + ldL xs g b ≤ gd f b 0
      by_cases e : u = b
      · rw [if_pos e.symm] at this
        rw [if_pos e, ← e]
        rw [← e] at this
        omega
      · rw [if_neg (fun h => e h.symm)] at this
        rw [if_neg e]
        omega
def btN (s i : Nat) : Bool := s.testBit i
def ld (r : List Int) (s : Nat) (g : Nat → Nat) (b : Nat) : Nat → Int
  | 0 => 0
  | i + 1 => ld r s g b i + if (btN s i && g i == b) = true then gd r i 0 else 0
structure PK (r : List Int) (C : Int) (s : Nat) (g : Nat → Nat) (j : Nat) : Prop where
  le : ∀ b, ld r s g b r.length ≤ C
  to : ∀ i, i < r.length → btN s i = true → g i ≤ j
def lex (u : Nat) (a : Int) (v : Nat) (b : Int) : Prop := u < v ∨ (u = v ∧ a ≤ b)
structure DP (r : List Int) (C : Int) (s u : Nat) (q : Int) : Prop where
  ex : ∃ g, PK r C s g u ∧ ld r s g u r.length = q
  least : ∀ g j, PK r C s g j → lex u q j (ld r s g j r.length)
theorem ld_same {r : List Int} {s s' : Nat} {g g' : Nat → Nat} {b : Nat} : ∀ {i : Nat}, (∀ k, k < i → (btN s k && g k == b) = (btN s' k && g' k == b)) → ld r s g b i = ld r s' g' b i
  | 0, _ => rfl
  | i + 1, h => by rw [ld, ld, ld_same (i := i) fun k hk => h k (by omega), h i (by omega)]
theorem ld_pos {r : List Int} (h0 : ∀ x ∈ r, 0 ≤ x) (s : Nat) (g : Nat → Nat) (b : Nat) : ∀ (i : Nat), i ≤ r.length → 0 ≤ ld r s g b i
  | 0, _ => Int.le_refl _
  | i + 1, h => by
    have := ld_pos h0 s g b i (by omega)
    have h2 : 0 ≤ gd r i 0 := by rw [gd_in 0 (show i < r.length by omega)]; exact h0 _ (List.getElem_mem _)
    rw [ld]
    split <;> omega
theorem ld_without {r : List Int} {s s' i : Nat} {g : Nat → Nat} {b : Nat} (hi : btN s i = true) (hs : ∀ k, btN s' k = (btN s k && k != i)) : ∀ (n : Nat), ld r s g b n = ld r s' g b n + if i < n ∧ g i = b then gd r i 0 else 0
  | 0 => by simp [ld]
  | n + 1 => by
    rw [ld, ld, ld_without hi hs n, hs n]
    by_cases e : n = i
    · subst e
      rw [hi]
      by_cases eb : g n = b
      · simp [eb]
      · simp [eb]
    · have hne : (n != i) = true := by rw [bne_iff_ne]; exact e
      rw [hne, Bool.and_true]
      by_cases hin : i < n
      · have h1 : i < n + 1 := by omega
        simp only [hin, h1, true_and]
        omega
      · have h1 : ¬ i < n + 1 := by omega
        simp only [hin, h1, false_and, if_false]
        omega
theorem DP.zero (r : List Int) (h0 : ∀ x ∈ r, 0 ≤ x) {C : Int} (hC : 0 ≤ C) : DP r C 0 0 0 := by
  have hz : ∀ g b n, ld r 0 g b n = 0 := by
    intro g b n
    induction n with
    | zero => rfl
    | succ n ih => rw [ld, ih]; simp [btN]
  refine ⟨⟨fun _ => 0, ⟨fun b => by rw [hz]; exact hC, fun i _ hb => by simp [btN] at hb⟩, hz _ _ _⟩, fun g j _ => ?_⟩
  rcases Nat.eq_zero_or_pos j with h | h
  · exact .inr ⟨h.symm, by rw [hz]; exact Int.le_refl _⟩
  · exact .inl h
def candU (C : Int) (u : Nat) (q x : Int) : Nat := if q + x > C then u + 1 else u
def candQ (C : Int) (q x : Int) : Int := if q + x > C then x else q + x
theorem cand_least {r : List Int} (h0 : ∀ x ∈ r, 0 ≤ x) {C : Int} {s : Nat} (hne : ∃ i, i < r.length ∧ btN s i = true) (U : Nat → Nat) (Q : Nat → Int) (sw : Nat → Nat) (hsw : ∀ i, i < r.length → btN s i = true → ∀ k, btN (sw i) k = (btN s k && k != i)) (hD : ∀ i, i < r.length → btN s i = true → DP r C (sw i) (U i) (Q i)) :
    ∀ (j : Nat) (g : Nat → Nat), PK r C s g j → ∃ i, i < r.length ∧ btN s i = true ∧ lex (candU C (U i) (Q i) (gd r i 0)) (candQ C (Q i) (gd r i 0)) j (ld r s g j r.length) := by
  intro j
  induction j with
  | zero =>
    intro g hP
    obtain ⟨i, hi, hb⟩ := hne
    have hg : g i = 0 := by have := hP.to i hi hb; omega
    have hw := ld_without (r := r) (g := g) (b := 0) hb (hsw i hi hb) r.length
    rw [if_pos ⟨hi, hg⟩] at hw
    have hx : 0 ≤ gd r i 0 := by rw [gd_in 0 hi]; exact h0 _ (List.getElem_mem _)
    have hP' : PK r C (sw i) g 0 := by
      refine ⟨fun b => ?_, fun k hk hbk => ?_⟩
      · have h1 := ld_without (r := r) (g := g) (b := b) hb (hsw i hi hb) r.length
        have h2 := hP.le b
        split at h1 <;> omega
      · rw [hsw i hi hb k, Bool.and_eq_true] at hbk
        exact hP.to k hk hbk.1
    have hl := (hD i hi hb).least g 0 hP'
    have hC := hP.le 0
    refine ⟨i, hi, hb, ?_⟩
    rcases hl with h | ⟨h1, h2⟩
    · omega
    · unfold candU candQ
      rw [if_neg (by omega), if_neg (by omega)]
      exact .inr ⟨h1, by omega⟩
  | succ j ih =>
    intro g hP
    rcases Classical.em (∃ i, i < r.length ∧ btN s i = true ∧ g i = j + 1) with ⟨i, hi, hb, hg⟩ | hno
    · have hw := ld_without (r := r) (g := g) (b := j + 1) hb (hsw i hi hb) r.length
      rw [if_pos ⟨hi, hg⟩] at hw
      have hx : 0 ≤ gd r i 0 := by rw [gd_in 0 hi]; exact h0 _ (List.getElem_mem _)
      have hP' : PK r C (sw i) g (j + 1) := by
        refine ⟨fun b => ?_, fun k hk hbk => ?_⟩
        · have h1 := ld_without (r := r) (g := g) (b := b) hb (hsw i hi hb) r.length
          have h2 := hP.le b
          split at h1 <;> omega
        · rw [hsw i hi hb k, Bool.and_eq_true] at hbk
          exact hP.to k hk hbk.1
      have hl := (hD i hi hb).least g (j + 1) hP'
      have hC := hP.le (j + 1)
      have hp := ld_pos h0 (sw i) g (j + 1) r.length (Nat.le_refl _)
      refine ⟨i, hi, hb, ?_⟩
      unfold candU candQ
      rcases hl with h | ⟨h1, h2⟩
      · by_cases hc : Q i + gd r i 0 > C
        · rw [if_pos hc, if_pos hc]
          rcases Nat.lt_or_ge (U i + 1) (j + 1) with h3 | h3
          · exact .inl h3
          · exact .inr ⟨by omega, by omega⟩
        · rw [if_neg hc, if_neg hc]
          exact .inl h
      · rw [if_neg (by omega), if_neg (by omega)]
        exact .inr ⟨h1, by omega⟩
    · have hP' : PK r C s g j := ⟨hP.le, fun i hi hb => by
        have h1 := hP.to i hi hb
        rcases Nat.lt_or_ge j (g i) with h2 | h2
        · exact (hno ⟨i, hi, hb, by omega⟩).elim
        · exact h2⟩
      obtain ⟨i, h1, h2, h3⟩ := ih g hP'
      refine ⟨i, h1, h2, .inl ?_⟩
      rcases h3 with h | ⟨h, -⟩ <;> omega
theorem cand_ex {r : List Int} (h0 : ∀ x ∈ r, 0 ≤ x) {C : Int} (hC : ∀ x ∈ r, x ≤ C) {s s' i u : Nat} {q : Int} (hi : i < r.length) (hb : btN s i = true) (hs : ∀ k, btN s' k = (btN s k && k != i)) (hD : DP r C s' u q) :
    ∃ g, PK r C s g (candU C u q (gd r i 0)) ∧ ld r s g (candU C u q (gd r i 0)) r.length = candQ C q (gd r i 0) := by
  obtain ⟨g, hP, hq⟩ := hD.ex
  have hx : gd r i 0 ≤ C := by rw [gd_in 0 hi]; exact hC _ (List.getElem_mem _)
  have key : ∀ (t b : Nat), ld r s (fun k => if k = i then t else g k) b r.length = ld r s' g b r.length + if t = b then gd r i 0 else 0 := by
    intro t b
    rw [ld_without (g := fun k => if k = i then t else g k) hb hs r.length]
    have h1 : ld r s' (fun k => if k = i then t else g k) b r.length = ld r s' g b r.length := ld_same fun k hk => by
      rw [hs k]
      by_cases e : k = i
      · simp [e]
      · simp [e]
    rw [h1]
    simp [hi]
  have hbig : ∀ b, u < b → ld r s' g b r.length = 0 := by
    intro b hub
    have : ∀ n, n ≤ r.length → ld r s' g b n = 0 := by
      intro n
      induction n with
      | zero => intro _; rfl
      | succ n ih =>
        intro hn
        rw [ld, ih (by omega)]
        cases hq : btN s' n
        · simp
        · have := hP.to n (by omega) hq
          have hne : (g n == b) = false := by rw [beq_eq_false_iff_ne]; omega
          simp [hne]
    exact this _ (Nat.le_refl _)
  unfold candU candQ
  by_cases hc : q + gd r i 0 > C
  · rw [if_pos hc, if_pos hc]
    refine ⟨fun k => if k = i then u + 1 else g k, ⟨fun b => ?_, fun k hk hbk => ?_⟩, ?_⟩
    · rw [key]
      by_cases e : u + 1 = b
      · rw [if_pos e, hbig b (by omega)]; omega
      · rw [if_neg e]; have := hP.le b; omega
    · by_cases e : k = i
      · simp [e]
      · simp only [e, if_false]
        have := hP.to k hk (by rw [hs k, hbk]; simp [e])
        omega
    · rw [key, if_pos rfl, hbig (u + 1) (by omega)]; omega
  · rw [if_neg hc, if_neg hc]
    refine ⟨fun k => if k = i then u else g k, ⟨fun b => ?_, fun k hk hbk => ?_⟩, ?_⟩
    · rw [key]
      by_cases e : u = b
      · rw [if_pos e, ← e, hq]; omega
      · rw [if_neg e]; have := hP.le b; omega
    · by_cases e : k = i
      · simp [e]
      · simp only [e, if_false]
        exact hP.to k hk (by rw [hs k, hbk]; simp [e])
    · rw [key, if_pos rfl, hq]
theorem ldL_snoc : ∀ (a : List Int) (x : Int) (g : Nat → Nat) (b : Nat), ldL (a ++ [x]) g b = ldL a g b + if g a.length = b then x else 0
  | [], x, g, b => by simp [ldL]
  | y :: a, x, g, b => by
    rw [List.cons_append, ldL, ldL_snoc a x _ b, ldL, List.length_cons]
    omega
theorem ld_full {r : List Int} {s : Nat} (hs : ∀ i, i < r.length → btN s i = true) (g : Nat → Nat) (b : Nat) : ∀ (i : Nat), i ≤ r.length → ld r s g b i = ldL (r.take i) g b
  | 0, _ => by simp [ld, ldL]
  | i + 1, h => by
    rw [ld, ld_full hs g b i (by omega), List.take_add_one, List.getElem?_eq_getElem (show i < r.length by omega)]
    simp only [Option.toList]
    rw [ldL_snoc, hs i (by omega), Bool.true_and, List.length_take, Nat.min_eq_left (by omega), gd_in 0 (show i < r.length by omega)]
    by_cases e : g i = b
    · simp [e]
    · simp [e]
theorem DP.fit {r : List Int} (h0 : ∀ x ∈ r, 0 ≤ x) {C : Int} {s u : Nat} {q : Int} (hs : ∀ i, i < r.length → btN s i = true) (h : DP r C s u q) : Fit r (List.replicate (u + 1) C) := by
  obtain ⟨g, hP, -⟩ := h.ex
  refine fit_of (g := g) h0 (fun i hi => ?_) fun b hb => ?_
  · have := hP.to i hi (hs i hi)
    rw [List.length_replicate]; omega
  · have h1 := hP.le b
    rw [ld_full hs g b r.length (Nat.le_refl _), List.take_length] at h1
    rw [gd_in 0 hb, List.getElem_replicate]
    exact h1
theorem DP.fewest {r : List Int} (h0 : ∀ x ∈ r, 0 ≤ x) (hr : r ≠ []) {C : Int} (hC : 0 ≤ C) {s u : Nat} {q : Int} (hs : ∀ i, i < r.length → btN s i = true) (h : DP r C s u q) {k : Nat} (hf : Fit r (List.replicate k C)) : u + 1 ≤ k := by
  obtain ⟨g, g1, g2⟩ := of_fit hf fun y hy => by rw [List.eq_of_mem_replicate hy]; exact hC
  rw [List.length_replicate] at g1 g2
  have hlen : 0 < r.length := List.length_pos_iff.2 hr
  have hk : 0 < k := by have := g1 0 hlen; omega
  have hP : PK r C s g (k - 1) := by
    refine ⟨fun b => ?_, fun i hi _ => by have := g1 i hi; omega⟩
    rw [ld_full hs g b r.length (Nat.le_refl _), List.take_length]
    by_cases hb : b < k
    · have := g2 b hb
      rwa [gd_in 0 (by rw [List.length_replicate]; exact hb), List.getElem_replicate] at this
    · have hz : ∀ (xs : List Int) (g : Nat → Nat), (∀ i, i < xs.length → g i < k) → ldL xs g b = 0 := by
        intro xs
        induction xs with
        | nil => intro g _; rfl
        | cons x xs ih =>
          intro g hg
          have := hg 0 (by simp)
          rw [ldL, if_neg (by omega), ih (fun i => g (i + 1)) fun i hi => hg (i + 1) (by simpa using hi)]
          rfl
      rw [hz r g g1]; exact hC
  rcases h.least g (k - 1) hP with h1 | ⟨h1, -⟩ <;> omega
end AT

namespace AT
def sm (r : List Int) (p : Nat → Bool) : Nat → Int
  | 0 => 0
  | i + 1 => sm r p i + if p i = true then gd r i 0 else 0
theorem gd_pos {r : List Int} (h0 : ∀ x ∈ r, 0 ≤ x) (i : Nat) : 0 ≤ gd r i 0 := by
  unfold gd
  cases h : r[i]? with
  | none => exact Int.le_refl _
  | some x => exact h0 x (List.mem_of_getElem? h)
theorem sm_same {r : List Int} {p q : Nat → Bool} : ∀ {n : Nat}, (∀ k, k < n → p k = q k) → sm r p n = sm r q n
  | 0, _ => rfl
  | n + 1, h => by rw [sm, sm, sm_same (n := n) fun k hk => h k (by omega), h n (by omega)]
theorem sm_le {r : List Int} (h0 : ∀ x ∈ r, 0 ≤ x) {p q : Nat → Bool} : ∀ {n : Nat}, (∀ k, k < n → p k = true → q k = true) → sm r p n ≤ sm r q n
  | 0, _ => Int.le_refl _
  | n + 1, h => by
    have h1 := sm_le h0 (n := n) fun k hk => h k (by omega)
    have h2 := h n (by omega)
    have h3 := gd_pos h0 n
    rw [sm, sm]
    split
    · rw [if_pos (h2 (by assumption))]; omega
    · split <;> omega
theorem sm_pos {r : List Int} (h0 : ∀ x ∈ r, 0 ≤ x) (p : Nat → Bool) (n : Nat) : 0 ≤ sm r p n := by
  have h : ∀ n, sm r (fun _ => false) n = 0 := by
    intro n
    induction n with
    | zero => rfl
    | succ n ih => rw [sm, ih]; simp
  have := sm_le h0 (p := fun _ => false) (q := p) (n := n) fun k _ h => by cases h
  rw [h] at this
  exact this
theorem sm_add {r : List Int} {p q : Nat → Bool} {e : Nat} (hp : p e = false) (hq : q e = true) (hs : ∀ k, k ≠ e → q k = p k) : ∀ (n : Nat), sm r q n = sm r p n + if e < n then gd r e 0 else 0
  | 0 => by simp [sm]
  | n + 1 => by
    rw [sm, sm, sm_add hp hq hs n]
    by_cases h : n = e
    · subst h
      rw [hp, hq]
      simp
    · rw [hs n h]
      by_cases h2 : e < n
      · rw [if_pos h2, if_pos (show e < n + 1 by omega)]; omega
      · rw [if_neg h2, if_neg (show ¬ e < n + 1 by omega)]; omega
theorem sm_ldL {r : List Int} (g : Nat → Nat) (b : Nat) : ∀ (i : Nat), i ≤ r.length → sm r (fun k => g k == b) i = ldL (r.take i) g b
  | 0, _ => by simp [sm, ldL]
  | i + 1, h => by
    rw [sm, sm_ldL g b i (by omega), List.take_add_one, List.getElem?_eq_getElem (show i < r.length by omega)]
    simp only [Option.toList]
    rw [ldL_snoc, List.length_take, Nat.min_eq_left (by omega), gd_in 0 (show i < r.length by omega)]
    by_cases e : g i = b
    · simp [e]
    · simp [e]
def ffI (f : List Int) (x : Int) : Nat := f.findIdx fun y => decide (x ≤ y)
def ffF (C : Int) (f : List Int) (x : Int) : List Int := if ffI f x < f.length then f else f ++ [C]
def stepP (r : List Int) (C : Int) (s : List Int × List Int) (e : Nat) : List Int × List Int :=
  (s.1.set e (ffI s.2 (gd r e 0) : Int), (ffF C s.2 (gd r e 0)).set (ffI s.2 (gd r e 0)) (gd (ffF C s.2 (gd r e 0)) (ffI s.2 (gd r e 0)) 0 - gd r e 0))
theorem ffI_le (f : List Int) (x : Int) : ffI f x ≤ f.length := List.findIdx_le_length
theorem ffI_lt (C : Int) (f : List Int) (x : Int) : ffI f x < (ffF C f x).length := by
  have := ffI_le f x
  unfold ffF
  split
  · assumption
  · rw [List.length_append, List.length_singleton]; omega
theorem ffF_len (C : Int) (f : List Int) (x : Int) : f.length ≤ (ffF C f x).length ∧ (ffF C f x).length ≤ f.length + 1 := by
  unfold ffF
  split
  · omega
  · rw [List.length_append, List.length_singleton]; omega
theorem ffF_gd (C : Int) (f : List Int) (x : Int) : gd (ffF C f x) (ffI f x) 0 = if ffI f x < f.length then gd f (ffI f x) 0 else C := by
  have h := ffI_le f x
  unfold ffF
  split
  · rfl
  · have e : ffI f x = f.length := by omega
    rw [e]
    unfold gd
    rw [List.getElem?_append_right (Nat.le_refl _), Nat.sub_self]; rfl
theorem ffI_ok {f : List Int} {x : Int} (h : ffI f x < f.length) : x ≤ gd f (ffI f x) 0 := by
  have := List.findIdx_getElem (xs := f) (p := fun y => decide (x ≤ y)) (w := h)
  rw [gd_in 0 h]
  exact of_decide_eq_true this
structure PInv (r : List Int) (C : Int) (dn : List Nat) (s : List Int × List Int) : Prop where
  l1 : s.1.length = r.length
  l2 : s.2.length ≤ dn.length
  at_ : ∀ e, e ∈ dn → ∃ b : Nat, b < s.2.length ∧ gd s.1 e 0 = (b : Int)
  lo : ∀ b, b < s.2.length → 0 ≤ gd s.2 b 0 ∧ gd s.2 b 0 ≤ C
  ld : ∀ b, b < s.2.length → gd s.2 b 0 + sm r (fun k => dn.contains k && gd s.1 k 0 == (b : Int)) r.length = C
theorem PInv.zero {r : List Int} {C : Int} {o : List Int} (h : o.length = r.length) : PInv r C [] (o, []) :=
  ⟨h, Nat.le_refl _, fun e he => (by cases he), fun b hb => (by cases hb), fun b hb => (by cases hb)⟩
theorem PInv.step {r : List Int} {C : Int} (h0 : ∀ x ∈ r, 0 ≤ x) (hC : ∀ x ∈ r, x ≤ C) (hC0 : 0 ≤ C) {dn : List Nat} {s : List Int × List Int} (h : PInv r C dn s) {e : Nat} (he : e < r.length) (hn : e ∉ dn) : PInv r C (dn ++ [e]) (stepP r C s e) := by
  have hx0 := gd_pos h0 e
  have hxC : gd r e 0 ≤ C := by rw [gd_in 0 he]; exact hC _ (List.getElem_mem he)
  have hu := ffI_lt C s.2 (gd r e 0)
  have hl := ffF_len C s.2 (gd r e 0)
  have hg := ffF_gd C s.2 (gd r e 0)
  have hok := fun h => ffI_ok (f := s.2) (x := gd r e 0) h
  have hel : e < s.1.length := by rw [h.l1]; exact he
  have g1 : ∀ k, gd (stepP r C s e).1 k 0 = if k = e then (ffI s.2 (gd r e 0) : Int) else gd s.1 k 0 := fun k => gd_setP hel
  have g2 : ∀ b, gd (stepP r C s e).2 b 0 = if b = ffI s.2 (gd r e 0) then gd (ffF C s.2 (gd r e 0)) (ffI s.2 (gd r e 0)) 0 - gd r e 0 else gd (ffF C s.2 (gd r e 0)) b 0 := fun b => gd_setP hu
  have hlen : (stepP r C s e).2.length = (ffF C s.2 (gd r e 0)).length := List.length_set
  have hold : ∀ b, b < s.2.length → gd (ffF C s.2 (gd r e 0)) b 0 = gd s.2 b 0 := by
    intro b hb
    unfold ffF
    split
    · rfl
    · unfold gd; rw [List.getElem?_append_left hb]
  have hnew : ∀ b, b < (ffF C s.2 (gd r e 0)).length → ¬ b < s.2.length → b = ffI s.2 (gd r e 0) ∧ ¬ ffI s.2 (gd r e 0) < s.2.length := by
    intro b hb hnb
    have := ffI_le s.2 (gd r e 0)
    unfold ffF at hb
    split at hb
    · exact absurd hb hnb
    · rw [List.length_append, List.length_singleton] at hb
      exact ⟨by omega, by assumption⟩
  have hcon : ∀ k, (dn ++ [e]).contains k = (dn.contains k || (k == e)) := by
    intro k
    rw [List.contains_eq_any_beq, List.contains_eq_any_beq, List.any_append]
    simp
  have hne : dn.contains e = false := by
    rw [Bool.eq_false_iff]; intro hc
    exact hn (by simpa using hc)
  refine ⟨?_, ?_, ?_, ?_, ?_⟩
  · show (s.1.set e _).length = _
    rw [List.length_set]; exact h.l1
  · rw [hlen, List.length_append, List.length_singleton]; have := h.l2; omega
  · intro k hk
    rw [List.mem_append] at hk
    rw [hlen, g1]
    by_cases hke : k = e
    · rw [if_pos hke]; exact ⟨_, hu, rfl⟩
    · rw [if_neg hke]
      rcases hk with hk | hk
      · obtain ⟨b, hb, hb2⟩ := h.at_ k hk
        exact ⟨b, by omega, hb2⟩
      · exact absurd (by simpa using hk) hke
  · intro b hb
    rw [hlen] at hb
    rw [g2]
    split
    · rw [hg]
      split
      · have hlt : ffI s.2 (gd r e 0) < s.2.length := by assumption
        have := h.lo _ hlt
        have := hok hlt
        omega
      · omega
    · have hbs : b < s.2.length := by
        rcases Nat.lt_or_ge b s.2.length with h1 | h1
        · exact h1
        · exact absurd (hnew b hb (by omega)).1 (by assumption)
      rw [hold b hbs]; exact h.lo b hbs
  · intro b hb
    rw [hlen] at hb
    rw [g2]
    by_cases hbu : b = ffI s.2 (gd r e 0)
    · rw [if_pos hbu, hg]
      have hadd := sm_add (r := r) (p := fun k => dn.contains k && gd s.1 k 0 == (b : Int)) (q := fun k => (dn ++ [e]).contains k && gd (stepP r C s e).1 k 0 == (b : Int)) (e := e)
        (by simp only [hne, Bool.false_and]) (by rw [hcon, g1, if_pos rfl, hbu]; simp) (fun k hk => by
          rw [hcon, g1, if_neg hk]
          have : (k == e) = false := by rw [beq_eq_false_iff_ne]; exact hk
          rw [this, Bool.or_false]) r.length
      rw [if_pos he] at hadd
      rw [hadd]
      split
      · have hlt : b < s.2.length := by rw [hbu]; assumption
        have := h.ld b hlt
        rw [← hbu]
        omega
      · have hz : sm r (fun k => dn.contains k && gd s.1 k 0 == (b : Int)) r.length = 0 := by
          have h1 : sm r (fun k => dn.contains k && gd s.1 k 0 == (b : Int)) r.length = sm r (fun _ => false) r.length := sm_same fun k hk => by
            rw [Bool.and_eq_false_iff]
            by_cases hc : k ∈ dn
            · right
              obtain ⟨b', hb', hb2⟩ := h.at_ k hc
              rw [hb2, beq_eq_false_iff_ne]
              omega
            · left
              rw [Bool.eq_false_iff]; intro hc'
              exact hc (by simpa using hc')
          rw [h1]
          have : ∀ n, sm r (fun _ => false) n = 0 := by
            intro n
            induction n with
            | zero => rfl
            | succ n ih => rw [sm, ih]; simp
          exact this _
        rw [hz]; omega
    · rw [if_neg hbu]
      have hbs : b < s.2.length := by
        rcases Nat.lt_or_ge b s.2.length with h1 | h1
        · exact h1
        · exact absurd (hnew b hb (by omega)).1 hbu
      rw [hold b hbs]
      have hs : sm r (fun k => (dn ++ [e]).contains k && gd (stepP r C s e).1 k 0 == (b : Int)) r.length = sm r (fun k => dn.contains k && gd s.1 k 0 == (b : Int)) r.length := sm_same fun k hk => by
        rw [hcon, g1]
        by_cases hke : k = e
        · rw [if_pos hke, hke, hne]
          have : ((ffI s.2 (gd r e 0) : Int) == (b : Int)) = false := by rw [beq_eq_false_iff_ne]; omega
          rw [this]; simp
        · rw [if_neg hke]
          have : (k == e) = false := by rw [beq_eq_false_iff_ne]; exact hke
          rw [this, Bool.or_false]
      rw [hs]
      exact h.ld b hbs
theorem PInv.fold {r : List Int} {C : Int} (h0 : ∀ x ∈ r, 0 ≤ x) (hC : ∀ x ∈ r, x ≤ C) (hC0 : 0 ≤ C) : ∀ (os : List Nat) {dn : List Nat} {s : List Int × List Int}, PInv r C dn s → (∀ e ∈ os, e < r.length) → (dn ++ os).Nodup → PInv r C (dn ++ os) (os.foldl (stepP r C) s)
  | [], dn, s, h, _, _ => by rw [List.append_nil]; exact h
  | e :: os, dn, s, h, hl, hn => by
    have e1 : dn ++ e :: os = (dn ++ [e]) ++ os := by simp
    rw [e1] at hn ⊢
    have hn1 : e ∉ dn := by
      intro hm
      have := (List.nodup_append.1 (List.nodup_append.1 hn).1).2.2
      exact this e hm e (by simp) rfl
    exact PInv.fold h0 hC hC0 os (h.step h0 hC hC0 (hl e (by simp)) hn1) (fun x hx => hl x (by simp [hx])) hn
structure Vld (r : List Int) (C : Int) (o : List Int) (m : Nat) : Prop where
  len : o.length = r.length
  at_ : ∀ e, e < r.length → ∃ b : Nat, b < m ∧ gd o e 0 = (b : Int)
  le : ∀ b : Nat, sm r (fun k => gd o k 0 == (b : Int)) r.length ≤ C
theorem PInv.vld {r : List Int} {C : Int} (hC0 : 0 ≤ C) {dn : List Nat} {s : List Int × List Int} (h : PInv r C dn s) (hall : ∀ e, e < r.length → e ∈ dn) : Vld r C s.1 s.2.length := by
  refine ⟨h.l1, fun e he => h.at_ e (hall e he), fun b => ?_⟩
  have hs : sm r (fun k => gd s.1 k 0 == (b : Int)) r.length = sm r (fun k => dn.contains k && gd s.1 k 0 == (b : Int)) r.length := sm_same fun k hk => by
    have : dn.contains k = true := by simpa using hall k hk
    rw [this, Bool.true_and]
  rw [hs]
  by_cases hb : b < s.2.length
  · have h1 := h.ld b hb
    have h2 := h.lo b hb
    omega
  · have h1 : sm r (fun k => dn.contains k && gd s.1 k 0 == (b : Int)) r.length = sm r (fun _ => false) r.length := sm_same fun k hk => by
      rw [Bool.and_eq_false_iff]
      right
      obtain ⟨b', hb', hb2⟩ := h.at_ k (hall k hk)
      rw [hb2, beq_eq_false_iff_ne]
      omega
    rw [h1]
    have : ∀ n, sm r (fun _ => false) n = 0 := by
      intro n
      induction n with
      | zero => rfl
      | succ n ih => rw [sm, ih]; simp
    rw [this]; exact hC0
theorem Vld.fit {r : List Int} {C : Int} {o : List Int} {m : Nat} (h0 : ∀ x ∈ r, 0 ≤ x) (h : Vld r C o m) : Fit r (List.replicate m C) := by
  refine fit_of (g := fun k => (gd o k 0).toNat) h0 (fun i hi => ?_) fun b hb => ?_
  · obtain ⟨b, hb, hb2⟩ := h.at_ i hi
    rw [List.length_replicate]
    simp only [hb2]
    omega
  · have h1 := h.le b
    rw [gd_in 0 hb, List.getElem_replicate]
    rw [← List.take_length (l := r), ← sm_ldL _ b r.length (Nat.le_refl _)]
    have hs : sm r (fun k => (gd o k 0).toNat == b) r.length = sm r (fun k => gd o k 0 == (b : Int)) r.length := sm_same fun k hk => by
      obtain ⟨b', hb', hb2⟩ := h.at_ k hk
      rw [hb2, Int.toNat_natCast, Bool.eq_iff_iff, beq_iff_eq, beq_iff_eq]
      omega
    rw [hs]; exact h1
end AT

namespace AT
def inR (n a b : Int) : Bool := decide (a ≤ n) && decide (n ≤ b)
theorem withinR (fu : Nat) (n a b : Int) : impl_within fu n a b = some (inR n a b) := by
  unfold impl_within inR
  by_cases h : a ≤ n
  · simp [h]
  · simp [h]
theorem l1InR (fu : Nat) (n a b : Int) : spec_l1In fu n a b = some (inR n a b) := by
  unfold spec_l1In inR
  by_cases h : a ≤ n
  · have h' : n ≥ a := h
    simp [h, h']
  · have h' : ¬ n ≥ a := h
    simp [h, h']
def pkOk (r : List Int) (C : Int) (most : Nat) : Bool := inR C 1 10000 && (decide (r.length ≤ most) && !(r.any fun x => !inR x 1 C))
theorem isPk_contains {fu : Nat} (l : List Int) (C : Int) (h : l.length < fu) (hn : l.length ≤ 2097152) : slices_ContainsFunc_int_int_of_isPacking_c1 fu l C = some (l.any fun p => !inR p 1 C) := by
  unfold slices_ContainsFunc_int_int_of_isPacking_c1 slices_IndexFunc_int_int_of_isPacking_c1
  rw [scan_all (l := l) (G := slices_IndexFunc_int_int_of_isPacking_c1_L1 fu l C) (fun p => !inR p 1 C) (fun i => (i : Int)) (by omega)
    (fun fk i hi => by rw [slices_IndexFunc_int_int_of_isPacking_c1_L1, if_pos (by simpa using hi), idx_in hi]; simp only [impl_isPacking_c1, withinR, Option.bind_some])
    (fun fk => by rw [slices_IndexFunc_int_int_of_isPacking_c1_L1, if_neg (by simp)]) fu h]
  cases l.any fun p => !inR p 1 C <;> simp [Out.on]
theorem isPk_eq {fu : Nat} (hfu : 2097153 ≤ fu) (r : List Int) (hr : r.length ≤ 2097152) (C : Int) (most : Nat) : impl_isPacking fu r C (most : Int) = some (pkOk r C most) := by
  unfold impl_isPacking pkOk
  rw [withinR, Option.bind_some, isPk_contains r C (by omega) hr]
  have e : decide ((r.length : Int) ≤ (most : Int)) = decide (r.length ≤ most) := by simp only [decide_eq_decide]; omega
  rw [e]
  cases inR C 1 10000
  · rfl
  · cases decide (r.length ≤ most)
    · rfl
    · cases r.any fun x => !inR x 1 C <;> rfl
theorem rates_on {fu : Nat} (r : List Int) (hr : r.length ≤ 2097152) (C : Int) : ∀ (fk i : Nat), i ≤ r.length → r.length - i < fk → ∃ o, spec_l18Rates_L1 fu r C fk i = some o ∧ (o = .ret false ∨ ∃ z, o = .next z) := by
  intro fk
  induction fk with
  | zero => intro i _ h; omega
  | succ fk ih =>
    intro i hi hk
    rw [spec_l18Rates_L1]
    by_cases h : i < r.length
    · have h' : (i : Int) < (r.length : Int) := by omega
      rw [decide_eq_true h', if_pos rfl, Option.bind_some]
      by_cases h2 : (i : Int) ≤ 12
      · rw [decide_eq_true h2, if_pos rfl, idx_in h, Option.bind_some, l1InR, Option.bind_some]
        cases inR r[i] 1 C
        · exact ⟨_, rfl, .inl rfl⟩
        · rw [w64_inc h (by omega)]
          exact ih (i + 1) h (by omega)
      · rw [decide_eq_false h2, if_neg Bool.false_ne_true]
        exact ⟨_, rfl, .inr ⟨_, rfl⟩⟩
    · have h' : ¬ (i : Int) < (r.length : Int) := by omega
      rw [decide_eq_false h', if_neg Bool.false_ne_true, Option.bind_some, if_neg Bool.false_ne_true]
      exact ⟨_, rfl, .inr ⟨_, rfl⟩⟩
theorem rates_eq {fu : Nat} (hfu : 2097153 ≤ fu) (r : List Int) (hr : r.length ≤ 2097152) (C : Int) : spec_l18Rates fu r C = some (pkOk r C 12) := by
  unfold spec_l18Rates pkOk
  by_cases h : r.length ≤ 12
  · rw [scan_all (l := r) (G := spec_l18Rates_L1 fu r C) (fun p => !inR p 1 C) (fun i => false) (by omega)
      (fun fk i hi => by
        have h1 : (i : Int) < (r.length : Int) := by omega
        have h2 : (i : Int) ≤ 12 := by omega
        rw [spec_l18Rates_L1, decide_eq_true h1, if_pos rfl, Option.bind_some, decide_eq_true h2, if_pos rfl, idx_in hi, Option.bind_some, l1InR, Option.bind_some])
      (fun fk => by
        rw [spec_l18Rates_L1, if_neg (by simp)]
        rfl) fu (by omega)]
    have e : (r.length : Int) ≤ 12 := by omega
    rw [Option.bind_some, decide_eq_true h]
    cases r.any fun p => !inR p 1 C
    · rw [if_neg Bool.false_ne_true]
      show ((if decide ((r.length : Int) ≤ 12) = true then _ else _) : Option Bool).bind _ = _
      rw [decide_eq_true e, if_pos rfl, l1InR]
      cases inR C 1 10000 <;> rfl
    · rw [if_pos rfl]
      cases inR C 1 10000 <;> rfl
  · obtain ⟨o, h1, h2⟩ := rates_on (fu := fu) r hr C fu 0 (by omega) (by omega)
    have h1' : spec_l18Rates_L1 fu r C fu 0 = some o := h1
    have e : ¬ (r.length : Int) ≤ 12 := by omega
    rw [h1', Option.bind_some, decide_eq_false h]
    rcases h2 with rfl | ⟨z, rfl⟩
    · cases inR C 1 10000 <;> rfl
    · show ((if decide ((r.length : Int) ≤ 12) = true then _ else _) : Option Bool).bind _ = _
      rw [decide_eq_false e, if_neg Bool.false_ne_true]
      cases inR C 1 10000 <;> rfl
def cI (k : Nat) : Int := (k : Int)
theorem app1K {α : Type} {l : List α} {x : α} (h : l.length ≤ 2097152) : app l [x] = some (l ++ [x]) := by unfold app; rw [if_pos (by simp; omega)]
theorem num_loop {fu : Nat} (n : Nat) (hn : n ≤ 2097152) : ∀ (fk i : Nat), i ≤ n → n - i < fk → impl_numbered_L1 fu n fk ((List.range i).map cI) i = some ((List.range n).map cI, (n : Int)) := by
  intro fk
  induction fk with
  | zero => intro i _ h; omega
  | succ fk ih =>
    intro i hi hk
    rw [impl_numbered_L1]
    by_cases h : i < n
    · have h' : (i : Int) < (n : Int) := by omega
      rw [decide_eq_true h', if_pos rfl, app1K (by simp; omega), Option.bind_some, w64_inc h (by omega)]
      have e : (List.range i).map cI ++ [(i : Int)] = (List.range (i + 1)).map cI := by rw [List.range_succ, List.map_append]; rfl
      rw [e]
      exact ih (i + 1) h (by omega)
    · obtain rfl : i = n := by omega
      rw [if_neg (by simp)]
theorem num_eq {fu : Nat} (hfu : 2097153 ≤ fu) (n : Nat) (hn : n ≤ 2097152) : impl_numbered fu (n : Int) = some ((List.range n).map cI) := by
  unfold impl_numbered
  have h := num_loop (fu := fu) n hn fu 0 (by omega) (by omega)
  have h' : impl_numbered_L1 fu n fu [] 0 = some ((List.range n).map cI, (n : Int)) := h
  rw [h']; rfl
theorem ord_loop {fu : Nat} (hfu : 2097153 ≤ fu) (r : List Int) (hr : r.length ≤ 2097152) : ∀ (fk i : Nat), i ≤ r.length → r.length - i < fk → ∃ z, spec_l18Order_L1 fu r false fk ((List.range i).map cI) i = some ((List.range r.length).map cI, z) := by
  intro fk
  induction fk with
  | zero => intro i _ h; omega
  | succ fk ih =>
    intro i hi hk
    rw [spec_l18Order_L1]
    by_cases h : i < r.length
    · have h' : (i : Int) < (r.length : Int) := by omega
      have hl : ((List.range i).map cI).length = i := by simp
      obtain ⟨f, rfl⟩ : ∃ f, fu = f + 1 := ⟨fu - 1, by omega⟩
      have h2 : spec_l18Order_L2 (f + 1) r false ((List.range i).map cI) (i : Int) (f + 1) (((List.range i).map cI).length : Int) = some (((List.range i).map cI).length : Int) := by
        rw [spec_l18Order_L2]
        rfl
      have s1 : sub ((List.range i).map cI) 0 (((List.range i).map cI).length : Int) = some ((List.range i).map cI) := by
        unfold sub; rw [if_pos (by omega), Int.toNat_natCast, List.take_length]; rfl
      have s2 : sub ((List.range i).map cI) (((List.range i).map cI).length : Int) (((List.range i).map cI).length : Int) = some [] := by
        unfold sub; rw [if_pos (by omega)]; simp
      have a1 : app ([] : List Int) ((List.range i).map cI) = some ((List.range i).map cI) := by unfold app; rw [if_pos (by simp; omega)]; rfl
      have e : (List.range i).map cI ++ [(i : Int)] = (List.range (i + 1)).map cI := by rw [List.range_succ, List.map_append]; rfl
      have a2 : app ((List.range (i + 1)).map cI) ([] : List Int) = some ((List.range (i + 1)).map cI) := by unfold app; rw [if_pos (by simp; omega)]; simp
      rw [decide_eq_true h', if_pos rfl, h2, Option.bind_some, s1, Option.bind_some, s2, Option.bind_some, a1, Option.bind_some, app1K (by simp; omega), Option.bind_some, e, a2, Option.bind_some, w64_inc h (by omega)]
      exact ih (i + 1) h (by omega)
    · obtain rfl : i = r.length := by omega
      rw [if_neg (by simp)]
      exact ⟨_, rfl⟩
theorem ord_eq {fu : Nat} (hfu : 2097153 ≤ fu) (r : List Int) (hr : r.length ≤ 2097152) : spec_l18Order fu r false = some ((List.range r.length).map cI) := by
  unfold spec_l18Order
  obtain ⟨z, h⟩ := ord_loop hfu r hr fu 0 (by omega) (by omega)
  have h' : spec_l18Order_L1 fu r false fu [] 0 = some ((List.range r.length).map cI, z) := h
  rw [h']; rfl
theorem ff_index {fu : Nat} (f r : List Int) (e : Nat) (he : e < r.length) (h : f.length < fu) (hn : f.length ≤ 2097152) : slices_IndexFunc_int_int_of_packed_c1 fu f r (cI e) = some (if ffI f (gd r e 0) < f.length then (ffI f (gd r e 0) : Int) else -1) := by
  unfold slices_IndexFunc_int_int_of_packed_c1
  rw [scan_all (l := f) (G := slices_IndexFunc_int_int_of_packed_c1_L1 fu f r (cI e)) (fun p => decide (gd r e 0 ≤ p)) (fun i => (i : Int)) (by omega)
    (fun fk i hi => by
      have hx : idx r (cI e) = some (gd r e 0) := idx_gd 0 he
      rw [slices_IndexFunc_int_int_of_packed_c1_L1, if_pos (by simpa using hi), idx_in hi]
      simp only [impl_packed_c1, hx, Option.bind_some])
    (fun fk => by rw [slices_IndexFunc_int_int_of_packed_c1_L1, if_neg (by simp)]) fu h]
  by_cases hc : (f.any fun p => decide (gd r e 0 ≤ p)) = true
  · have h1 : ffI f (gd r e 0) < f.length := List.findIdx_lt_length_of_exists (List.any_eq_true.1 hc)
    rw [if_pos h1, hc]; rfl
  · have h1 : ¬ ffI f (gd r e 0) < f.length := fun hlt => hc (List.any_eq_true.2 ⟨_, List.getElem_mem hlt, List.findIdx_getElem (w := hlt)⟩)
    rw [Bool.not_eq_true] at hc
    rw [if_neg h1, hc]; rfl
theorem ff_step {f : List Int} {C : Int} {e : Nat} {x : Int} (h : ¬ ffI f x < f.length) : ffF C f x = f ++ [C] ∧ ffI f x = f.length := by
  have := ffI_le f x
  unfold ffF
  rw [if_neg h]
  exact ⟨rfl, by omega⟩
theorem PInv.w {r : List Int} {C : Int} (h0 : ∀ x ∈ r, 0 ≤ x) (hC : C ≤ 10000) (hC0 : 0 ≤ C) {dn : List Nat} {s : List Int × List Int} (h : PInv r C dn s) (e : Nat) (he : e < r.length) (hx : gd r e 0 ≤ C) : w64 (gd (ffF C s.2 (gd r e 0)) (ffI s.2 (gd r e 0)) 0 - gd r e 0) = gd (ffF C s.2 (gd r e 0)) (ffI s.2 (gd r e 0)) 0 - gd r e 0 := by
  have hg := ffF_gd C s.2 (gd r e 0)
  have hp := gd_pos h0 e
  rw [hg]
  split
  · have := h.lo _ (by assumption)
    rw [w64_in (by omega) (by omega)]
  · rw [w64_in (by omega) (by omega)]
theorem pk_loop {fu : Nat} (hfu : 2097153 ≤ fu) {r : List Int} {C : Int} (h0 : ∀ x ∈ r, 0 ≤ x) (hC : ∀ x ∈ r, x ≤ C) (hC0 : 0 ≤ C) (hC1 : C ≤ 10000) (os : List Nat) (hos : os.length ≤ 100) (hol : ∀ e ∈ os, e < r.length) (hnd : os.Nodup) : ∀ (fk i : Nat) (s : List Int × List Int), PInv r C (os.take i) s → i ≤ os.length → os.length - i < fk →
    ∃ z, impl_packed_L1 fu r C (os.map cI) fk s.1 s.2 i = some (((os.drop i).foldl (stepP r C) s).1, ((os.drop i).foldl (stepP r C) s).2, z) := by
  intro fk
  induction fk with
  | zero => intro i _ _ _ h; omega
  | succ fk ih =>
    intro i s hP hi hk
    rw [impl_packed_L1]
    by_cases h : i < os.length
    · have h' : (i : Int) < ((os.map cI).length : Int) := by simp; omega
      have hx : idx (os.map cI) (i : Int) = some (cI os[i]) := by rw [idx_in (by simpa using h)]; simp
      have he : os[i] < r.length := hol _ (List.getElem_mem h)
      have hxr : idx r (cI os[i]) = some (gd r os[i] 0) := idx_gd 0 he
      have hxo : ∀ o : List Int, o.length = r.length → idx o (cI os[i]) = some (gd o os[i] 0) := fun o ho => idx_gd 0 (by omega)
      have hfl : s.2.length ≤ 100 := by have := hP.l2; rw [List.length_take] at this; omega
      have hnm : os[i] ∉ os.take i := by
        intro hm
        rw [List.mem_take_iff_getElem] at hm
        obtain ⟨j, hj, hje⟩ := hm
        have := (List.getElem_inj hnd).1 hje
        omega
      have hP' : PInv r C (os.take (i + 1)) (stepP r C s os[i]) := by
        have := hP.step h0 hC hC0 he hnm
        rwa [List.take_append_getElem h] at this
      obtain ⟨z, hz⟩ := ih (i + 1) _ hP' h (by omega)
      have hw := hP.w h0 hC1 hC0 os[i] he (by rw [gd_in 0 he]; exact hC _ (List.getElem_mem he))
      have hfold : (os.drop i).foldl (stepP r C) s = (os.drop (i + 1)).foldl (stepP r C) (stepP r C s os[i]) := by
        rw [← List.getElem_cons_drop h]; rfl
      rw [decide_eq_true h', if_pos rfl, hx, Option.bind_some, ff_index s.2 r os[i] he (by omega) (by omega), Option.bind_some, hfold, w64_inc h (by omega)]
      refine ⟨z, ?_⟩
      rw [← hz]
      by_cases hc : ffI s.2 (gd r os[i] 0) < s.2.length
      · have hF : ffF C s.2 (gd r os[i] 0) = s.2 := by unfold ffF; rw [if_pos hc]
        rw [hF] at hw
        have hneg : ¬ (ffI s.2 (gd r os[i] 0) : Int) < 0 := by omega
        rw [if_pos hc, decide_eq_false hneg, if_neg Bool.false_ne_true, idx_gd 0 hc, Option.bind_some, hxr, Option.bind_some, Option.bind_some, hxo s.1 hP.l1, Option.bind_some, hw, Int.toNat_natCast]
        unfold stepP
        rw [hF]
        rfl
      · obtain ⟨hF, hI⟩ := ff_step (C := C) (e := os[i]) hc
        rw [hF, hI] at hw
        rw [if_neg hc, decide_eq_true (show (-1 : Int) < 0 by omega), if_pos rfl, app1K (by omega), Option.bind_some]
        rw [idx_gd 0 (show s.2.length < (s.2 ++ [C]).length by simp), Option.bind_some, hxr, Option.bind_some, Option.bind_some, hxo s.1 hP.l1, Option.bind_some, hw, Int.toNat_natCast]
        unfold stepP
        rw [hF, hI]
        rfl
    · obtain rfl : i = os.length := by omega
      have h' : ¬ ((os.length : Nat) : Int) < ((os.map cI).length : Int) := by simp
      rw [decide_eq_false h', if_neg Bool.false_ne_true, List.drop_length]
      exact ⟨_, rfl⟩
def pk (r : List Int) (C : Int) (os : List Nat) : List Int × List Int := os.foldl (stepP r C) (List.replicate r.length 0, [])
theorem packed_eq {fu : Nat} (hfu : 2097153 ≤ fu) {r : List Int} {C : Int} (h0 : ∀ x ∈ r, 0 ≤ x) (hC : ∀ x ∈ r, x ≤ C) (hC0 : 0 ≤ C) (hC1 : C ≤ 10000) (os : List Nat) (hr : r.length ≤ 2097152) (hos : os.length ≤ 100) (hol : ∀ e ∈ os, e < r.length) (hnd : os.Nodup) : impl_packed fu r C (os.map cI) = some (pk r C os).1 := by
  unfold impl_packed
  obtain ⟨z, hz⟩ := pk_loop hfu h0 hC hC0 hC1 os hos hol hnd fu 0 (List.replicate r.length 0, []) (PInv.zero (by simp)) (by omega) (by omega)
  have hz' : impl_packed_L1 fu r C (os.map cI) fu (List.replicate r.length 0) [] 0 = some ((pk r C os).1, (pk r C os).2, z) := by rw [List.drop_zero] at hz; exact hz
  rw [mk_len hr, Option.bind_some, hz']; rfl
theorem room_loop {fu : Nat} (f : List Int) (x : Int) (hf : f.length ≤ 2097152) : ∀ (fk j : Nat), j ≤ ffI f x → f.length - j < fk → spec_l18Pack_L2 fu x f fk j = some (ffI f x : Int) := by
  intro fk
  induction fk with
  | zero => intro j _ h; omega
  | succ fk ih =>
    intro j hj hk
    have hle := ffI_le f x
    rw [spec_l18Pack_L2]
    by_cases h : j < ffI f x
    · have hjl : j < f.length := by omega
      have h' : (j : Int) < (f.length : Int) := by omega
      have hlt : f[j] < x := by
        have := List.not_of_lt_findIdx (xs := f) (p := fun y => decide (x ≤ y)) (i := j) h
        have := of_decide_eq_false (by simpa using this : decide (x ≤ f[j]) = false)
        omega
      rw [decide_eq_true h', if_pos rfl, idx_in hjl, Option.bind_some, Option.bind_some, decide_eq_true hlt, if_pos rfl, w64_inc hjl (by omega)]
      exact ih (j + 1) h (by omega)
    · have hje : j = ffI f x := by omega
      subst hje
      by_cases hc : ffI f x < f.length
      · have h' : (ffI f x : Int) < (f.length : Int) := by omega
        have hok := ffI_ok hc
        have hn : ¬ gd f (ffI f x) 0 < x := by omega
        rw [decide_eq_true h', if_pos rfl, idx_gd 0 hc, Option.bind_some, Option.bind_some, decide_eq_false hn, if_neg Bool.false_ne_true]
      · have h' : ¬ (ffI f x : Int) < (f.length : Int) := by omega
        rw [decide_eq_false h', if_neg Bool.false_ne_true, Option.bind_some, if_neg Bool.false_ne_true]
theorem spk_loop {fu : Nat} (hfu : 2097153 ≤ fu) {r : List Int} {C : Int} (h0 : ∀ x ∈ r, 0 ≤ x) (hC : ∀ x ∈ r, x ≤ C) (hC0 : 0 ≤ C) (hC1 : C ≤ 10000) (os : List Nat) (hos : os.length ≤ 100) (hol : ∀ e ∈ os, e < r.length) (hnd : os.Nodup) : ∀ (fk i : Nat) (s : List Int × List Int), PInv r C (os.take i) s → i ≤ os.length → os.length - i < fk →
    ∃ z, spec_l18Pack_L1 fu r (os.map cI) C fk s.1 s.2 i = some (((os.drop i).foldl (stepP r C) s).1, ((os.drop i).foldl (stepP r C) s).2, z) := by
  intro fk
  induction fk with
  | zero => intro i _ _ _ h; omega
  | succ fk ih =>
    intro i s hP hi hk
    rw [spec_l18Pack_L1]
    by_cases h : i < os.length
    · have h' : (i : Int) < ((os.map cI).length : Int) := by simp; omega
      have hx : idx (os.map cI) (i : Int) = some (cI os[i]) := by rw [idx_in (by simpa using h)]; simp
      have he : os[i] < r.length := hol _ (List.getElem_mem h)
      have hxr : idx r (cI os[i]) = some (gd r os[i] 0) := idx_gd 0 he
      have hxo : ∀ o : List Int, o.length = r.length → idx o (cI os[i]) = some (gd o os[i] 0) := fun o ho => idx_gd 0 (by omega)
      have hfl : s.2.length ≤ 100 := by have := hP.l2; rw [List.length_take] at this; omega
      have hnm : os[i] ∉ os.take i := by
        intro hm
        rw [List.mem_take_iff_getElem] at hm
        obtain ⟨j, hj, hje⟩ := hm
        have := (List.getElem_inj hnd).1 hje
        omega
      have hP' : PInv r C (os.take (i + 1)) (stepP r C s os[i]) := by
        have := hP.step h0 hC hC0 he hnm
        rwa [List.take_append_getElem h] at this
      obtain ⟨z, hz⟩ := ih (i + 1) _ hP' h (by omega)
      have hw := hP.w h0 hC1 hC0 os[i] he (by rw [gd_in 0 he]; exact hC _ (List.getElem_mem he))
      have hfold : (os.drop i).foldl (stepP r C) s = (os.drop (i + 1)).foldl (stepP r C) (stepP r C s os[i]) := by
        rw [← List.getElem_cons_drop h]; rfl
      have hroom := room_loop (fu := fu) s.2 (gd r os[i] 0) (by omega) fu 0 (by omega) (by omega)
      have hroom' : spec_l18Pack_L2 fu (gd r os[i] 0) s.2 fu 0 = some (ffI s.2 (gd r os[i] 0) : Int) := hroom
      rw [decide_eq_true h', if_pos rfl, hx, Option.bind_some, hxr, Option.bind_some, hroom', Option.bind_some, hfold, w64_inc h (by omega)]
      refine ⟨z, ?_⟩
      rw [← hz]
      by_cases hc : ffI s.2 (gd r os[i] 0) < s.2.length
      · have hF : ffF C s.2 (gd r os[i] 0) = s.2 := by unfold ffF; rw [if_pos hc]
        rw [hF] at hw
        have hne : ((ffI s.2 (gd r os[i] 0) : Int) == (s.2.length : Int)) = false := by rw [beq_eq_false_iff_ne]; omega
        rw [hne, if_neg Bool.false_ne_true, idx_gd 0 hc, Option.bind_some, Option.bind_some, Option.bind_some, hxo s.1 hP.l1, Option.bind_some, hw, Int.toNat_natCast]
        unfold stepP
        rw [hF]
        rfl
      · obtain ⟨hF, hI⟩ := ff_step (C := C) (e := os[i]) hc
        rw [hF, hI] at hw
        have hne : ((ffI s.2 (gd r os[i] 0) : Int) == (s.2.length : Int)) = true := by rw [beq_iff_eq, hI]
        rw [hne, if_pos rfl, app1K (by omega), Option.bind_some, hI]
        rw [idx_gd 0 (show s.2.length < (s.2 ++ [C]).length by simp), Option.bind_some, Option.bind_some, Option.bind_some, hxo s.1 hP.l1, Option.bind_some, hw, Int.toNat_natCast]
        unfold stepP
        rw [hF, hI]
        rfl
    · obtain rfl : i = os.length := by omega
      have h' : ¬ ((os.length : Nat) : Int) < ((os.map cI).length : Int) := by simp
      rw [decide_eq_false h', if_neg Bool.false_ne_true, List.drop_length]
      exact ⟨_, rfl⟩
theorem spacked_eq {fu : Nat} (hfu : 2097153 ≤ fu) {r : List Int} {C : Int} (h0 : ∀ x ∈ r, 0 ≤ x) (hC : ∀ x ∈ r, x ≤ C) (hC0 : 0 ≤ C) (hC1 : C ≤ 10000) (os : List Nat) (hr : r.length ≤ 2097152) (hos : os.length ≤ 100) (hol : ∀ e ∈ os, e < r.length) (hnd : os.Nodup) : ∃ z, spec_l18Pack fu r (os.map cI) C = some ((pk r C os).1, z) := by
  unfold spec_l18Pack
  obtain ⟨z, hz⟩ := spk_loop hfu h0 hC hC0 hC1 os hos hol hnd fu 0 (List.replicate r.length 0, []) (PInv.zero (by simp)) (by omega) (by omega)
  have hz' : spec_l18Pack_L1 fu r (os.map cI) C fu (List.replicate r.length 0) [] 0 = some ((pk r C os).1, (pk r C os).2, z) := by rw [List.drop_zero] at hz; exact hz
  rw [mk_len hr, Option.bind_some, hz']
  exact ⟨_, rfl⟩
theorem pk_vld {r : List Int} {C : Int} (h0 : ∀ x ∈ r, 0 ≤ x) (hC : ∀ x ∈ r, x ≤ C) (hC0 : 0 ≤ C) {os : List Nat} (hp : os.Perm (List.range r.length)) : ∃ m, m ≤ r.length ∧ Vld r C (pk r C os).1 m := by
  have hnd : os.Nodup := hp.nodup_iff.2 List.nodup_range
  have h := PInv.fold h0 hC hC0 os (dn := []) (s := (List.replicate r.length 0, [])) (PInv.zero (by simp)) (fun e he => by simpa using hp.mem_iff.1 he) (by simpa using hnd)
  refine ⟨_, ?_, h.vld hC0 fun e he => by simpa using hp.mem_iff.2 (by simpa using he)⟩
  have := h.l2
  rw [List.nil_append, hp.length_eq, List.length_range] at this
  exact this
theorem pkOk_to {r : List Int} {C : Int} {m : Nat} (h : pkOk r C m = true) : 1 ≤ C ∧ C ≤ 10000 ∧ r.length ≤ m ∧ (∀ x ∈ r, 0 ≤ x) ∧ ∀ x ∈ r, x ≤ C := by
  unfold pkOk inR at h
  simp only [Bool.and_eq_true, decide_eq_true_eq, Bool.not_eq_true', List.any_eq_false, Bool.not_eq_false', Bool.not_eq_true] at h
  obtain ⟨⟨h1, h2⟩, h3, h4⟩ := h
  have h5 : ∀ x ∈ r, 1 ≤ x ∧ x ≤ C := fun x hx => by simpa using h4 x hx
  exact ⟨h1, h2, h3, fun x hx => by have := h5 x hx; omega, fun x hx => (h5 x hx).2⟩
theorem inOrder_eq {fu : Nat} (hfu : 2097153 ≤ fu) (r : List Int) (hr : r.length ≤ 2097152) (C : Int) (h : pkOk r C 12 = true) : impl_PackInOrder fu r C = some ((pk r C (List.range r.length)).1, true) ∧ spec_PackInOrder fu r C = some ((pk r C (List.range r.length)).1, true) := by
  obtain ⟨c1, c2, c3, c4, c5⟩ := pkOk_to h
  have e12 : impl_isPacking fu r C 12 = some (pkOk r C 12) := isPk_eq hfu r hr C 12
  have hol : ∀ e ∈ List.range r.length, e < r.length := fun e he => by simpa using he
  constructor
  · unfold impl_PackInOrder
    rw [e12, Option.bind_some, h, num_eq hfu r.length hr, Option.bind_some, packed_eq hfu c4 c5 (by omega) c2 _ hr (by simp; omega) hol List.nodup_range]
    rfl
  · obtain ⟨z, hz⟩ := spacked_eq hfu c4 c5 (by omega) c2 (List.range r.length) hr (by simp; omega) hol List.nodup_range
    unfold spec_PackInOrder
    rw [rates_eq hfu r hr, Option.bind_some, h, ord_eq hfu r hr, Option.bind_some, hz]
    rfl
theorem inOrder_bad {fu : Nat} (hfu : 2097153 ≤ fu) (r : List Int) (hr : r.length ≤ 2097152) (C : Int) (h : pkOk r C 12 = false) : impl_PackInOrder fu r C = some ([], false) ∧ spec_PackInOrder fu r C = some ([], false) ∧ impl_PackDescending fu r C = some ([], false) := by
  have e12 : impl_isPacking fu r C 12 = some (pkOk r C 12) := isPk_eq hfu r hr C 12
  refine ⟨?_, ?_, ?_⟩
  · unfold impl_PackInOrder
    rw [e12, Option.bind_some, h]; rfl
  · unfold spec_PackInOrder
    rw [rates_eq hfu r hr, Option.bind_some, h]; rfl
  · unfold impl_PackDescending
    rw [e12, Option.bind_some, h]; rfl
end AT

namespace AT
theorem sm_up {r : List Int} (h0 : ∀ x ∈ r, 0 ≤ x) (p : Nat → Bool) {i : Nat} : ∀ {n : Nat}, i ≤ n → sm r p i ≤ sm r p n
  | 0, h => by rw [Nat.le_zero.1 h]; exact Int.le_refl _
  | n + 1, h => by
    rcases Nat.lt_or_ge i (n + 1) with h1 | h1
    · have := sm_up h0 p (i := i) (n := n) (by omega)
      have h3 := gd_pos h0 n
      rw [sm]
      split <;> omega
    · have : i = n + 1 := by omega
      rw [this]; exact Int.le_refl _
theorem rp_loop {fu : Nat} {r o : List Int} {C : Int} {m : Nat} (h0 : ∀ x ∈ r, 0 ≤ x) (hC : C ≤ 10000) (hm : m ≤ r.length) (hr : r.length ≤ 100) (hV : Vld r C o m) : ∀ (fk i : Nat) (ld : List Int) (mo : Nat), i ≤ o.length → o.length - i < fk → ld.length = r.length + 1 → (∀ b, b < r.length + 1 → gd ld b 0 = sm r (fun k => gd o k 0 == (b : Int)) i) → mo ≤ m → (∀ k, k < i → gd o k 0 < (mo : Int)) →
    ∃ (mo' : Nat) (ld' : List Int) (z : Int), laws_rPacked_L1 fu r o C fk ld mo i = some (.next (ld', (mo' : Int), z)) ∧ mo' ≤ m ∧ ∀ k, k < o.length → gd o k 0 < (mo' : Int) := by
  intro fk
  induction fk with
  | zero => intro i _ _ _ h; omega
  | succ fk ih =>
    intro i ld mo hi hk hl hld hmo hmk
    rw [laws_rPacked_L1]
    have hol := hV.len
    by_cases h : i < o.length
    · have h' : (i : Int) < (o.length : Int) := by omega
      obtain ⟨b, hb, hbe⟩ := hV.at_ i (by omega)
      have n1 : ¬ (b : Int) < 0 := by omega
      have n2 : ¬ (b : Int) ≥ (r.length : Int) := by omega
      have hbl : b < ld.length := by omega
      have hlb := hld b (by omega)
      have hs1 : sm r (fun k => gd o k 0 == (b : Int)) (i + 1) = sm r (fun k => gd o k 0 == (b : Int)) i + gd r i 0 := by
        rw [sm, if_pos (by rw [hbe]; simp)]
      have hle : sm r (fun k => gd o k 0 == (b : Int)) (i + 1) ≤ C := Int.le_trans (sm_up h0 _ (show i + 1 ≤ r.length by omega)) (hV.le b)
      have hp0 := sm_pos h0 (fun k => gd o k 0 == (b : Int)) i
      have hg0 := gd_pos h0 i
      have hset : ∀ c, c < r.length + 1 → gd (ld.set b (sm r (fun k => gd o k 0 == (b : Int)) (i + 1))) c 0 = sm r (fun k => gd o k 0 == (c : Int)) (i + 1) := by
        intro c hc
        rw [gd_setP hbl]
        by_cases hcb : c = b
        · rw [if_pos hcb, hcb]
        · rw [if_neg hcb, hld c hc]
          have : (gd o i 0 == (c : Int)) = false := by rw [hbe, beq_eq_false_iff_ne]; omega
          rw [sm, this]; simp
      have n3 : ¬ sm r (fun k => gd o k 0 == (b : Int)) (i + 1) > C := by omega
      have hir : i < r.length := by omega
      have hsb := hset b (by omega)
      have hbl2 : b < (ld.set b (sm r (fun k => gd o k 0 == (b : Int)) (i + 1))).length := by rw [List.length_set]; exact hbl
      have hol' : (o.length : Int) ≤ 9223372036854775807 := by omega
      have hwr : -9223372036854775808 ≤ sm r (fun k => gd o k 0 == (b : Int)) i + gd r i 0 ∧ sm r (fun k => gd o k 0 == (b : Int)) i + gd r i 0 ≤ 9223372036854775807 := by omega
      have hwi := w64_inc h hol'
      have hw1 : w64 ((b : Int) + 1) = ((b + 1 : Nat) : Int) := w64_inc (n := o.length) (by omega) hol'
      have hw : w64 (gd ld b 0 + gd r i 0) = sm r (fun k => gd o k 0 == (b : Int)) (i + 1) := by rw [hlb, w64_in hwr.1 hwr.2, hs1]
      rw [decide_eq_true h', if_pos rfl, idx_gd 0 h, Option.bind_some, hbe, decide_eq_false n1, if_neg Bool.false_ne_true, Option.bind_some, Option.bind_some, decide_eq_false n2, if_neg Bool.false_ne_true, Option.bind_some, Option.bind_some, idx_gd 0 hbl, Option.bind_some, idx_gd 0 hir, Option.bind_some, Option.bind_some, Option.bind_some, Int.toNat_natCast, hw,
        idx_gd 0 hbl2, Option.bind_some, hsb, decide_eq_false n3, if_neg Bool.false_ne_true, Option.bind_some, hw1, hwi]
      clear hw hwi
      by_cases hgt : ((b + 1 : Nat) : Int) > (mo : Int)
      · rw [decide_eq_true hgt, if_pos rfl, Option.bind_some, hw1]
        clear hw1
        refine ih (i + 1) _ (b + 1) h (by omega) (by rw [List.length_set]; exact hl) hset (by omega) fun k hk => ?_
        by_cases hki : k = i
        · rw [hki, hbe]; omega
        · have := hmk k (by omega); omega
      · rw [decide_eq_false hgt, if_neg Bool.false_ne_true]
        clear hw1
        refine ih (i + 1) _ mo h (by omega) (by rw [List.length_set]; exact hl) hset hmo fun k hk => ?_
        by_cases hki : k = i
        · rw [hki, hbe]; omega
        · exact hmk k (by omega)
    · have h' : ¬ (i : Int) < (o.length : Int) := by omega
      rw [decide_eq_false h', if_neg Bool.false_ne_true]
      exact ⟨mo, ld, _, rfl, hmo, fun k hk => hmk k (by omega)⟩
theorem rPacked_ok {fu : Nat} (hfu : 2097153 ≤ fu) {r o : List Int} {C : Int} {m : Nat} (h0 : ∀ x ∈ r, 0 ≤ x) (hC : C ≤ 10000) (hm : m ≤ r.length) (hr : r.length ≤ 100) (hV : Vld r C o m) : ∃ m' : Nat, laws_rPacked fu r o C = some (m' : Int) ∧ m' ≤ r.length ∧ Vld r C o m' := by
  have hol := hV.len
  have hmk : mk (0 : Int) (w64 ((r.length : Int) + 1)) = some (List.replicate (r.length + 1) 0) := by
    rw [show w64 ((r.length : Int) + 1) = ((r.length + 1 : Nat) : Int) by rw [w64_in (by omega) (by omega)]; rfl]
    exact mk_len (by omega)
  obtain ⟨m', ld', z, h1, h2, h3⟩ := rp_loop (fu := fu) h0 hC hm hr hV fu 0 (List.replicate (r.length + 1) 0) 0 (by omega) (by omega) (by simp) (fun b hb => by
    rw [gd_in 0 (by simpa using hb)]; simp [sm]) (by omega) (fun k hk => by omega)
  have h1' : laws_rPacked_L1 fu r o C fu (List.replicate (r.length + 1) 0) 0 0 = some (.next (ld', (m' : Int), z)) := h1
  have hne : ((o.length : Int) != (r.length : Int)) = false := by rw [hol]; simp
  unfold laws_rPacked
  rw [hne, if_neg Bool.false_ne_true, hmk, Option.bind_some, h1', Option.bind_some]
  refine ⟨m', rfl, by omega, hol, fun e he => ?_, hV.le⟩
  obtain ⟨b, hb, hbe⟩ := hV.at_ e he
  have := h3 e (by omega)
  rw [hbe] at this
  exact ⟨b, by omega, hbe⟩
theorem cmpK (fu : Nat) (x y : Int) : ∃ c, cmp_Compare_int fu x y = some c := by
  have e : ∀ x : Int, cmp_isNaN_int fu x = some false := fun x => by unfold cmp_isNaN_int; simp
  unfold cmp_Compare_int
  rw [e, e]
  simp only [Option.bind_some, Bool.false_eq_true, if_false]
  split
  · exact ⟨_, rfl⟩
  · split <;> exact ⟨_, rfl⟩
theorem insF_loop {fu : Nat} : ∀ (fk j : Nat) (l : List Int), j < fk → j < l.length → l.length ≤ 2097152 → ∃ l' j', slices_insertionSortCmpFunc_int_of_FewestUnits_c1_L2 fu 0 fk l j = some (l', j') ∧ l'.Perm l := by
  intro fk
  induction fk with
  | zero => intro j _ h; omega
  | succ fk ih =>
    intro j l hk hj hl
    rw [slices_insertionSortCmpFunc_int_of_FewestUnits_c1_L2]
    by_cases h0 : 0 < j
    · have h0' : (j : Int) > 0 := by omega
      have hj1 : j - 1 < l.length := by omega
      obtain ⟨c, hc⟩ := cmpK fu l[j - 1] l[j]
      have hcl : impl_FewestUnits_c1 fu l[j] l[j - 1] = some c := by unfold impl_FewestUnits_c1; rw [hc]; rfl
      rw [decide_eq_true h0', if_pos rfl, idx_in hj, Option.bind_some, w64_dec h0 (show j ≤ 2097152 by omega), idx_in hj1, Option.bind_some, hcl, Option.bind_some, Option.bind_some]
      by_cases hlt : c < 0
      · have hj2 : j - 1 < (l.set j l[j - 1]).length := by rw [List.length_set]; exact hj1
        rw [decide_eq_true hlt, if_pos rfl, Option.bind_some, Option.bind_some, Option.bind_some, Int.toNat_natCast, idx_in hj2, Option.bind_some]
        obtain ⟨l', j', h1, h2⟩ := ih (j - 1) ((l.set j l[j - 1]).set (j - 1) l[j]) (by omega) (by simp; omega) (by simpa using hl)
        exact ⟨l', j', h1, h2.trans (List.set_set_perm hj hj1)⟩
      · rw [decide_eq_false hlt, if_neg Bool.false_ne_true]
        exact ⟨_, _, rfl, .refl _⟩
    · have h0' : ¬ (j : Int) > 0 := by omega
      rw [decide_eq_false h0', if_neg Bool.false_ne_true, Option.bind_some, if_neg Bool.false_ne_true]
      exact ⟨_, _, rfl, .refl _⟩
theorem insF_all {fu : Nat} (n : Nat) (hn : n ≤ 2097152) (hfu : n < fu) : ∀ (fk i : Nat) (l : List Int), n - i < fk → 1 ≤ i → l.length = n → ∃ l' i', slices_insertionSortCmpFunc_int_of_FewestUnits_c1_L1 fu 0 n fk l i = some (l', i') ∧ l'.Perm l := by
  intro fk
  induction fk with
  | zero => intro i _ h; omega
  | succ fk ih =>
    intro i l hk hi hl
    rw [slices_insertionSortCmpFunc_int_of_FewestUnits_c1_L1]
    by_cases h : i < n
    · have h' : (i : Int) < (n : Int) := by omega
      obtain ⟨l', j', h1, h2⟩ := insF_loop (fu := fu) fu i l (by omega) (by omega) (by omega)
      obtain ⟨l2, i2, h3, h4⟩ := ih (i + 1) l' (by omega) (by omega) (by rw [h2.length_eq]; exact hl)
      rw [decide_eq_true h', if_pos rfl, h1, Option.bind_some, w64_inc h (show (n : Int) ≤ 9223372036854775807 by omega)]
      exact ⟨l2, i2, h3, h4.trans h2⟩
    · have h' : ¬ (i : Int) < (n : Int) := by omega
      rw [decide_eq_false h', if_neg Bool.false_ne_true]
      exact ⟨_, _, rfl, .refl _⟩
theorem bind_sidxK {s : ByteArray} {i : Int} {g : By → Int} (h : s.size = 256) (h0 : 0 ≤ i) (h1 : i < 256) : ∃ k, ((sidx s i).bind fun e => some (g e)) = some k := by
  unfold sidx
  have e : s[i.toNat]? = some (s[i.toNat]'(by omega)) := by simp
  rw [if_pos h0, e]
  exact ⟨_, rfl⟩
set_option maxRecDepth 20000 in
theorem tab_someK {s : ByteArray} {i : Int} (h : s.size = 256) (h0 : 0 ≤ i) (h1 : i < 256) : ∃ k, (((sidx s i).bind fun e => some (w64 (0 + w64 e.n))).bind fun y => some y) = some k := by
  obtain ⟨k, hk⟩ := bind_sidxK (g := fun e => w64 (0 + w64 e.n)) h h0 h1
  rw [hk]
  exact ⟨k, rfl⟩
set_option maxRecDepth 20000 in
theorem len8K {fu : Nat} {x : U64} (h0 : 0 ≤ x.n) (h : x.n < 256) : ∃ k, math_bits_Len fu x = some k := by
  unfold math_bits_Len math_bits_Len64
  have a1 : ¬ x.n ≥ 4294967296 := by omega
  have a2 : ¬ x.n ≥ 65536 := by omega
  have a3 : ¬ x.n ≥ 256 := by omega
  rw [if_neg (by simpa using a1), if_neg (by simpa using a2), if_neg (by simpa using a3)]
  have hw : wu8 x.n = x.n := by unfold wu8; omega
  rw [hw]
  exact tab_someK rfl h0 h
theorem sortF_ok {fu : Nat} (hfu : 2097153 ≤ fu) (l : List Int) (h : l.length ≤ 12) : ∃ l', slices_SortFunc_int_int_of_FewestUnits_c1 fu l = some l' ∧ l'.Perm l := by
  unfold slices_SortFunc_int_int_of_FewestUnits_c1 slices_pdqsortCmpFunc_int_of_FewestUnits_c1
  obtain ⟨k, hk⟩ := len8K (fu := fu) (x := (⟨wu64 (l.length : Int)⟩ : U64)) (by simp only [wu64]; omega) (by simp only [wu64]; omega)
  obtain ⟨fk, rfl⟩ := Nat.exists_eq_succ_of_ne_zero (show fu ≠ 0 by omega)
  obtain ⟨l', i', h1, h2⟩ := insF_all (fu := fk.succ) l.length (by omega) (by omega) fk.succ 1 l (by omega) (by omega) rfl
  rw [hk, Option.bind_some, slices_pdqsortCmpFunc_int_of_FewestUnits_c1_L1]
  have hd : decide (w64 ((l.length : Int) - 0) ≤ 12) = true := by rw [w64_in (by omega) (by omega)]; simp; omega
  have h01 : w64 (0 + 1) = ((1 : Nat) : Int) := by decide
  have hi : slices_insertionSortCmpFunc_int_of_FewestUnits_c1 fk.succ l 0 (l.length : Int) = some l' := by
    unfold slices_insertionSortCmpFunc_int_of_FewestUnits_c1
    rw [h01, h1]; rfl
  rw [hd, if_pos rfl, hi]
  exact ⟨_, rfl, h2⟩
theorem insD_loop {fu : Nat} (r : List Int) : ∀ (fk j : Nat) (l : List Int), j < fk → j < l.length → l.length ≤ 2097152 → (∀ x ∈ l, 0 ≤ x ∧ x < (r.length : Int)) → ∃ l' j', slices_insertionSortCmpFunc_int_of_descending_c1_L2 fu 0 r fk l j = some (l', j') ∧ l'.Perm l := by
  intro fk
  induction fk with
  | zero => intro j _ h; omega
  | succ fk ih =>
    intro j l hk hj hl hx
    rw [slices_insertionSortCmpFunc_int_of_descending_c1_L2]
    by_cases h0 : 0 < j
    · have h0' : (j : Int) > 0 := by omega
      have hj1 : j - 1 < l.length := by omega
      obtain ⟨v1, e1, -⟩ := idx_some (l := r) (i := l[j]) (hx _ (List.getElem_mem hj)).1 (hx _ (List.getElem_mem hj)).2
      obtain ⟨v2, e2, -⟩ := idx_some (l := r) (i := l[j - 1]) (hx _ (List.getElem_mem hj1)).1 (hx _ (List.getElem_mem hj1)).2
      obtain ⟨c, hc⟩ := cmpK fu v2 v1
      have hcl : impl_descending_c1 fu l[j] l[j - 1] r = some c := by unfold impl_descending_c1; rw [e2, Option.bind_some, e1, Option.bind_some, hc]; rfl
      rw [decide_eq_true h0', if_pos rfl, idx_in hj, Option.bind_some, w64_dec h0 (show j ≤ 2097152 by omega), idx_in hj1, Option.bind_some, hcl, Option.bind_some, Option.bind_some]
      by_cases hlt : c < 0
      · have hj2 : j - 1 < (l.set j l[j - 1]).length := by rw [List.length_set]; exact hj1
        rw [decide_eq_true hlt, if_pos rfl, Option.bind_some, Option.bind_some, Option.bind_some, Int.toNat_natCast, idx_in hj2, Option.bind_some]
        have hp := List.set_set_perm (as := l) hj hj1
        obtain ⟨l', j', h1, h2⟩ := ih (j - 1) ((l.set j l[j - 1]).set (j - 1) l[j]) (by omega) (by simp; omega) (by simpa using hl) fun x hm => hx x (hp.mem_iff.1 hm)
        exact ⟨l', j', h1, h2.trans hp⟩
      · rw [decide_eq_false hlt, if_neg Bool.false_ne_true]
        exact ⟨_, _, rfl, .refl _⟩
    · have h0' : ¬ (j : Int) > 0 := by omega
      rw [decide_eq_false h0', if_neg Bool.false_ne_true, Option.bind_some, if_neg Bool.false_ne_true]
      exact ⟨_, _, rfl, .refl _⟩
theorem insD_all {fu : Nat} (r : List Int) (n : Nat) (hn : n ≤ 2097152) (hfu : n < fu) : ∀ (fk i : Nat) (l : List Int), n - i < fk → 1 ≤ i → l.length = n → (∀ x ∈ l, 0 ≤ x ∧ x < (r.length : Int)) → ∃ l' i', slices_insertionSortCmpFunc_int_of_descending_c1_L1 fu 0 n r fk l i = some (l', i') ∧ l'.Perm l := by
  intro fk
  induction fk with
  | zero => intro i _ h; omega
  | succ fk ih =>
    intro i l hk hi hl hx
    rw [slices_insertionSortCmpFunc_int_of_descending_c1_L1]
    by_cases h : i < n
    · have h' : (i : Int) < (n : Int) := by omega
      obtain ⟨l', j', h1, h2⟩ := insD_loop (fu := fu) r fu i l (by omega) (by omega) (by omega) hx
      obtain ⟨l2, i2, h3, h4⟩ := ih (i + 1) l' (by omega) (by omega) (by rw [h2.length_eq]; exact hl) fun x hm => hx x (h2.mem_iff.1 hm)
      rw [decide_eq_true h', if_pos rfl, h1, Option.bind_some, w64_inc h (show (n : Int) ≤ 9223372036854775807 by omega)]
      exact ⟨l2, i2, h3, h4.trans h2⟩
    · have h' : ¬ (i : Int) < (n : Int) := by omega
      rw [decide_eq_false h', if_neg Bool.false_ne_true]
      exact ⟨_, _, rfl, .refl _⟩
theorem sortD_ok {fu : Nat} (hfu : 2097153 ≤ fu) (r l : List Int) (h : l.length ≤ 12) (hx : ∀ x ∈ l, 0 ≤ x ∧ x < (r.length : Int)) : ∃ l', slices_SortStableFunc_int_int_of_descending_c1 fu l r = some l' ∧ l'.Perm l := by
  obtain ⟨fk, rfl⟩ := Nat.exists_eq_succ_of_ne_zero (show fu ≠ 0 by omega)
  obtain ⟨l', i', h1, h2⟩ := insD_all (fu := fk.succ) r l.length (by omega) (by omega) fk.succ 1 l (by omega) (by omega) rfl hx
  have h01 : w64 (0 + 1) = ((1 : Nat) : Int) := by decide
  have hi : slices_insertionSortCmpFunc_int_of_descending_c1 fk.succ l 0 (l.length : Int) r = some l' := by
    unfold slices_insertionSortCmpFunc_int_of_descending_c1
    rw [h01, h1]; rfl
  have n20 : ¬ (20 : Int) ≤ (l.length : Int) := by omega
  have n20' : ¬ (20 : Int) < (l.length : Int) := by omega
  have hL1 : slices_stableCmpFunc_int_of_descending_c1_L1 fk.succ (l.length : Int) r fk.succ l 0 20 = some (l, 0, 20) := by
    rw [slices_stableCmpFunc_int_of_descending_c1_L1, decide_eq_false n20, if_neg Bool.false_ne_true]
  have hL2 : slices_stableCmpFunc_int_of_descending_c1_L2 fk.succ (l.length : Int) fk.succ 20 = some 20 := by
    rw [slices_stableCmpFunc_int_of_descending_c1_L2, decide_eq_false n20', if_neg Bool.false_ne_true]
  unfold slices_SortStableFunc_int_int_of_descending_c1 slices_stableCmpFunc_int_of_descending_c1
  rw [hL1, Option.bind_some, hi, Option.bind_some, hL2]
  exact ⟨_, rfl, h2⟩
theorem cI_lift : ∀ (l : List Int), (∀ x ∈ l, 0 ≤ x) → ∃ os : List Nat, l = os.map cI
  | [], _ => ⟨[], rfl⟩
  | x :: l, h => by
    obtain ⟨os, h1⟩ := cI_lift l fun y hy => h y (by simp [hy])
    exact ⟨x.toNat :: os, by rw [List.map_cons, ← h1]; congr 1; exact (Int.toNat_of_nonneg (h x (by simp))).symm⟩
theorem descend_ok {fu : Nat} (hfu : 2097153 ≤ fu) (r : List Int) (C : Int) (h : pkOk r C 12 = true) : ∃ o m, impl_PackDescending fu r C = some (o, true) ∧ m ≤ r.length ∧ Vld r C o m := by
  obtain ⟨c1, c2, c3, c4, c5⟩ := pkOk_to h
  have e12 : impl_isPacking fu r C 12 = some (pkOk r C 12) := isPk_eq hfu r (by omega) C 12
  have hx : ∀ x ∈ (List.range r.length).map cI, 0 ≤ x ∧ x < (r.length : Int) := by
    intro x hm
    obtain ⟨k, hk, rfl⟩ := List.mem_map.1 hm
    have := List.mem_range.1 hk
    unfold cI
    omega
  obtain ⟨l', s1, s2⟩ := sortD_ok hfu r ((List.range r.length).map cI) (by simp; omega) hx
  obtain ⟨os, rfl⟩ := cI_lift l' fun x hm => (hx x (s2.mem_iff.1 hm)).1
  have hp : os.Perm (List.range r.length) := by
    have h1 := s2.map Int.toNat
    rw [List.map_map, List.map_map] at h1
    have e : Int.toNat ∘ cI = id := by funext k; exact Int.toNat_natCast k
    rwa [e, List.map_id, List.map_id] at h1
  have hnd : os.Nodup := hp.nodup_iff.2 List.nodup_range
  have hol : ∀ e ∈ os, e < r.length := fun e he => by simpa using hp.mem_iff.1 he
  have hlen : os.length ≤ 100 := by rw [hp.length_eq, List.length_range]; omega
  obtain ⟨m, hm, hV⟩ := pk_vld c4 c5 (by omega) hp
  refine ⟨_, m, ?_, hm, hV⟩
  unfold impl_PackDescending impl_descending
  rw [e12, Option.bind_some, h, num_eq hfu r.length (by omega), Option.bind_some, s1, Option.bind_some, packed_eq hfu c4 c5 (by omega) c2 os (by omega) hlen hol hnd]
  rfl
end AT

namespace AT
theorem indexK {fu : Nat} (l : List Int) (v : Int) (h : l.length < fu) (hn : l.length ≤ 2097152) : slices_Index_int_int fu l v = some (if l.any (fun x => v == x) then ((l.findIdx fun x => v == x : Nat) : Int) else -1) := by
  unfold slices_Index_int_int
  rw [scan_all (l := l) (G := slices_Index_int_int_L1 fu l v) (fun x => v == x) (fun i => (i : Int)) (by omega)
    (fun fk i hi => by rw [slices_Index_int_int_L1, if_pos (by simpa using hi), idx_in hi, Option.bind_some])
    (fun fk => by rw [slices_Index_int_int_L1, if_neg (by simp)]) fu h]
  cases l.any (fun x => v == x) <;> rfl
theorem containsK {fu : Nat} (l : List Int) (v : Int) (h : l.length < fu) (hn : l.length ≤ 2097152) : slices_Contains_int_int fu l v = some (l.any fun x => v == x) := by
  unfold slices_Contains_int_int
  rw [indexK l v h hn]
  cases l.any (fun x => v == x)
  · rfl
  · simp
theorem sub_takeK {α : Type} {l : List α} {i : Nat} (h : i ≤ l.length) : sub l 0 (i : Int) = some (l.take i) := by
  unfold sub
  rw [if_pos (by omega), Int.toNat_natCast]; rfl
theorem sub_tailK {x : Int} {xs : List Int} : sub (x :: xs) 1 ((x :: xs).length : Int) = some xs := by
  unfold sub
  rw [if_pos (by simp only [List.length_cons]; omega), Int.toNat_natCast, List.take_length]; rfl
theorem same_room {xs f : List Int} {i j : Nat} (hi : i < f.length) (hj : j < f.length) (h : gd f i 0 = gd f j 0) (x : Int) (hf : Fit xs (f.set i x)) : Fit xs (f.set j x) := by
  refine hf.perm ?_
  have h1 := (erase_cons hi).symm.trans (erase_cons hj)
  rw [h] at h1
  exact ((set_erase hi x).trans ((List.perm_cons _).2 ((List.perm_cons _).1 h1))).trans (set_erase hj x).symm
theorem fits_loop {fu : Nat} {rec_ : List Int → List Int → Option (Bool × List Int)} {x : Int} {xs f : List Int} (hfu : 60 ≤ fu) (hx : 0 ≤ x ∧ x ≤ 10000) (hf : ∀ y ∈ f, 0 ≤ y ∧ y ≤ 10000) (hl : f.length ≤ 40)
    (hrec : ∀ g : List Int, (∀ y ∈ g, 0 ≤ y ∧ y ≤ 10000) → g.length = f.length → ∃ b, rec_ xs g = some (b, g) ∧ (b = true ↔ Fit xs g)) : ∀ (fk i : Nat), i ≤ f.length → f.length - i < fk → (∀ j, j < i → ¬ (x ≤ gd f j 0 ∧ Fit xs (f.set j (gd f j 0 - x)))) →
    (impl_fits_L1 fu (x :: xs) f rec_ fk i f = some (.ret (true, f)) ∧ Fit (x :: xs) f) ∨ ∃ z, impl_fits_L1 fu (x :: xs) f rec_ fk i f = some (.next (z, f)) ∧ ¬ Fit (x :: xs) f := by
  intro fk
  induction fk with
  | zero => intro i _ h; omega
  | succ fk ih =>
    intro i hi hk hno
    rw [impl_fits_L1]
    by_cases h : i < f.length
    · have h' : (i : Int) < (f.length : Int) := by omega
      have hx0 : idx (x :: xs) 0 = some x := rfl
      have hwi : w64 ((i : Int) + 1) = ((i + 1 : Nat) : Int) := w64_inc h (by omega)
      have hfi := hf _ (List.getElem_mem h)
      have hgi : gd f i 0 = f[i] := gd_in 0 h
      rw [decide_eq_true h', if_pos rfl, idx_in h, hx0, sub_tailK, sub_takeK hi, hwi]
      simp only [Option.bind_some]
      by_cases hlt : f[i] < x
      · rw [decide_eq_true hlt, if_pos rfl, Option.bind_some, if_pos rfl]
        refine ih (i + 1) h (by omega) fun j hj => ?_
        by_cases hji : j = i
        · rw [hji, hgi]; intro hc; omega
        · exact hno j (by omega)
      · rw [decide_eq_false hlt, if_neg Bool.false_ne_true, containsK (f.take i) f[i] (by rw [List.length_take]; omega) (by rw [List.length_take]; omega)]
        simp only [Option.bind_some]
        by_cases hc : ((f.take i).any fun y => f[i] == y) = true
        · rw [hc, if_pos rfl]
          obtain ⟨y, hy, hye⟩ := List.any_eq_true.1 hc
          obtain ⟨k, hk2, hke⟩ := List.mem_take_iff_getElem.1 hy
          have hkl : k < f.length := by omega
          have hky : gd f k 0 = gd f i 0 := by rw [hgi, gd_in 0 hkl, hke]; exact (beq_iff_eq.1 hye).symm
          refine ih (i + 1) h (by omega) fun j hj => ?_
          by_cases hji : j = i
          · rw [hji]
            rintro ⟨hc1, hc2⟩
            exact hno k (by omega) ⟨by rw [hky]; exact hc1, by rw [hky]; exact same_room h hkl hky.symm _ hc2⟩
          · exact hno j (by omega)
        · rw [Bool.not_eq_true] at hc
          have hw : w64 (f[i] - x) = f[i] - x := w64_in (by omega) (by omega)
          obtain ⟨b, hb1, hb2⟩ := hrec (f.set i (f[i] - x)) (fun y hy => by
            rcases List.mem_or_eq_of_mem_set hy with h1 | h1
            · exact hf y h1
            · rw [h1]; omega) (List.length_set)
          have hix : idx (f.set i (f[i] - x)) (i : Int) = some (f[i] - x) := idx_set h
          have hset : (f.set i (f[i] - x)).set (i : Int).toNat f[i] = f := by rw [Int.toNat_natCast, List.set_set, List.set_getElem_self]
          rw [hc, if_neg Bool.false_ne_true, hw, Int.toNat_natCast, hb1, Option.bind_some, hix, Option.bind_some]
          rw [Int.toNat_natCast] at hset
          rw [hset]
          cases b with
          | true =>
            rw [if_pos rfl]
            refine .inl ⟨rfl, i, h, by rw [hgi]; omega, ?_⟩
            rw [hgi]; exact hb2.1 rfl
          | false =>
            rw [if_neg Bool.false_ne_true]
            refine ih (i + 1) h (by omega) fun j hj => ?_
            by_cases hji : j = i
            · rw [hji, hgi]
              rintro ⟨-, hc2⟩
              exact Bool.false_ne_true (hb2.2 hc2)
            · exact hno j (by omega)
    · have h' : ¬ (i : Int) < (f.length : Int) := by omega
      rw [decide_eq_false h', if_neg Bool.false_ne_true]
      refine .inr ⟨_, rfl, ?_⟩
      rintro ⟨u, hu, hu1, hu2⟩
      exact hno u (by omega) ⟨hu1, hu2⟩
theorem fits_eq : ∀ (xs : List Int) {fu : Nat} {f : List Int}, xs.length + 100 ≤ fu → (∀ x ∈ xs, 0 ≤ x ∧ x ≤ 10000) → (∀ y ∈ f, 0 ≤ y ∧ y ≤ 10000) → f.length ≤ 40 → ∃ b, impl_fits fu xs f = some (b, f) ∧ (b = true ↔ Fit xs f)
  | [], fu, f, hfu, hx, hf, hl => by
    obtain ⟨k, rfl⟩ : ∃ k, fu = k + 1 := ⟨fu - 1, by omega⟩
    refine ⟨true, ?_, ⟨fun _ => trivial, fun _ => rfl⟩⟩
    rw [impl_fits, impl_fits_B]; rfl
  | x :: xs, fu, f, hfu, hx, hf, hl => by
    obtain ⟨k, rfl⟩ : ∃ k, fu = k + 1 := ⟨fu - 1, by omega⟩
    rw [List.length_cons] at hfu
    have h := fits_loop (fu := k) (rec_ := fun r f => impl_fits k r f) (x := x) (xs := xs) (f := f) (by omega) (hx x (by simp)) hf hl
      (fun g hg hgl => fits_eq xs (by omega) (fun y hy => hx y (by simp [hy])) hg (by omega)) k 0 (by omega) (by omega) (fun j hj => by omega)
    have hne : (((x :: xs).length : Int) == 0) = false := by rw [beq_eq_false_iff_ne]; simp only [List.length_cons]; omega
    rw [impl_fits, impl_fits_B, hne, if_neg Bool.false_ne_true]
    rcases h with ⟨h1, h2⟩ | ⟨z, h1, h2⟩
    · have h1' : impl_fits_L1 k (x :: xs) f (fun r f => impl_fits k r f) k 0 f = some (.ret (true, f)) := h1
      rw [h1']
      exact ⟨true, rfl, ⟨fun _ => h2, fun _ => rfl⟩⟩
    · have h1' : impl_fits_L1 k (x :: xs) f (fun r f => impl_fits k r f) k 0 f = some (.next (z, f)) := h1
      rw [h1']
      exact ⟨false, rfl, ⟨fun h => (Bool.false_ne_true h).elim, fun h => absurd h h2⟩⟩
theorem cloneK {fu : Nat} (l : List Int) (h : l.length ≤ 2097152) : slices_Clone_int_int fu l = some l := by
  have hc : app ([] : List Int) l = some l := by unfold app; rw [if_pos (by simp; omega)]; rfl
  unfold slices_Clone_int_int
  rw [hc]
  unfold nilCase
  cases l <;> simp
theorem rep_step (C : Int) {m n : Nat} (h0 : 0 < m) (h : m < n) : selfcp (List.replicate m C ++ List.replicate (n - m) 0) (m : Int) = some (List.replicate (m + min m (n - m)) C ++ List.replicate (n - (m + min m (n - m))) 0, ((m + min m (n - m) : Nat) : Int)) := by
  have hl : (List.replicate m C ++ List.replicate (n - m) (0 : Int)).length = n := by simp; omega
  have t1 : ∀ k, k ≤ m → (List.replicate m C ++ List.replicate (n - m) (0 : Int)).take k = List.replicate k C := by
    intro k hk
    rw [List.take_append_of_le_length (by simpa using hk), List.take_replicate, Nat.min_eq_left hk]
  have t2 : ∀ k, m ≤ k → (List.replicate m C ++ List.replicate (n - m) (0 : Int)).drop k = List.replicate (n - k) 0 := by
    intro k hk
    rw [List.drop_append, List.length_replicate, List.drop_replicate, List.drop_replicate, Nat.sub_eq_zero_of_le hk, List.replicate_zero, List.nil_append]
    congr 1; omega
  unfold selfcp
  rw [hl, if_pos (by omega), Int.toNat_natCast, t1 m (Nat.le_refl _), t1 _ (Nat.min_le_left _ _), t2 _ (Nat.le_add_right _ _), ← List.append_assoc, List.replicate_append_replicate]
theorem rep_loop {fu : Nat} (C : Int) {n : Nat} (hn : n ≤ 2097152) : ∀ (fk m : Nat), 0 < m → m ≤ n → n - m < fk → ∃ z, slices_Repeat_int_int_L1 fu fk (List.replicate m C ++ List.replicate (n - m) 0) (m : Int) = some (List.replicate n C, z) := by
  intro fk
  induction fk with
  | zero => intro m _ _ h; omega
  | succ fk ih =>
    intro m h0 hm hk
    rw [slices_Repeat_int_int_L1]
    have hl : (List.replicate m C ++ List.replicate (n - m) (0 : Int)).length = n := by simp; omega
    rw [hl]
    by_cases h : m < n
    · rw [decide_eq_true (show (m : Int) < (n : Int) by omega), if_pos rfl, rep_step C h0 h, Option.bind_some]
      exact ih _ (by omega) (by omega) (by omega)
    · have e : m = n := by omega
      rw [decide_eq_false (show ¬ (m : Int) < (n : Int) by omega), if_neg Bool.false_ne_true, e, Nat.sub_self, List.replicate_zero, List.append_nil]
      exact ⟨_, rfl⟩
theorem mulK {fu n : Nat} (h : n ≤ 12) : math_bits_Mul fu (⟨wu64 1⟩ : U64) (⟨wu64 (n : Int)⟩ : U64) = some ((⟨0⟩ : U64), (⟨(n : Int)⟩ : U64)) := by
  have : n = 0 ∨ n = 1 ∨ n = 2 ∨ n = 3 ∨ n = 4 ∨ n = 5 ∨ n = 6 ∨ n = 7 ∨ n = 8 ∨ n = 9 ∨ n = 10 ∨ n = 11 ∨ n = 12 := by omega
  rcases this with rfl | rfl | rfl | rfl | rfl | rfl | rfl | rfl | rfl | rfl | rfl | rfl | rfl <;> rfl
theorem repeatK {fu : Nat} (hfu : 100 ≤ fu) (C : Int) {n : Nat} (h : n ≤ 12) : slices_Repeat_int_int fu [C] (n : Int) = some (List.replicate n C) := by
  have e1 : (([C] : List Int).length : Int) = 1 := rfl
  have hw : w64 (n : Int) = (n : Int) := w64_in (by omega) (by omega)
  unfold slices_Repeat_int_int
  rw [decide_eq_false (show ¬ (n : Int) < 0 by omega), if_neg Bool.false_ne_true, e1, mulK h, Option.bind_some]
  have c1 : decide ((0 : Int) > 0) = false := rfl
  have c2 : decide ((n : Int) > 9223372036854775807) = false := decide_eq_false (by omega)
  show ((if decide ((0 : Int) > 0) = true then some true else some (decide ((n : Int) > 9223372036854775807))).bind _) = _
  rw [c1, if_neg Bool.false_ne_true, c2, Option.bind_some, if_neg Bool.false_ne_true, hw, mk_len (by omega), Option.bind_some]
  rcases Nat.eq_zero_or_pos n with hz | hz
  · subst hz
    obtain ⟨k, rfl⟩ : ∃ k, fu = k + 1 := ⟨fu - 1, by omega⟩
    have hc : cpy (List.replicate 0 (0 : Int)) [C] = some (List.replicate 0 C, 0) := rfl
    rw [hc, Option.bind_some]
    have hL : slices_Repeat_int_int_L1 (k + 1) (k + 1) (List.replicate 0 C, (0 : Int)).1 (List.replicate 0 C, (0 : Int)).2 = some (List.replicate 0 C, 0) := by
      rw [slices_Repeat_int_int_L1]; rfl
    rw [hL]; rfl
  · have hc : cpy (List.replicate n (0 : Int)) [C] = some (List.replicate 1 C ++ List.replicate (n - 1) 0, ((1 : Nat) : Int)) := by
      unfold cpy
      have : min ([C] : List Int).length (List.replicate n (0 : Int)).length = 1 := by rw [List.length_replicate]; show min 1 n = 1; omega
      rw [this, List.drop_replicate]; rfl
    obtain ⟨z, hL⟩ := rep_loop (fu := fu) C (n := n) (by omega) fu 1 (by omega) hz (by omega)
    rw [hc, Option.bind_some, hL]; rfl
theorem fit_all {C : Int} : ∀ (xs : List Int), (∀ x ∈ xs, 0 ≤ x ∧ x ≤ C) → ∀ (f : List Int), (∀ y ∈ f, 0 ≤ y) → (∃ t, t + xs.length ≤ f.length ∧ ∀ i, t ≤ i → i < f.length → C ≤ gd f i 0) → Fit xs f
  | [], _, _, _, _ => trivial
  | x :: xs, h, f, hf, ⟨t, ht, hC⟩ => by
    rw [List.length_cons] at ht
    have hx := h x (by simp)
    have hCt := hC t (by omega) (by omega)
    refine ⟨t, by omega, by omega, fit_all xs (fun y hy => h y (by simp [hy])) _ (fun y hy => ?_) ⟨t + 1, by rw [List.length_set]; omega, fun i hi hil => ?_⟩⟩
    · rcases List.mem_or_eq_of_mem_set hy with h1 | h1
      · exact hf y h1
      · rw [h1]; omega
    · rw [List.length_set] at hil
      rw [gd_setP (by omega), if_neg (by omega)]
      exact hC i (by omega) hil
theorem units_loop {fu : Nat} (hfu : 2097153 ≤ fu) {C : Int} (hC : 1 ≤ C ∧ C ≤ 10000) {xs : List Int} (hx : ∀ x ∈ xs, 0 ≤ x ∧ x ≤ C) (hl : xs.length ≤ 12) {k : Nat} (hk1 : Fit xs (List.replicate k C)) (hk2 : ∀ j, j < k → ¬ Fit xs (List.replicate j C)) (hk : k ≤ 12) : ∀ (fk i : Nat), i ≤ k → k - i < fk → impl_FewestUnits_L1 fu C xs fk i = some (k : Int) := by
  intro fk
  induction fk with
  | zero => intro i _ h; omega
  | succ fk ih =>
    intro i hi hf
    obtain ⟨b, hb1, hb2⟩ := fits_eq xs (fu := fu) (f := List.replicate i C) (by omega) (fun x h => by have := hx x h; omega) (fun y hy => by rw [List.eq_of_mem_replicate hy]; omega) (by rw [List.length_replicate]; omega)
    rw [impl_FewestUnits_L1, repeatK (by omega) C (show i ≤ 12 by omega), Option.bind_some, hb1, Option.bind_some]
    cases b with
    | true =>
      have hki : i = k := by
        rcases Nat.lt_or_ge i k with h | h
        · exact absurd (hb2.1 rfl) (hk2 i h)
        · omega
      rw [hki]; rfl
    | false =>
      have hki : i < k := by
        rcases Nat.lt_or_ge i k with h | h
        · exact h
        · have : i = k := by omega
          rw [this] at hb2
          exact (Bool.false_ne_true (hb2.2 hk1)).elim
      have hw : w64 ((i : Int) + 1) = ((i + 1 : Nat) : Int) := w64_inc hki (by omega)
      rw [hw]
      exact ih (i + 1) hki (by omega)
theorem implFewest_eq {fu : Nat} (hfu : 2097153 ≤ fu) {r : List Int} {C : Int} (h : pkOk r C 10 = true) {k : Nat} (hk1 : Fit r (List.replicate k C)) (hk2 : ∀ j, Fit r (List.replicate j C) → k ≤ j) : impl_FewestUnits fu r C = some ((k : Int), true) := by
  obtain ⟨c1, c2, c3, c4, c5⟩ := pkOk_to h
  obtain ⟨l', s1, s2⟩ := sortF_ok hfu r (by omega)
  have hx : ∀ x ∈ r, 0 ≤ x ∧ x ≤ C := fun x hx => ⟨c4 x hx, c5 x hx⟩
  have hkr : k ≤ r.length := hk2 _ (fit_all r hx _ (fun y hy => by rw [List.eq_of_mem_replicate hy]; omega) ⟨0, by rw [List.length_replicate]; omega, fun i _ hi => by rw [gd_in 0 hi, List.getElem_replicate]; exact Int.le_refl _⟩)
  have hL := units_loop hfu ⟨c1, c2⟩ (xs := l') (fun x hm => hx x (s2.mem_iff.1 hm)) (by rw [s2.length_eq]; omega) (k := k) (Fit.xperm s2.symm c4 hk1)
    (fun j hj hF => by have := hk2 j (Fit.xperm s2 (fun x hm => c4 x (s2.mem_iff.1 hm)) hF); omega) (by omega) fu 0 (by omega) (by omega)
  have hL' : impl_FewestUnits_L1 fu C l' fu 0 = some (k : Int) := hL
  have e10 : impl_isPacking fu r C 10 = some (pkOk r C 10) := isPk_eq hfu r (by omega) C 10
  unfold impl_FewestUnits
  rw [e10, Option.bind_some, h, cloneK r (by omega), Option.bind_some, s1, Option.bind_some, hL']
  rfl
end AT

namespace AT
theorem ofInt_nat {n : Nat} (h : n < 65536) : (BitVec.ofInt 64 (n : Int)).toNat = n := by
  rw [BitVec.toNat_ofInt]
  have : ((n : Int) % ((2 ^ 64 : Nat) : Int)) = (n : Int) := Int.emod_eq_of_lt (by omega) (by omega)
  rw [this, Int.toNat_natCast]
theorem band1K {q : Nat} (h : q < 65536) : band (q : Int) 1 = ((q % 2 : Nat) : Int) := by
  have h1 : (BitVec.ofInt 64 1).toNat = 1 := rfl
  unfold band
  rw [BitVec.toNat_and, ofInt_nat h, h1, Nat.and_one_is_mod]
  exact w64_in (by omega) (by omega)
theorem bxorK {a b : Nat} (ha : a < 65536) (hb : b < 65536) : bxor (a : Int) (b : Int) = ((a ^^^ b : Nat) : Int) := by
  have h2 : a ^^^ b < 2 ^ 16 := Nat.xor_lt_two_pow ha hb
  unfold bxor
  rw [BitVec.toNat_xor, ofInt_nat ha, ofInt_nat hb]
  exact w64_in (by omega) (by omega)
theorem shrK (s i : Nat) (hi : i ≤ 64) : shr (s : Int) (i : Int) = some ((s / 2 ^ i : Nat) : Int) := by
  unfold shr
  rw [if_neg (by omega), Int.toNat_natCast, Nat.min_eq_left hi, Int.fdiv_eq_ediv_of_nonneg _ (Int.pow_nonneg (by omega))]
  congr 1
theorem shlK {n : Nat} (h : n ≤ 10) : shl 1 (n : Int) = some ((2 ^ n : Nat) : Int) := by
  have : ∀ n : Fin 11, shl 1 ((n : Nat) : Int) = some ((2 ^ (n : Nat) : Nat) : Int) := by decide +kernel
  exact this ⟨n, by omega⟩
theorem pow10 {n : Nat} (h : n ≤ 10) : 1 ≤ 2 ^ n ∧ 2 ^ n ≤ 1024 := by
  have : ∀ n : Fin 11, 1 ≤ 2 ^ (n : Nat) ∧ 2 ^ (n : Nat) ≤ 1024 := by decide
  exact this ⟨n, by omega⟩
theorem wuK {n : Nat} (h : n ≤ 2097152) : wu64 (n : Int) = (n : Int) := by unfold wu64; omega
theorem bitK {s i : Nat} (hs : s < 65536) : (band ((s / 2 ^ i : Nat) : Int) 1 == 0) = !btN s i := by
  rw [band1K (Nat.lt_of_le_of_lt (Nat.div_le_self _ _) hs)]
  unfold btN
  rw [Nat.testBit_eq_decide_div_mod_eq, Bool.eq_iff_iff, beq_iff_eq, Bool.not_eq_true', decide_eq_false_iff_not]
  omega
theorem btN_wo {s i : Nat} (h : btN s i = true) (k : Nat) : btN (s ^^^ 2 ^ i) k = (btN s k && k != i) := by
  unfold btN at h ⊢
  rw [Nat.testBit_xor, Nat.testBit_two_pow]
  by_cases e : i = k
  · subst e; rw [h]; simp
  · have e' : (k != i) = true := by rw [bne_iff_ne]; exact fun h => e h.symm
    rw [e']; simp [e]
theorem wo_lt {s i : Nat} (h : btN s i = true) : s ^^^ 2 ^ i < s := by
  have e : s ^^^ 2 ^ i = s &&& (s ^^^ 2 ^ i) := by
    refine Nat.eq_of_testBit_eq fun k => ?_
    have := btN_wo h k
    unfold btN at this
    rw [Nat.testBit_and, this]
    cases s.testBit k <;> simp
  have hle : s ^^^ 2 ^ i ≤ s := by rw [e]; exact Nat.and_le_left
  have hne : s ^^^ 2 ^ i ≠ s := by
    intro he
    have := btN_wo h i
    rw [he, bne_self_eq_false, Bool.and_false, h] at this
    cases this
  omega
theorem DP.u_le {r : List Int} (h0 : ∀ x ∈ r, 0 ≤ x) {C : Int} (hC : ∀ x ∈ r, x ≤ C) (hC0 : 0 ≤ C) {s u : Nat} {q : Int} (h : DP r C s u q) : u ≤ r.length := by
  have key : ∀ b n, n ≤ r.length → ld r s (fun k => k) b n ≤ (if b < n then C else 0) ∧ 0 ≤ ld r s (fun k => k) b n := by
    intro b n
    induction n with
    | zero => intro _; simp [ld]
    | succ n ih =>
      intro hn
      obtain ⟨h1, h2⟩ := ih (by omega)
      have hx0 := gd_pos h0 n
      have hxC : gd r n 0 ≤ C := by rw [gd_in 0 (show n < r.length by omega)]; exact hC _ (List.getElem_mem _)
      rw [ld]
      by_cases hb : (btN s n && n == b) = true
      · rw [if_pos hb]
        have hnb : n = b := by
          rw [Bool.and_eq_true] at hb
          exact beq_iff_eq.1 hb.2
        subst hnb
        rw [if_neg (by omega)] at h1
        rw [if_pos (by omega)]
        omega
      · rw [if_neg hb]
        constructor
        · split at h1
          · rw [if_pos (by omega)]; omega
          · split <;> omega
        · omega
  have hP : PK r C s (fun k => k) r.length := by
    refine ⟨fun b => ?_, fun i hi _ => by omega⟩
    have := (key b r.length (Nat.le_refl _)).1
    split at this <;> omega
  rcases h.least _ _ hP with h1 | ⟨h1, -⟩ <;> omega
theorem DP.q_in {r : List Int} (h0 : ∀ x ∈ r, 0 ≤ x) {C : Int} {s u : Nat} {q : Int} (h : DP r C s u q) : 0 ≤ q ∧ q ≤ C := by
  obtain ⟨g, hP, hq⟩ := h.ex
  rw [← hq]
  exact ⟨ld_pos h0 s g u r.length (Nat.le_refl _), hP.le u⟩
theorem lex_trans {a b c : Nat} {x y z : Int} (h1 : lex a x b y) (h2 : lex b y c z) : lex a x c z := by
  unfold lex at *
  omega
structure BI (r : List Int) (C : Int) (U : Nat → Nat) (Q : Nat → Int) (s i : Nat) (b : Int) (q : Int) : Prop where
  no : (∀ k, k < i → btN s k = false) → b = 1000 ∧ q = 0
  ex : (∃ k, k < i ∧ btN s k = true) → ∃ k, k < i ∧ btN s k = true ∧ b = (candU C (U k) (Q k) (gd r k 0) : Int) ∧ q = candQ C (Q k) (gd r k 0)
  le : ∀ k, k < i → btN s k = true → lex b.toNat q (candU C (U k) (Q k) (gd r k 0)) (candQ C (Q k) (gd r k 0))
theorem candU_le {C : Int} {u : Nat} {q x : Int} : candU C u q x ≤ u + 1 := by
  unfold candU; split <;> omega
theorem BI.skip {r : List Int} {C : Int} {U : Nat → Nat} {Q : Nat → Int} {s i : Nat} {b q : Int} (h : BI r C U Q s i b q) (hb : btN s i = false) : BI r C U Q s (i + 1) b q := by
  refine ⟨fun hn => h.no fun k hk => hn k (by omega), ?_, fun k hk hk2 => ?_⟩
  · rintro ⟨k, hk, hk2⟩
    have hki : k < i := by
      rcases Nat.lt_or_ge k i with h1 | h1
      · exact h1
      · have : k = i := by omega
        rw [this, hb] at hk2; cases hk2
    obtain ⟨k', h1, h2⟩ := h.ex ⟨k, hki, hk2⟩
    exact ⟨k', by omega, h2⟩
  · rcases Nat.lt_or_ge k i with h1 | h1
    · exact h.le k h1 hk2
    · have : k = i := by omega
      rw [this, hb] at hk2; cases hk2
theorem BI.range {r : List Int} {C : Int} {U : Nat → Nat} {Q : Nat → Int} {s i : Nat} {b q : Int} (h : BI r C U Q s i b q) : 0 ≤ b := by
  by_cases hc : ∃ k, k < i ∧ btN s k = true
  · obtain ⟨k, -, -, h1, -⟩ := h.ex hc
    omega
  · have := (h.no fun k hk => by
      cases hq : btN s k
      · rfl
      · exact absurd ⟨k, hk, hq⟩ hc).1
    omega
theorem BI.take {r : List Int} {C : Int} {U : Nat → Nat} {Q : Nat → Int} {s i : Nat} {b q : Int} (h : BI r C U Q s i b q) (hb : btN s i = true) (hl : (candU C (U i) (Q i) (gd r i 0) : Int) < b ∨ ((candU C (U i) (Q i) (gd r i 0) : Int) = b ∧ candQ C (Q i) (gd r i 0) < q)) :
    BI r C U Q s (i + 1) (candU C (U i) (Q i) (gd r i 0) : Int) (candQ C (Q i) (gd r i 0)) := by
  have h0 := h.range
  refine ⟨fun hn => ?_, fun _ => ⟨i, by omega, hb, rfl, rfl⟩, fun k hk hk2 => ?_⟩
  · have := hn i (by omega)
    rw [hb] at this; cases this
  · rw [Int.toNat_natCast]
    rcases Nat.lt_or_ge k i with h1 | h1
    · refine lex_trans ?_ (h.le k h1 hk2)
      unfold lex
      omega
    · have : k = i := by omega
      rw [this]
      exact .inr ⟨rfl, Int.le_refl _⟩
theorem BI.keep {r : List Int} {C : Int} {U : Nat → Nat} {Q : Nat → Int} {s i : Nat} {b q : Int} (h : BI r C U Q s i b q) (hb : btN s i = true) (hu : U i ≤ 100) (hl : ¬ ((candU C (U i) (Q i) (gd r i 0) : Int) < b ∨ ((candU C (U i) (Q i) (gd r i 0) : Int) = b ∧ candQ C (Q i) (gd r i 0) < q))) :
    BI r C U Q s (i + 1) b q := by
  have h0 := h.range
  have hcu := candU_le (C := C) (u := U i) (q := Q i) (x := gd r i 0)
  refine ⟨fun hn => ?_, fun _ => ?_, fun k hk hk2 => ?_⟩
  · have := hn i (by omega)
    rw [hb] at this; cases this
  · by_cases hc : ∃ k, k < i ∧ btN s k = true
    · obtain ⟨k, h1, h2⟩ := h.ex hc
      exact ⟨k, by omega, h2⟩
    · have h1 := (h.no fun k hk => by
        cases hq : btN s k
        · rfl
        · exact absurd ⟨k, hk, hq⟩ hc).1
      exact absurd (.inl (by omega)) hl
  · rcases Nat.lt_or_ge k i with h1 | h1
    · exact h.le k h1 hk2
    · have : k = i := by omega
      rw [this]
      unfold lex
      omega
structure TabK (r : List Int) (C : Int) (un re : List Int) (m : Nat) : Prop where
  l1 : un.length = 2 ^ r.length
  l2 : re.length = 2 ^ r.length
  dp : ∀ s, s < m → 0 ≤ gd un s 0 ∧ DP r C s (gd un s 0).toNat (gd re s 0)
theorem dp_loop {fu : Nat} {r : List Int} {C : Int} (h0 : ∀ x ∈ r, 0 ≤ x) (hC : ∀ x ∈ r, x ≤ C) (hC0 : 0 ≤ C) (hC1 : C ≤ 10000) (hr : r.length ≤ 10) {l l2 un re : List Int} {s : Nat} (hs : s < 2 ^ r.length) (hT : TabK r C un re s) : ∀ (fk i : Nat) (b q : Int), i ≤ r.length → r.length - i < fk → BI r C (fun k => (gd un (s ^^^ 2 ^ k) 0).toNat) (fun k => gd re (s ^^^ 2 ^ k) 0) s i b q →
    ∃ (z : Int) (b' q' : Int), spec_FewestUnits_L2 fu r C l l2 un re s fk i b q = some (z, b', q') ∧ BI r C (fun k => (gd un (s ^^^ 2 ^ k) 0).toNat) (fun k => gd re (s ^^^ 2 ^ k) 0) s r.length b' q' := by
  have hpow := pow10 hr
  intro fk
  induction fk with
  | zero => intro i _ _ _ h; omega
  | succ fk ih =>
    intro i b q hi hk hB
    rw [spec_FewestUnits_L2]
    by_cases h : i < r.length
    · have h' : (i : Int) < (r.length : Int) := by omega
      rw [decide_eq_true h', if_pos rfl, wuK (show i ≤ 2097152 by omega), shrK s i (by omega), Option.bind_some, bitK (by omega), w64_inc h (show (r.length : Int) ≤ 9223372036854775807 by omega)]
      cases hb : btN s i with
      | false =>
        rw [Bool.not_false, if_pos rfl]
        exact ih (i + 1) b q h (by omega) (hB.skip hb)
      | true =>
        have hwl := wo_lt hb
        have hp2 : 2 ^ i ≤ 2 ^ r.length := Nat.pow_le_pow_right (by omega) (by omega)
        obtain ⟨d1, d2⟩ := hT.dp _ hwl
        have hu := d2.u_le h0 hC hC0
        have hq := d2.q_in h0
        have hx0 := gd_pos h0 i
        have hxC : gd r i 0 ≤ C := by rw [gd_in 0 h]; exact hC _ (List.getElem_mem _)
        have hul : s ^^^ 2 ^ i < un.length := by rw [hT.l1]; omega
        have hrl : s ^^^ 2 ^ i < re.length := by rw [hT.l2]; omega
        have hxe : bxor (s : Int) ((2 ^ i : Nat) : Int) = ((s ^^^ 2 ^ i : Nat) : Int) := bxorK (by omega) (by omega)
        obtain ⟨u, hue⟩ : ∃ u : Nat, gd un (s ^^^ 2 ^ i) 0 = (u : Int) := ⟨_, (Int.toNat_of_nonneg d1).symm⟩
        have hun : (gd un (s ^^^ 2 ^ i) 0).toNat = u := by rw [hue, Int.toNat_natCast]
        rw [hun] at hu
        obtain ⟨qv, hqv⟩ : ∃ qv, gd re (s ^^^ 2 ^ i) 0 = qv := ⟨_, rfl⟩
        rw [hqv] at hq
        have hw1 : w64 (qv + gd r i 0) = qv + gd r i 0 := w64_in (by omega) (by omega)
        have hw2 : w64 ((u : Int) + 1) = ((u + 1 : Nat) : Int) := by rw [w64_in (by omega) (by omega)]; rfl
        rw [Bool.not_true, if_neg Bool.false_ne_true, idx_gd 0 h, Option.bind_some, shlK (show i ≤ 10 by omega), Option.bind_some, hxe, idx_gd 0 hul, Option.bind_some, Option.bind_some, hxe, idx_gd 0 hrl, Option.bind_some, hue, hqv, hw1, hw2, Option.bind_some]
        clear hw1 hw2
        have hcU : candU C ((fun k => (gd un (s ^^^ 2 ^ k) 0).toNat) i) ((fun k => gd re (s ^^^ 2 ^ k) 0) i) (gd r i 0) = candU C u qv (gd r i 0) := by simp only [hun, hqv]
        have hcQ : candQ C ((fun k => gd re (s ^^^ 2 ^ k) 0) i) (gd r i 0) = candQ C qv (gd r i 0) := by simp only [hqv]
        have hT1 := fun hl => hB.take hb hl
        have hK1 := fun hl => hB.keep hb (by simp only [hun]; omega) hl
        rw [hcU, hcQ] at hT1 hK1
        by_cases hc : qv + gd r i 0 > C
        · have eU : candU C u qv (gd r i 0) = u + 1 := by unfold candU; rw [if_pos hc]
          have eQ : candQ C qv (gd r i 0) = gd r i 0 := by unfold candQ; rw [if_pos hc]
          rw [eU, eQ] at hT1 hK1
          rw [decide_eq_true hc, if_pos rfl]
          by_cases c1 : ((u + 1 : Nat) : Int) < b
          · rw [decide_eq_true c1, if_pos rfl, Option.bind_some, if_pos rfl]
            exact ih (i + 1) _ _ h (by omega) (hT1 (.inl c1))
          · rw [decide_eq_false c1, if_neg Bool.false_ne_true]
            by_cases c2 : ((u + 1 : Nat) : Int) = b
            · rw [beq_iff_eq.2 c2, if_pos rfl, Option.bind_some]
              by_cases c3 : gd r i 0 < q
              · rw [decide_eq_true c3, if_pos rfl]
                exact ih (i + 1) _ _ h (by omega) (hT1 (.inr ⟨c2, c3⟩))
              · rw [decide_eq_false c3, if_neg Bool.false_ne_true]
                exact ih (i + 1) _ _ h (by omega) (hK1 (fun hl => hl.elim c1 fun h => c3 h.2))
            · rw [beq_eq_false_iff_ne.2 c2, if_neg Bool.false_ne_true, Option.bind_some, if_neg Bool.false_ne_true]
              exact ih (i + 1) _ _ h (by omega) (hK1 (fun hl => hl.elim c1 fun h => c2 h.1))
        · have eU : candU C u qv (gd r i 0) = u := by unfold candU; rw [if_neg hc]
          have eQ : candQ C qv (gd r i 0) = qv + gd r i 0 := by unfold candQ; rw [if_neg hc]
          rw [eU, eQ] at hT1 hK1
          rw [decide_eq_false hc, if_neg Bool.false_ne_true]
          by_cases c1 : (u : Int) < b
          · rw [decide_eq_true c1, if_pos rfl, Option.bind_some, if_pos rfl]
            exact ih (i + 1) _ _ h (by omega) (hT1 (.inl c1))
          · rw [decide_eq_false c1, if_neg Bool.false_ne_true]
            by_cases c2 : (u : Int) = b
            · rw [beq_iff_eq.2 c2, if_pos rfl, Option.bind_some]
              by_cases c3 : qv + gd r i 0 < q
              · rw [decide_eq_true c3, if_pos rfl]
                exact ih (i + 1) _ _ h (by omega) (hT1 (.inr ⟨c2, c3⟩))
              · rw [decide_eq_false c3, if_neg Bool.false_ne_true]
                exact ih (i + 1) _ _ h (by omega) (hK1 (fun hl => hl.elim c1 fun h => c3 h.2))
            · rw [beq_eq_false_iff_ne.2 c2, if_neg Bool.false_ne_true, Option.bind_some, if_neg Bool.false_ne_true]
              exact ih (i + 1) _ _ h (by omega) (hK1 (fun hl => hl.elim c1 fun h => c2 h.1))
    · obtain rfl : i = r.length := by omega
      rw [decide_eq_false (show ¬ ((r.length : Nat) : Int) < (r.length : Int) by omega), if_neg Bool.false_ne_true]
      exact ⟨_, _, _, rfl, hB⟩
theorem some_bit {s n : Nat} (h0 : 0 < s) (h : s < 2 ^ n) : ∃ i, i < n ∧ btN s i = true := by
  rcases Classical.em (∃ i, i < n ∧ btN s i = true) with hc | hc
  · exact hc
  · exfalso
    have : s = 0 := by
      refine Nat.eq_of_testBit_eq fun k => ?_
      rw [Nat.zero_testBit]
      rcases Nat.lt_or_ge k n with hk | hk
      · cases hb : s.testBit k
        · rfl
        · exact absurd ⟨k, hk, hb⟩ hc
      · exact Nat.testBit_lt_two_pow (Nat.lt_of_lt_of_le h (Nat.pow_le_pow_right (by omega) hk))
    omega
theorem tab_loop {fu : Nat} (hfu : 2097153 ≤ fu) {r : List Int} {C : Int} (h0 : ∀ x ∈ r, 0 ≤ x) (hC : ∀ x ∈ r, x ≤ C) (hC0 : 0 ≤ C) (hC1 : C ≤ 10000) (hr : r.length ≤ 10) (l l2 : List Int) : ∀ (fk m : Nat) (un re : List Int), 1 ≤ m → m ≤ 2 ^ r.length → 2 ^ r.length - m < fk → TabK r C un re m →
    ∃ un' re' z, spec_FewestUnits_L1 fu r C ((2 ^ r.length : Nat) : Int) l l2 fk un re m = some (un', re', z) ∧ TabK r C un' re' (2 ^ r.length) := by
  have hpow := pow10 hr
  intro fk
  induction fk with
  | zero => intro m _ _ _ _ h; omega
  | succ fk ih =>
    intro m un re hm1 hm hk hT
    rw [spec_FewestUnits_L1]
    by_cases h : m < 2 ^ r.length
    · have h' : (m : Int) < ((2 ^ r.length : Nat) : Int) := by omega
      obtain ⟨z, b, q, hL, hB⟩ := dp_loop (fu := fu) h0 hC hC0 hC1 hr (l := l) (l2 := l2) h hT fu 0 1000 0 (by omega) (by omega) ⟨fun _ => ⟨rfl, rfl⟩, fun ⟨k, hk, _⟩ => (by omega), fun k hk => (by omega)⟩
      have hL' : spec_FewestUnits_L2 fu r C l l2 un re m fu 0 1000 0 = some (z, b, q) := hL
      have hul : m < un.length := by rw [hT.l1]; omega
      have hrl : m < re.length := by rw [hT.l2]; omega
      have hwi : w64 ((m : Int) + 1) = ((m + 1 : Nat) : Int) := w64_inc h (by omega)
      rw [decide_eq_true h', if_pos rfl, hL', Option.bind_some, idx_gd 0 hul, Option.bind_some, idx_gd 0 hrl, Option.bind_some, hwi, Int.toNat_natCast]
      refine ih (m + 1) _ _ (by omega) h (by omega) ⟨by rw [List.length_set]; exact hT.l1, by rw [List.length_set]; exact hT.l2, fun s hs => ?_⟩
      rw [gd_setP hul, gd_setP hrl]
      by_cases hsm : s = m
      · rw [if_pos hsm, if_pos hsm, hsm]
        refine ⟨hB.range, ?_⟩
        obtain ⟨i, hi, hbi⟩ := some_bit (by omega) h
        have hDi : ∀ i, i < r.length → btN m i = true → DP r C (m ^^^ 2 ^ i) ((fun k => (gd un (m ^^^ 2 ^ k) 0).toNat) i) ((fun k => gd re (m ^^^ 2 ^ k) 0) i) := fun i _ hb => (hT.dp _ (wo_lt hb)).2
        obtain ⟨k, k1, k2, k3, k4⟩ := hB.ex ⟨i, hi, hbi⟩
        have hex := cand_ex h0 hC k1 k2 (btN_wo k2) (hDi k k1 k2)
        constructor
        · rw [k3, k4, Int.toNat_natCast]; exact hex
        · intro g j hP
          obtain ⟨t, t1, t2, t3⟩ := cand_least h0 (C := C) ⟨i, hi, hbi⟩ _ _ (fun i => m ^^^ 2 ^ i) (fun i _ hb => btN_wo hb) hDi j g hP
          exact lex_trans (hB.le t t1 t2) t3
      · rw [if_neg hsm, if_neg hsm]
        exact hT.dp s (by omega)
    · have e : m = 2 ^ r.length := by omega
      rw [decide_eq_false (show ¬ (m : Int) < ((2 ^ r.length : Nat) : Int) by omega), if_neg Bool.false_ne_true]
      exact ⟨_, _, _, rfl, by rw [← e]; exact hT⟩
theorem full_bits (n : Nat) : ∀ i, i < n → btN (2 ^ n - 1) i = true := by
  intro i hi
  unfold btN
  rw [Nat.testBit_two_pow_sub_one, decide_eq_true hi]
theorem specFewest_eq {fu : Nat} (hfu : 2097153 ≤ fu) {r : List Int} {C : Int} (h : pkOk r C 10 = true) : ∃ k : Nat, spec_FewestUnits fu r C = some ((k : Int), true) ∧ Fit r (List.replicate k C) ∧ ∀ j, Fit r (List.replicate j C) → k ≤ j := by
  obtain ⟨c1, c2, c3, c4, c5⟩ := pkOk_to h
  have h12 : pkOk r C 12 = true := by
    unfold pkOk at h ⊢
    rw [Bool.and_eq_true, Bool.and_eq_true] at h ⊢
    exact ⟨h.1, decide_eq_true (by omega), h.2.2⟩
  have hpow := pow10 c3
  have n10 : ¬ (r.length : Int) > 10 := by omega
  unfold spec_FewestUnits
  rw [rates_eq hfu r (by omega), Option.bind_some, h12, Bool.not_true, if_neg Bool.false_ne_true, decide_eq_false n10, Option.bind_some, if_neg Bool.false_ne_true, wuK (show r.length ≤ 2097152 by omega), shlK c3, Option.bind_some, mk_len (show 2 ^ r.length ≤ 2097152 by omega), Option.bind_some, Option.bind_some]
  have hT0 : TabK r C (List.replicate (2 ^ r.length) 0) (List.replicate (2 ^ r.length) 0) 1 := by
    refine ⟨List.length_replicate, List.length_replicate, fun s hs => ?_⟩
    obtain rfl : s = 0 := by omega
    rw [gd_in 0 (by rw [List.length_replicate]; omega), List.getElem_replicate]
    exact ⟨Int.le_refl _, DP.zero r c4 (by omega)⟩
  obtain ⟨un, re, z, hL, hT⟩ := tab_loop hfu c4 c5 (by omega) c2 c3 (List.replicate (2 ^ r.length) 0) (List.replicate (2 ^ r.length) 0) fu 1 _ _ (Nat.le_refl _) hpow.1 (by omega) hT0
  have hL' : spec_FewestUnits_L1 fu r C ((2 ^ r.length : Nat) : Int) (List.replicate (2 ^ r.length) 0) (List.replicate (2 ^ r.length) 0) fu (List.replicate (2 ^ r.length) 0) (List.replicate (2 ^ r.length) 0) 1 = some (un, re, z) := hL
  rw [hL', Option.bind_some]
  cases r with
  | nil => exact ⟨0, rfl, trivial, fun j _ => by omega⟩
  | cons x r' =>
    have hne : (((x :: r').length : Int) == 0) = false := by rw [beq_eq_false_iff_ne]; simp only [List.length_cons]; omega
    have hlast : w64 (((2 ^ (x :: r').length : Nat) : Int) - 1) = ((2 ^ (x :: r').length - 1 : Nat) : Int) := w64_dec (by omega) (by omega)
    have hul : 2 ^ (x :: r').length - 1 < un.length := by rw [hT.l1]; omega
    obtain ⟨d1, d2⟩ := hT.dp (2 ^ (x :: r').length - 1) (by omega)
    have hu := d2.u_le c4 c5 (by omega)
    obtain ⟨u, hue⟩ : ∃ u : Nat, gd un (2 ^ (x :: r').length - 1) 0 = (u : Int) := ⟨_, (Int.toNat_of_nonneg d1).symm⟩
    rw [hue, Int.toNat_natCast] at hu d2
    have hw2 : w64 ((u : Int) + 1) = ((u + 1 : Nat) : Int) := by rw [w64_in (by omega) (by omega)]; rfl
    rw [hne, if_neg Bool.false_ne_true, hlast, idx_gd 0 hul, Option.bind_some, hue, hw2]
    exact ⟨u + 1, rfl, d2.fit c4 (full_bits _), fun j hj => d2.fewest c4 (by simp) (by omega) (full_bits _) hj⟩
theorem fewest_bad {fu : Nat} (hfu : 2097153 ≤ fu) {r : List Int} (hr : r.length ≤ 2097152) {C : Int} (h : pkOk r C 10 = false) : impl_FewestUnits fu r C = some (0, false) ∧ spec_FewestUnits fu r C = some (0, false) := by
  have e10 : impl_isPacking fu r C 10 = some (pkOk r C 10) := isPk_eq hfu r hr C 10
  constructor
  · unfold impl_FewestUnits
    rw [e10, Option.bind_some, h]; rfl
  · unfold spec_FewestUnits
    rw [rates_eq hfu r hr, Option.bind_some]
    cases h12 : pkOk r C 12 with
    | false => rfl
    | true =>
      have n10 : (r.length : Int) > 10 := by
        rcases Nat.lt_or_ge 10 r.length with h1 | h1
        · omega
        · exfalso
          unfold pkOk at h h12
          rw [Bool.and_eq_true, Bool.and_eq_true] at h12
          rw [h12.1, h12.2.2, decide_eq_true h1] at h
          cases h
      rw [Bool.not_true, if_neg Bool.false_ne_true, decide_eq_true n10]; rfl
end AT

namespace AT
structure Cur (c : L1CurP) (k : Int) : Prop where
  by_ : ∀ e ∈ c.code, 0 ≤ e.n ∧ e.n ≤ 255
  len : c.code.length ≤ 65536
  lo : 0 ≤ c.at_
  hi : c.at_ ≤ k
theorem and255 (q : Int) : 0 ≤ andu64 q 255 ∧ andu64 q 255 ≤ 255 := by
  unfold andu64
  have h : (BitVec.ofInt 64 q &&& BitVec.ofInt 64 255).toNat ≤ 255 := by
    rw [BitVec.toNat_and]
    exact Nat.le_trans Nat.and_le_right (by decide)
  unfold wu64
  omega
theorem next_ok {fu : Nat} {c : L1CurP} {k : Int} (hc : Cur c k) (hk : k ≤ 4611686018427387904) : ∃ r c', spec_l1Cur_next fu c = some (r, c') ∧ 0 ≤ r ∧ r ≤ 255 ∧ Cur c' (k + 1) := by
  have h0 := hc.lo
  have h1 := hc.hi
  have hl := hc.len
  have e1 : w64 (c.at_ + 1) = c.at_ + 1 := w64_in (by omega) (by omega)
  unfold spec_l1Cur_next
  have hsh : ∀ x : Int, shrk 64 x 40 = some (x.fdiv (2 ^ (min (40 : Int).toNat 64))) := fun x => by unfold shrk; rw [if_neg (by omega)]
  simp only [e1, hsh, Option.bind_some]
  have hcur : ∀ s, Cur ⟨c.code, c.at_ + 1, s⟩ (k + 1) := fun s => ⟨hc.by_, hc.len, by simp only; omega, by simp only; omega⟩
  have ha : ∀ q : Int, 0 ≤ w64 (andu64 q 255) ∧ w64 (andu64 q 255) ≤ 255 := fun q => by
    have := and255 q
    rw [w64_in (by omega) (by omega)]; exact this
  by_cases h : c.at_ < c.code.length
  · simp only [h, decide_true, if_true]
    obtain ⟨e, he, hm⟩ := idx_some (l := c.code) (i := c.at_) h0 h
    have hb := hc.by_ e hm
    have e2 : w64 e.n = e.n := w64_in (by omega) (by omega)
    simp only [he, Option.bind_some, e2]
    split
    · exact ⟨_, _, rfl, hb.1, hb.2, hcur _⟩
    · exact ⟨_, _, rfl, (ha _).1, (ha _).2, hcur _⟩
  · simp only [h, decide_false, Bool.false_eq_true, if_false]
    split
    · exact ⟨_, _, rfl, by omega, by omega, hcur _⟩
    · exact ⟨_, _, rfl, (ha _).1, (ha _).2, hcur _⟩
theorem Cur.mono {c : L1CurP} {k k' : Int} (hc : Cur c k) (h : k ≤ k') : Cur c k' := ⟨hc.by_, hc.len, hc.lo, Int.le_trans hc.hi h⟩
theorem pick_ok {fu : Nat} {c : L1CurP} {k : Int} (hc : Cur c k) (hk : k ≤ 4611686018427387000) (n : Int) (hn : n ≤ 1099511627776) : ∃ r c', spec_l1Cur_pick fu c n = some (r, c') ∧ 0 ≤ r ∧ (1 ≤ n → r < n) ∧ Cur c' (k + 2) := by
  unfold spec_l1Cur_pick
  by_cases h : n ≤ 1
  · simp only [h, decide_true, if_true]
    exact ⟨_, _, rfl, by omega, by omega, hc.mono (by omega)⟩
  · simp only [h, decide_false, Bool.false_eq_true, if_false]
    obtain ⟨r, c', g1, g2, g3, g4⟩ := next_ok (fu := fu) hc (by omega)
    simp only [g1, Option.bind_some]
    have hr : ∀ x : Int, 0 ≤ x → ∃ q, rem x n = some q ∧ 0 ≤ q ∧ q < n := fun x hx => by
      unfold rem
      rw [if_neg (by omega), Int.tmod_eq_emod_of_nonneg hx]
      exact ⟨_, rfl, Int.emod_nonneg _ (by omega), Int.emod_lt_of_pos _ (by omega)⟩
    by_cases h2 : n > 200
    · simp only [h2, decide_true, if_true]
      obtain ⟨r2, c2, q1, q2, q3, q4⟩ := next_ok (fu := fu) g4 (by omega)
      simp only [q1, Option.bind_some]
      rw [w64_in (n := r * 256) (by omega) (by omega), w64_in (by omega) (by omega)]
      obtain ⟨q, p1, p2, p3⟩ := hr (r * 256 + r2) (by omega)
      rw [p1]
      exact ⟨_, _, rfl, p2, fun _ => p3, q4.mono (by omega)⟩
    · simp only [h2, decide_false, Bool.false_eq_true, if_false]
      obtain ⟨q, p1, p2, p3⟩ := hr r g2
      rw [p1]
      exact ⟨_, _, rfl, p2, fun _ => p3, g4.mono (by omega)⟩
theorem among_ok {fu : Nat} {c : L1CurP} {k : Int} (hc : Cur c k) (hk : k ≤ 4611686018427387000) (l : List Int) (h1 : 1 ≤ l.length) (hn : l.length ≤ 1099511627776) : ∃ r c', spec_l1Cur_among fu c l = some (r, c') ∧ r ∈ l ∧ Cur c' (k + 2) := by
  unfold spec_l1Cur_among
  obtain ⟨r, c', g1, g2, g3, g4⟩ := pick_ok (fu := fu) hc hk (l.length : Int) (by omega)
  obtain ⟨e, he, hm⟩ := idx_some (l := l) (i := r) g2 (g3 (by omega))
  simp only [g1, Option.bind_some, he]
  exact ⟨_, _, rfl, hm, g4⟩
theorem start_cur {code : List By} (h : ∀ e ∈ code, 0 ≤ e.n ∧ e.n ≤ 255) (hl : code.length ≤ 65536) : Cur ⟨code, 0, ⟨0⟩⟩ 0 := ⟨h, hl, Int.le_refl _, Int.le_refl _⟩
end AT

namespace AT
theorem vInts_self {fu : Nat} (hfu : 2097153 ≤ fu) (l : List Int) (h : l.length ≤ 2097152) : laws_vInts fu l l = some true := by
  unfold laws_vInts
  have h1 : ((l.length : Int) != (l.length : Int)) = false := by simp
  rw [h1, if_neg Bool.false_ne_true, eq_all0 l (laws_vInts_L1 fu l l) h (fun fk i => by rw [laws_vInts_L1]) fu (by omega)]
  rfl
end AT
