/- The masks of all fibers, plainly. -/
import Derived.Test.YtokhhjepjbhhpaaGreatQUsed
set_option linter.unusedSimpArgs false
set_option linter.unusedVariables false
namespace AT
theorem idx_in' {α : Type} {l : List α} {f : Int} (d : α) (h0 : 0 ≤ f) (h1 : f < (l.length : Int)) : idx l f = some (gd l f.toNat d) := by
  have := idx_gd (l := l) (i := f.toNat) d (by omega)
  rwa [Int.toNat_of_nonneg h0] at this
/-! ### The masks of all fibers -/
def mark1 (b : Int) (o : List Int) (f : Int) : List Int := o.set f.toNat (bor (gd o f.toNat 0) b)
theorem marks_len (b : Int) : ∀ (fs : List Int) (o : List Int), (fs.foldl (mark1 b) o).length = o.length
  | [], o => rfl
  | f :: fs, o => by rw [List.foldl_cons, marks_len b fs]; simp [mark1]
theorem mark1_gd (b : Int) (o : List Int) (f : Int) (k : Nat) (hk : k < o.length) : gd (mark1 b o f) k 0 = if f.toNat = k then bor (gd o k 0) b else gd o k 0 := by
  unfold mark1
  generalize hv : bor (gd o f.toNat 0) b = v
  by_cases h : f.toNat = k
  · subst h
    rw [if_pos rfl, hv]
    clear hv
    unfold gd
    rw [List.getElem?_set_self hk, Option.getD_some]
  · rw [if_neg h]
    unfold gd
    rw [List.getElem?_set_ne h]
theorem has_cons (f : Int) (fs : List Int) (k : Int) : has (f :: fs) k = (f == k || has fs k) := rfl
theorem marks_gd (b : Int) (fs : List Int) : ∀ (o : List Int) (k : Nat), fs.Nodup → (∀ f ∈ fs, 0 ≤ f) → k < o.length → gd (fs.foldl (mark1 b) o) k 0 = if has fs k = true then bor (gd o k 0) b else gd o k 0 := by
  induction fs with
  | nil =>
    intro o k _ _ _
    have h : has [] (k : Int) = false := rfl
    rw [h, List.foldl_nil, if_neg Bool.false_ne_true]
  | cons f fs ih =>
    intro o k hn h0 hk
    have hn' := List.nodup_cons.1 hn
    have hf := h0 f List.mem_cons_self
    have hl : (mark1 b o f).length = o.length := by unfold mark1; rw [List.length_set]
    rw [List.foldl_cons, ih (mark1 b o f) k hn'.2 (fun x hx => h0 x (List.mem_cons_of_mem _ hx)) (by omega), mark1_gd b o f k hk, has_cons]
    by_cases h : f.toNat = k
    · have hk' : f = (k : Int) := by omega
      have h1 : has fs k = false := by
        rw [Bool.eq_false_iff]
        intro hc
        unfold has at hc
        obtain ⟨x, hx, hc⟩ := List.any_eq_true.1 hc
        rw [beq_iff_eq] at hc
        exact hn'.1 (by rw [hk', ← hc]; exact hx)
      have h2 : (f == (k : Int)) = true := by rw [beq_iff_eq]; exact hk'
      rw [h1, h2, if_pos h, if_neg Bool.false_ne_true, Bool.true_or, if_pos rfl]
    · have hk' : (f == (k : Int)) = false := by rw [beq_eq_false_iff_ne]; omega
      rw [hk', if_neg h, Bool.false_or]
theorem marks_loop {fu : Nat} (e : Light) (hb : blkOk e.Block = true) (n : Nat) (hr : ∀ f ∈ e.Route.Fibers, 0 ≤ f ∧ f < (n : Int)) (hl : e.Route.Fibers.length ≤ 2097152) : ∀ (fk i : Nat) (o : List Int), o.length = n → i ≤ e.Route.Fibers.length → e.Route.Fibers.length - i < fk →
    ∃ z, impl_fiberMasks_L2 fu e fk o i = some ((e.Route.Fibers.drop i).foldl (mark1 (bits e.Block)) o, z) := by
  intro fk
  induction fk with
  | zero => intro i _ _ _ h; omega
  | succ fk ih =>
    intro i o ho hi hk
    rw [impl_fiberMasks_L2]
    by_cases h : i < e.Route.Fibers.length
    · have h' : (i : Int) < (e.Route.Fibers.length : Int) := by omega
      obtain ⟨x, hx⟩ : ∃ x, x = e.Route.Fibers[i] := ⟨_, rfl⟩
      have hr' := hr _ (List.getElem_mem h)
      rw [← hx] at hr'
      rw [← List.getElem_cons_drop h, List.foldl_cons]
      simp only [h', decide_true, if_true, idx_in h, ← hx, Option.bind_some, idx_in' 0 hr'.1 (show x < (o.length : Int) by omega), maskOf_eq hb, w64_inc h (show (e.Route.Fibers.length : Int) ≤ 9223372036854775807 by omega)]
      exact ih (i + 1) (mark1 (bits e.Block) o x) (by simpa [mark1] using ho) h (by omega)
    · obtain rfl : i = e.Route.Fibers.length := by omega
      rw [if_neg (by simp), List.drop_length]
      exact ⟨_, rfl⟩
def markAll (L : List Light) (o : List Int) : List Int := L.foldl (fun o e => e.Route.Fibers.foldl (mark1 (bits e.Block)) o) o
theorem markAll_len : ∀ (L : List Light) (o : List Int), (markAll L o).length = o.length
  | [], o => rfl
  | e :: L, o => by
    have := markAll_len L (e.Route.Fibers.foldl (mark1 (bits e.Block)) o)
    unfold markAll at this ⊢
    rw [List.foldl_cons, this, marks_len]
theorem markAll_gd : ∀ (L : List Light) (o : List Int) (k : Nat), (∀ e ∈ L, e.Route.Fibers.Nodup ∧ ∀ f ∈ e.Route.Fibers, 0 ≤ f) → k < o.length → gd (markAll L o) k 0 = L.foldl (fun o y => if has y.Route.Fibers k = true then bor o (bits y.Block) else o) (gd o k 0)
  | [], o, k, _, _ => by unfold markAll; rw [List.foldl_nil, List.foldl_nil]
  | e :: L, o, k, h, hk => by
    have he := h e (by simp)
    have := markAll_gd L (e.Route.Fibers.foldl (mark1 (bits e.Block)) o) k (fun x hx => h x (by simp [hx])) (by rw [marks_len]; exact hk)
    unfold markAll at this ⊢
    rw [List.foldl_cons, List.foldl_cons, this, marks_gd _ _ _ _ he.1 he.2 hk]
theorem masks_loop {fu : Nat} (hfu : 2097153 ≤ fu) (p : Plan) (n : Nat) (hl : p.Lights.length ≤ 2097152) (hb : ∀ e ∈ p.Lights, blkOk e.Block = true) (hr : ∀ e ∈ p.Lights, ∀ f ∈ e.Route.Fibers, 0 ≤ f ∧ f < (n : Int)) (hs : ∀ e ∈ p.Lights, e.Route.Fibers.length ≤ 2097152) : ∀ (fk i : Nat) (o : List Int), o.length = n → i ≤ p.Lights.length → p.Lights.length - i < fk →
    ∃ z, impl_fiberMasks_L1 fu p fk o i = some (markAll (p.Lights.drop i) o, z) := by
  intro fk
  induction fk with
  | zero => intro i _ _ _ h; omega
  | succ fk ih =>
    intro i o ho hi hk
    rw [impl_fiberMasks_L1]
    by_cases h : i < p.Lights.length
    · have h' : (i : Int) < (p.Lights.length : Int) := by omega
      have hm := List.getElem_mem h
      have hsm := hs _ hm
      obtain ⟨z, hz⟩ := marks_loop (fu := fu) p.Lights[i] (hb _ hm) n (hr _ hm) hsm fu 0 o ho (by omega) (by omega)
      rw [show ((0 : Nat) : Int) = 0 from rfl, List.drop_zero] at hz
      simp only [h', decide_true, if_true, idx_in h, Option.bind_some, hz, w64_inc h (show (p.Lights.length : Int) ≤ 9223372036854775807 by omega)]
      rw [← List.getElem_cons_drop h]
      exact ih (i + 1) _ (by rw [marks_len]; exact ho) h (by omega)
    · obtain rfl : i = p.Lights.length := by omega
      rw [if_neg (by simp), List.drop_length]
      exact ⟨_, rfl⟩
def maskL (L : List Light) (n : Nat) : List Int := (List.range n).map fun f : Nat => used L (f : Int)
theorem light_in {p : Plan} (hF : PlanF p) : ∀ e ∈ p.Lights, ∀ f ∈ e.Route.Fibers, 0 ≤ f ∧ f < (p.Network.Fibers.length : Int) := fun e he => by
  obtain ⟨o, ho⟩ := (hF.light e he).route
  exact rnodes_in ho
theorem fiberMasks_eq {fu : Nat} (hfu : 2097153 ≤ fu) (p : Plan) (hB : PlanB p) (hF : PlanF p) : impl_fiberMasks fu p = some (maskL p.Lights p.Network.Fibers.length) := by
  have hn := (netF hF.net).fib
  unfold impl_fiberMasks
  rw [mk_len (show p.Network.Fibers.length ≤ 2097152 by omega), Option.bind_some]
  obtain ⟨z, hz⟩ := masks_loop hfu p p.Network.Fibers.length hB.2.1 (fun e he => (hF.light e he).blk) (light_in hF) hB.2.2 fu 0 (List.replicate p.Network.Fibers.length 0) (by simp) (by omega) (by have := hB.2.1; omega)
  rw [show ((0 : Nat) : Int) = 0 from rfl, List.drop_zero] at hz
  rw [hz, Option.bind_some]
  congr 1
  apply List.ext_getElem
  · rw [markAll_len]; simp [maskL]
  · intro k h1 h2
    rw [markAll_len, List.length_replicate] at h1
    rw [← gd_in 0, markAll_gd _ _ _ (fun e he => ⟨(hF.light e he).nodup, fun f hf => (light_in hF e he f hf).1⟩) (by simpa using h1)]
    have : gd (List.replicate p.Network.Fibers.length (0 : Int)) k 0 = 0 := by unfold gd; simp [h1]
    rw [this]
    simp [maskL, used]
theorem maskL_idx {L : List Light} {n i : Nat} (h : i < n) : idx (maskL L n) (i : Int) = some (used L (i : Int)) := by
  rw [idx_in (by simpa [maskL] using h)]
  simp [maskL]
end AT
