/- Do sites connect all pairs: the program's answer and the reference's are one. -/
import Derived.Test.YtmokfdffnijbbaaQSites
import Derived.Test.YtmokfdffnijbbaaH
import Derived.Test.YtmokfdffnijbbaaAtL
import Derived.Test.YtmokfdffnijbbaaF
set_option linter.unusedSimpArgs false
set_option linter.unusedVariables false
namespace AT
def tr (b : Bool) : Nat := if b then 1 else 0
structure RR (N : Nat) (seen : List Int) (rea : List Bool) : Prop where
  len : rea.length = N
  mem : ∀ k, k < N → rea[k]? = some (seen.any fun x => x == (k : Int))
  rng : ∀ v ∈ seen, 0 ≤ v ∧ v < (N : Int)
  cnt : seen.length = sumf tr rea
theorem RR.short {N : Nat} {seen : List Int} {rea : List Bool} (h : RR N seen rea) : seen.length ≤ N := by
  have := sumf_le tr 1 rea (fun x _ => by unfold tr; split <;> omega)
  have := h.len
  have := h.cnt
  omega
theorem RR.add {N : Nat} {seen : List Int} {rea : List Bool} (h : RR N seen rea) {k : Nat} (hk : k < N) (hn : (seen.any fun x => x == (k : Int)) = false) : RR N (seen ++ [(k : Int)]) (rea.set k true) := by
  have hl := h.len
  have hkl : k < rea.length := by omega
  have hm := h.mem k hk
  rw [List.getElem?_eq_getElem hkl, hn] at hm
  injection hm with hm
  refine ⟨by rw [List.length_set]; exact hl, fun j hj => ?_, fun v hv => ?_, ?_⟩
  · rw [List.any_append, List.any_cons, List.any_nil, Bool.or_false]
    by_cases e : k = j
    · subst e
      rw [List.getElem?_set_self hkl]
      simp
    · rw [List.getElem?_set_ne e, h.mem j hj]
      have : ((k : Int) == (j : Int)) = false := by simp; omega
      rw [this, Bool.or_false]
  · rcases List.mem_append.1 hv with hv | hv
    · exact h.rng v hv
    · rw [List.mem_singleton] at hv; subst hv; omega
  · have s := sumf_set tr true rea k hkl
    rw [hm] at s
    have c1 : tr true = 1 := rfl
    have c2 : tr false = 0 := rfl
    rw [c1, c2] at s
    have := h.cnt
    rw [List.length_append, List.length_singleton]; omega
theorem idx_app {l m : List Int} {j v : Int} (h : idx l j = some v) : idx (l ++ m) j = some v := by
  unfold idx at h ⊢
  split at h
  · rename_i h0
    rw [if_pos h0]
    obtain ⟨hl, -⟩ := List.getElem?_eq_some_iff.1 h
    rw [List.getElem?_append_left hl, h]
  · cases h
theorem inner_on {fu : Nat} (hfu : 2097153 ≤ fu) (n : Network) (h8 : n.Nodes.length ≤ 8) (sites : List Int) (hs : sites.length ≤ 2097152) (reach : Int) (far : List (List Int)) (i : Int) (y : List Int) (hy : y.length = n.Nodes.length) (e : Int) (hfar : idx far e = some y)
    (act : (i == 0) = true ∨ (sites.any fun x => x == e) = true) : ∀ (fk b : Nat) (seen : List Int) (rea : List Bool), b ≤ n.Nodes.length → n.Nodes.length - b < fk → RR n.Nodes.length seen rea → idx seen i = some e →
    ∃ seen' rea', spec_l19Connect_L4 fu n sites reach far i fk seen b = some (seen', (n.Nodes.length : Int)) ∧ impl_sitesConnect_L3 fu reach y fk rea seen b = some (rea', seen', (n.Nodes.length : Int)) ∧ RR n.Nodes.length seen' rea' ∧ seen.length ≤ seen'.length := by
  intro fk
  induction fk with
  | zero => intro b _ _ _ h; omega
  | succ fk ih =>
    intro b seen rea hb hk hR hi
    rw [spec_l19Connect_L4, impl_sitesConnect_L3]
    by_cases h : b < n.Nodes.length
    · have h' : (b : Int) < (n.Nodes.length : Int) := by omega
      have hyb : b < y.length := by omega
      have h2 : (b : Int) < (y.length : Int) := by omega
      have hsl := hR.short
      have hrb : idx rea (b : Int) = some (seen.any fun x => x == (b : Int)) := by rw [idx_nat]; exact hR.mem b h
      have e1 := l1Has_eq (fu := fu) seen (b : Int) (by omega) (by omega)
      have e2 := l1Has_eq (fu := fu) sites e (by omega) hs
      have e3 := idx_in hyb
      have hw : w64 ((b : Int) + 1) = ((b + 1 : Nat) : Int) := w64_inc h (by omega)
      have ha : app seen [(b : Int)] = some (seen ++ [(b : Int)]) := app_ok (by simp; omega)
      have hc : (if i == 0 then (some (seen.any fun x => x == (b : Int))).bind fun y2 => if !y2 then (some (decide (0 ≤ y[b]) && decide (y[b] ≤ reach))).bind fun y3 => some y3 else some false
        else (some (sites.any fun x => x == e)).bind fun y4 => if y4 then (some (seen.any fun x => x == (b : Int))).bind fun y5 => if !y5 then (some (decide (0 ≤ y[b]) && decide (y[b] ≤ reach))).bind fun y6 => some y6 else some false else some false) = some (!(seen.any fun x => x == (b : Int)) && (decide (0 ≤ y[b]) && decide (y[b] ≤ reach))) := by
        generalize (decide (0 ≤ y[b]) && decide (y[b] ≤ reach)) = c1
        generalize (seen.any fun x => x == (b : Int)) = c2
        rcases act with q | q
        · rw [q]; cases c2 <;> rfl
        · rw [q]; cases (i == 0) <;> cases c2 <;> rfl
      simp only [h', h2, decide_true, if_true, e1, e2, e3, hi, hfar, hrb, ha, hw, l1In_eq, within_eq, Option.bind_some] at hc ⊢
      rw [hc]
      clear hc hw
      have hd : (if (decide (0 ≤ y[b]) && decide (y[b] ≤ reach)) = true then some (!(seen.any fun x => x == (b : Int))) else some false) = some (!(seen.any fun x => x == (b : Int)) && (decide (0 ≤ y[b]) && decide (y[b] ≤ reach))) := by
        generalize (decide (0 ≤ y[b]) && decide (y[b] ≤ reach)) = c1
        generalize (seen.any fun x => x == (b : Int)) = c2
        cases c1 <;> cases c2 <;> rfl
      rw [hd]
      clear hd
      simp only [Option.bind_some, Int.toNat_natCast]
      cases hx : (!(seen.any fun x => x == (b : Int)) && (decide (0 ≤ y[b]) && decide (y[b] ≤ reach)))
      · simp only [Bool.false_eq_true, if_false]
        exact ih (b + 1) seen rea h (by omega) hR hi
      · simp only [if_true]
        rw [Bool.and_eq_true, Bool.not_eq_true'] at hx
        obtain ⟨s', r', g1, g2, g3, g4⟩ := ih (b + 1) (seen ++ [(b : Int)]) (rea.set b true) h (by omega) (hR.add h hx.1) (idx_app hi)
        rw [List.length_append, List.length_singleton] at g4
        exact ⟨s', r', g1, g2, g3, by omega⟩
    · obtain rfl : b = n.Nodes.length := by omega
      rw [if_neg (by simp), if_neg (by rw [hy]; simp)]
      exact ⟨seen, rea, rfl, rfl, hR, Nat.le_refl _⟩
theorem inner_off {fu : Nat} (hfu : 2097153 ≤ fu) (n : Network) (h8 : n.Nodes.length ≤ 8) (sites : List Int) (hs : sites.length ≤ 2097152) (reach : Int) (far : List (List Int)) (i : Int) (e : Int) (h0 : (i == 0) = false) (hn : (sites.any fun x => x == e) = false)
    (seen : List Int) (hi : idx seen i = some e) : ∀ (fk b : Nat), b ≤ n.Nodes.length → n.Nodes.length - b < fk → spec_l19Connect_L4 fu n sites reach far i fk seen b = some (seen, (n.Nodes.length : Int)) := by
  intro fk
  induction fk with
  | zero => intro b _ h; omega
  | succ fk ih =>
    intro b hb hk
    rw [spec_l19Connect_L4]
    by_cases h : b < n.Nodes.length
    · have h' : (b : Int) < (n.Nodes.length : Int) := by omega
      have e2 := l1Has_eq (fu := fu) sites e (by omega) hs
      simp only [h', h0, hi, e2, hn, decide_true, if_true, Bool.false_eq_true, if_false, Option.bind_some]
      rw [w64_inc h (by omega)]
      exact ih (b + 1) h (by omega)
    · obtain rfl : b = n.Nodes.length := by omega
      rw [if_neg (by simp)]
structure FarOk (fu : Nat) (n : Network) (far : List (List Int)) (m : Nat) : Prop where
  len : far.length = m
  each : ∀ a : Nat, a < m → ∃ y, idx far (a : Int) = some y ∧ impl_lengthsFrom fu n a = some y ∧ y.length = n.Nodes.length
theorem outer {fu : Nat} (hfu : 2097153 ≤ fu) (n : Network) (h8 : n.Nodes.length ≤ 8) (sites : List Int) (hs : sites.length ≤ 2097152) (reach : Int) (far : List (List Int)) (hF : FarOk fu n far n.Nodes.length) :
    ∀ (fk i : Nat) (seen : List Int) (rea : List Bool), i ≤ seen.length → n.Nodes.length - i < fk → RR n.Nodes.length seen rea →
    ∃ seen' rea' k', spec_l19Connect_L3 fu n sites reach far fk seen i = some (seen', k') ∧ impl_sitesConnect_L2 fu n sites reach fk i rea seen = some (k', rea', seen') ∧ RR n.Nodes.length seen' rea' := by
  intro fk
  induction fk with
  | zero => intro i _ _ _ h; omega
  | succ fk ih =>
    intro i seen rea hi hk hR
    have hsl := hR.short
    rw [spec_l19Connect_L3, impl_sitesConnect_L2]
    by_cases h : i < seen.length
    · have h' : (i : Int) < (seen.length : Int) := by omega
      have hv := hR.rng _ (List.getElem_mem h)
      have hix := idx_in h
      generalize seen[i] = e at hv hix
      obtain ⟨a, rfl⟩ : ∃ a : Nat, e = (a : Int) := ⟨e.toNat, by omega⟩
      obtain ⟨y, y1, y2, y3⟩ := hF.each a (by omega)
      have e2 := containsI_eq (fu := fu) sites (a : Int) (by omega) hs
      have hw : w64 ((i : Int) + 1) = ((i + 1 : Nat) : Int) := w64_inc h (by omega)
      have h0 : ((0 : Nat) : Int) = 0 := rfl
      rw [if_pos (decide_eq_true h'), if_pos (decide_eq_true h'), hix, hw]
      clear hw
      simp only [Option.bind_some, e2, y2]
      have hc : (if decide ((i : Int) > 0) then some (!(sites.any fun x => x == (a : Int))) else some false) = some (!((i : Int) == 0) && !(sites.any fun x => x == (a : Int))) := by
        by_cases hi0 : i = 0
        · subst hi0; rfl
        · have q1 : decide ((i : Int) > 0) = true := by simp; omega
          have q2 : ((i : Int) == 0) = false := by simp; omega
          rw [q1, q2]; rfl
      rw [hc, Option.bind_some]
      clear hc
      cases hx : (!((i : Int) == 0) && !(sites.any fun x => x == (a : Int)))
      · obtain ⟨s', r', g1, g2, g3, g4⟩ := inner_on hfu n h8 sites hs reach far i y y3 a y1 (by
          revert hx
          cases ((i : Int) == 0)
          · cases (sites.any fun x => x == (a : Int))
            · intro h; cases h
            · intro _; exact .inr rfl
          · intro _; exact .inl rfl) fu 0 seen rea (by omega) (by omega) hR hix
        rw [h0] at g1 g2
        simp only [Bool.false_eq_true, if_false, g1, g2, Option.bind_some]
        exact ih (i + 1) s' r' (by omega) (by omega) g3
      · rw [Bool.and_eq_true, Bool.not_eq_true', Bool.not_eq_true'] at hx
        have g := inner_off hfu n h8 sites hs reach far i a hx.1 hx.2 seen hix fu 0 (by omega) (by omega)
        rw [h0] at g
        simp only [if_true, g, Option.bind_some]
        exact ih (i + 1) seen rea h (by omega) hR
    · obtain rfl : i = seen.length := by omega
      rw [if_neg (by simp), if_neg (by simp)]
      exact ⟨seen, rea, _, rfl, rfl, hR⟩
theorem last_both {fu : Nat} (hfu : 2097153 ≤ fu) (n : Network) (h8 : n.Nodes.length ≤ 8) (far : List (List Int)) (a : Int) (y : List Int) (hy : y.length = n.Nodes.length) (hfar : idx far a = some y) (seen : List Int) (rea : List Bool) (hR : RR n.Nodes.length seen rea) :
    ∀ (fk b : Nat), b ≤ n.Nodes.length → n.Nodes.length - b < fk → ∃ o, spec_l19Connect_L5 fu n far seen a fk b = some o ∧ impl_sitesConnect_L4 fu rea y fk b = some o ∧ (o = .ret false ∨ o = .next (n.Nodes.length : Int)) := by
  intro fk
  induction fk with
  | zero => intro b _ h; omega
  | succ fk ih =>
    intro b hb hk
    rw [spec_l19Connect_L5, impl_sitesConnect_L4]
    by_cases h : b < n.Nodes.length
    · have h' : (b : Int) < (n.Nodes.length : Int) := by omega
      have hyb : b < y.length := by omega
      have h2 : (b : Int) < (y.length : Int) := by omega
      have hsl := hR.short
      have hrb : idx rea (b : Int) = some (seen.any fun x => x == (b : Int)) := by rw [idx_nat]; exact hR.mem b h
      have e1 := l1Has_eq (fu := fu) seen (b : Int) (by omega) (by omega)
      have e3 := idx_in hyb
      simp only [h', h2, decide_true, if_true, hfar, e1, e3, hrb, Option.bind_some]
      have hd : (if decide (y[b] ≥ 0) then some (!(seen.any fun x => x == (b : Int))) else some false) = some (decide (y[b] ≥ 0) && !(seen.any fun x => x == (b : Int))) := by
        cases decide (y[b] ≥ 0) <;> rfl
      rw [hd, Option.bind_some]
      cases (decide (y[b] ≥ 0) && !(seen.any fun x => x == (b : Int)))
      · simp only [Bool.false_eq_true, if_false]
        rw [w64_inc h (by omega)]
        exact ih (b + 1) h (by omega)
      · exact ⟨_, rfl, rfl, .inl rfl⟩
    · obtain rfl : b = n.Nodes.length := by omega
      rw [if_neg (by simp), if_neg (by rw [hy]; simp)]
      exact ⟨_, rfl, rfl, .inr rfl⟩
theorem nodes_both {fu : Nat} (hfu : 2097153 ≤ fu) (n : Network) (h8 : n.Nodes.length ≤ 8) (sites : List Int) (hs : sites.length ≤ 2097152) (reach : Int) (far : List (List Int)) (hF : FarOk fu n far n.Nodes.length) :
    ∀ (fk a : Nat), a ≤ n.Nodes.length → n.Nodes.length - a < fk → ∃ o, spec_l19Connect_L2 fu n sites reach far fk a = some o ∧ impl_sitesConnect_L1 fu n sites reach fk a = some o := by
  intro fk
  induction fk with
  | zero => intro a _ h; omega
  | succ fk ih =>
    intro a ha hk
    rw [spec_l19Connect_L2, impl_sitesConnect_L1]
    by_cases h : a < n.Nodes.length
    · have h' : (a : Int) < (n.Nodes.length : Int) := by omega
      have hal : a < (List.replicate n.Nodes.length false).length := by simpa using h
      have hR : RR n.Nodes.length [(a : Int)] ((List.replicate n.Nodes.length false).set a true) := by
        have hz : ∀ m, sumf tr (List.replicate m false) = 0 := fun m => by
          have := sumf_le tr 0 (List.replicate m false) (fun x hx => by rw [(List.mem_replicate.1 hx).2]; exact Nat.le_refl _)
          omega
        refine ⟨by simp, fun k hk => ?_, fun v hv => ?_, ?_⟩
        · rw [List.any_cons, List.any_nil, Bool.or_false]
          by_cases e : a = k
          · subst e
            rw [List.getElem?_set_self hal]
            simp
          · have : ((a : Int) == (k : Int)) = false := by simp; omega
            rw [List.getElem?_set_ne e, this, List.getElem?_replicate, if_pos hk]
        · rw [List.mem_singleton] at hv; subst hv; omega
        · have s := sumf_set tr true (List.replicate n.Nodes.length false) a hal
          rw [List.getElem_replicate, hz] at s
          exact s.symm
      obtain ⟨y, y1, y2, y3⟩ := hF.each a h
      obtain ⟨s', r', k', g1, g2, g3⟩ := outer hfu n h8 sites hs reach far hF fu 0 _ _ (by simp) (by omega) hR
      obtain ⟨o, o1, o2, o3⟩ := last_both hfu n h8 far a y y3 y1 s' r' g3 fu 0 (by omega) (by omega)
      have h0 : ((0 : Nat) : Int) = 0 := rfl
      rw [h0] at g1 g2 o1 o2
      have hw : w64 ((a : Int) + 1) = ((a + 1 : Nat) : Int) := w64_inc h (by omega)
      have hx : idx (List.replicate n.Nodes.length false) (a : Int) = some false := by rw [idx_in hal, List.getElem_replicate]
      simp only [h', decide_true, if_true, mk_len (α := Bool) (z := false) (show n.Nodes.length ≤ 2097152 by omega), hx, Option.bind_some, Int.toNat_natCast, g1, g2, y2, o1, o2, hw]
      clear hw
      rcases o3 with rfl | rfl
      · exact ⟨_, rfl, rfl⟩
      · exact ih (a + 1) h (by omega)
    · obtain rfl : a = n.Nodes.length := by omega
      rw [if_neg (by simp), if_neg (by simp)]
      exact ⟨_, rfl, rfl⟩
theorem far_loop {fu : Nat} (hfu : 2097153 ≤ fu) (n : Network) (hn : NetF n) : ∀ (fk a : Nat) (far : List (List Int)), a ≤ n.Nodes.length → n.Nodes.length - a < fk → FarOk fu n far a →
    ∃ far', spec_l19Connect_L1 fu n fk far a = some (far', (n.Nodes.length : Int)) ∧ FarOk fu n far' n.Nodes.length := by
  have h8 := hn.hi
  intro fk
  induction fk with
  | zero => intro a _ _ h; omega
  | succ fk ih =>
    intro a far ha hk hF
    have hl := hF.len
    rw [spec_l19Connect_L1]
    by_cases h : a < n.Nodes.length
    · have h' : (a : Int) < (n.Nodes.length : Int) := by omega
      obtain ⟨y, y1, y2, y3⟩ := from_both hfu n hn h
      have happ : app far [y] = some (far ++ [y]) := by unfold app; rw [if_pos (by simp; omega)]
      rw [if_pos (decide_eq_true h'), y2, Option.bind_some, happ, Option.bind_some, w64_inc h (by omega)]
      refine ih (a + 1) (far ++ [y]) h (by omega) ⟨by simp; omega, fun k hk => ?_⟩
      by_cases e : k = a
      · subst e
        exact ⟨y, by rw [idx_nat, ← hl, List.getElem?_concat_length], y1, y3⟩
      · obtain ⟨z, z1, z2, z3⟩ := hF.each k (by omega)
        refine ⟨z, ?_, z2, z3⟩
        rw [idx_nat] at z1 ⊢
        rw [List.getElem?_append_left (by omega), z1]
    · obtain rfl : a = n.Nodes.length := by omega
      rw [if_neg (by simp)]
      exact ⟨far, rfl, hF⟩
theorem connect_both {fu : Nat} (hfu : 2097153 ≤ fu) (n : Network) (hn : NetF n) (sites : List Int) (hs : sites.length ≤ 2097152) (reach : Int) : ∃ c, spec_l19Connect fu n sites reach = some c ∧ impl_sitesConnect fu n sites reach = some c := by
  have h8 := hn.hi
  obtain ⟨far, f1, f2⟩ := far_loop hfu n hn fu 0 [] (by omega) (by omega) ⟨rfl, fun a ha => by omega⟩
  obtain ⟨o, o1, o2⟩ := nodes_both hfu n h8 sites hs reach far f2 fu 0 (by omega) (by omega)
  have h0 : ((0 : Nat) : Int) = 0 := rfl
  rw [h0] at f1 o1 o2
  unfold spec_l19Connect impl_sitesConnect
  rw [f1, Option.bind_some, o1, o2]
  cases o with
  | ret r => exact ⟨_, rfl, rfl⟩
  | next z => exact ⟨_, rfl, rfl⟩
end AT

namespace AT
theorem clone_eq {fu : Nat} (l : List Int) (h : l.length ≤ 2097152) : slices_Clone_int_int fu l = some l := by
  have hc : app ([] : List Int) l = some l := by unfold app; rw [if_pos (by simp; omega)]; rfl
  unfold slices_Clone_int_int
  rw [hc]
  unfold nilCase
  cases l <;> simp
theorem w_p1 {i : Nat} (h : i ≤ 2097152) : w64 ((i : Int) + 1) = ((i + 1 : Nat) : Int) := by rw [w64_in (by omega) (by omega)]; rfl
theorem w_m1 {k : Nat} (h : k ≤ 2097152) : w64 (((k + 1 : Nat) : Int) - 1) = (k : Int) := by rw [w64_in (by omega) (by omega)]; omega
theorem w_sum {i k : Nat} (h : i + k ≤ 2097152) : w64 ((i : Int) + ((k + 1 : Nat) : Int)) = ((i + k + 1 : Nat) : Int) := by rw [w64_in (by omega) (by omega)]; omega
theorem app1I {l : List Int} {x : Int} (h : l.length ≤ 2097152) : app l [x] = some (l ++ [x]) := by unfold app; rw [if_pos (by simp; omega)]
theorem choices_none (n : Network) (h8 : n.Nodes.length ≤ 8) (reach : Int) : ∀ (k f a : Nat) (list out : List Int), 2097153 + k ≤ f → a ≤ 8 → n.Nodes.length < a + (k + 1) → k + list.length ≤ 2097000 →
    ∃ o, impl_choices_of_fewest_c1 f (a : Int) (n.Nodes.length : Int) ((k + 1 : Nat) : Int) list out n reach = some (false, o) := by
  intro k
  induction k with
  | zero =>
    intro f a list out hf ha hk hl
    obtain ⟨f, rfl⟩ : ∃ g, f = g + 1 := ⟨f - 1, by omega⟩
    rw [impl_choices_of_fewest_c1, impl_choices_of_fewest_c1_B, if_neg (by simp)]
    obtain ⟨g, hg⟩ : ∃ g, f = g + 1 := ⟨f - 1, by omega⟩
    have e : ∀ rec_, impl_choices_of_fewest_c1_L1 f (n.Nodes.length : Int) ((0 + 1 : Nat) : Int) list n reach rec_ f (a : Int) out = some (.next ((a : Int), out)) := by
      intro rec_
      conv => lhs; arg 8; rw [hg]
      rw [impl_choices_of_fewest_c1_L1, if_neg (by simp; omega)]
    rw [e]
    exact ⟨out, rfl⟩
  | succ k ih =>
    intro f a list out hf ha hk hl
    obtain ⟨f, rfl⟩ : ∃ g, f = g + 1 := ⟨f - 1, by omega⟩
    rw [impl_choices_of_fewest_c1, impl_choices_of_fewest_c1_B, if_neg (by simp; omega)]
    have key : ∀ (fk i : Nat) (m : List Int), i ≤ 8 → a ≤ i → 8 - i < fk → ∃ z, impl_choices_of_fewest_c1_L1 f (n.Nodes.length : Int) ((k + 1 + 1 : Nat) : Int) list n reach (fun from' n' count list cap cap2 cap3 => impl_choices_of_fewest_c1 f from' n' count list cap cap2 cap3) fk (i : Int) m = some (.next z) := by
      intro fk
      induction fk with
      | zero => intro i m h1 h2 h3; omega
      | succ fk ih2 =>
        intro i m h1 h2 h3
        rw [impl_choices_of_fewest_c1_L1]
        by_cases h : i < n.Nodes.length
        · rw [if_pos (by simp; omega)]
          obtain ⟨o, ho⟩ := ih f (i + 1) (list ++ [(i : Int)]) m (by omega) (by omega) (by omega) (by rw [List.length_append, List.length_singleton]; omega)
          rw [app1I (by omega), Option.bind_some, w_p1 (by omega), w_m1 (by omega), ho, Option.bind_some]
          simp only [Bool.false_eq_true, if_false]
          exact ih2 (i + 1) o (by omega) (by omega) (by omega)
        · rw [if_neg (by simp; omega)]
          exact ⟨_, rfl⟩
    obtain ⟨z, hz⟩ := key f a out ha (Nat.le_refl _) (by omega)
    rw [hz]
    exact ⟨z.2, rfl⟩
theorem choose_both (n : Network) (hn : NetF n) (reach : Int) : ∀ (k f a : Nat) (list out : List Int), 2097153 + k < f → a ≤ 8 → k + list.length ≤ 2097000 → (∀ v ∈ list, 0 ≤ v ∧ v ≤ 8) → k ≤ 9 →
    ∃ (r o : List Int) (ok : Bool), spec_l19Choose f n reach list (a : Int) (k : Int) = some (r, ok) ∧ impl_choices_of_fewest_c1 f (a : Int) (n.Nodes.length : Int) (k : Int) list out n reach = some (ok, o) ∧ (ok = true → o = r ∧ r.length = list.length + k) := by
  have h8 := hn.hi
  intro k
  induction k with
  | zero =>
    intro f a list out hf ha hl hv h9
    obtain ⟨f, rfl⟩ : ∃ g, f = g + 1 := ⟨f - 1, by omega⟩
    obtain ⟨c, c1, c2⟩ := connect_both (fu := f) (by omega) n hn list (by omega) reach
    rw [spec_l19Choose, spec_l19Choose_B, impl_choices_of_fewest_c1, impl_choices_of_fewest_c1_B, if_pos (by rfl), if_pos (by rfl), c1, impl_fewest_c1, clone_eq list (by omega), Option.bind_some, impl_FewestSites_c1, c2]
    exact ⟨list, list, c, rfl, rfl, fun _ => ⟨rfl, by omega⟩⟩
  | succ k ih =>
    intro f a list out hf ha hl hv h9
    obtain ⟨f, rfl⟩ : ∃ g, f = g + 1 := ⟨f - 1, by omega⟩
    rw [spec_l19Choose, spec_l19Choose_B, impl_choices_of_fewest_c1, impl_choices_of_fewest_c1_B, if_neg (by simp; omega), if_neg (by simp; omega)]
    have own : spec_l1Own f list = some list := by
      have hc : app ([] : List Int) list = some list := by unfold app; rw [if_pos (by simp; omega)]; rfl
      unfold spec_l1Own; rw [hc]; rfl
    have key : ∀ (fk i : Nat) (m : List Int), i ≤ 8 → 8 - i < fk →
        (∃ z1 z2, spec_l19Choose_L1 f n reach list ((k + 1 : Nat) : Int) (fun n' reach sites from' k' => spec_l19Choose f n' reach sites from' k') fk (i : Int) = some (.next z1) ∧
          impl_choices_of_fewest_c1_L1 f (n.Nodes.length : Int) ((k + 1 : Nat) : Int) list n reach (fun from' n' count list cap cap2 cap3 => impl_choices_of_fewest_c1 f from' n' count list cap cap2 cap3) fk (i : Int) m = some (.next z2)) ∨
        (∃ r, spec_l19Choose_L1 f n reach list ((k + 1 : Nat) : Int) (fun n' reach sites from' k' => spec_l19Choose f n' reach sites from' k') fk (i : Int) = some (.ret (r, true)) ∧
          impl_choices_of_fewest_c1_L1 f (n.Nodes.length : Int) ((k + 1 : Nat) : Int) list n reach (fun from' n' count list cap cap2 cap3 => impl_choices_of_fewest_c1 f from' n' count list cap cap2 cap3) fk (i : Int) m = some (.ret (true, r)) ∧ r.length = list.length + (k + 1)) := by
      intro fk
      induction fk with
      | zero => intro i m h1 h2; omega
      | succ fk ih2 =>
        intro i m h1 h2
        rw [spec_l19Choose_L1, w_sum (by omega)]
        by_cases h : i + k + 1 ≤ n.Nodes.length
        · rw [impl_choices_of_fewest_c1_L1, if_pos (by simp; omega), if_pos (by simp; omega), own, Option.bind_some, app1I (by omega), Option.bind_some, w_p1 (by omega), w_m1 (by omega), Option.bind_some]
          obtain ⟨r, o, ok, e1, e2, e3⟩ := ih f (i + 1) (list ++ [(i : Int)]) m (by omega) (by omega) (by rw [List.length_append, List.length_singleton]; omega) (fun v hv' => by
            rcases List.mem_append.1 hv' with hv' | hv'
            · exact hv v hv'
            · rw [List.mem_singleton] at hv'; subst hv'; omega) (by omega)
          rw [e1, e2, Option.bind_some, Option.bind_some]
          cases ok
          · simp only [Bool.false_eq_true, if_false]
            exact ih2 (i + 1) o (by omega) (by omega)
          · obtain ⟨rfl, e4⟩ := e3 rfl
            simp only [if_true]
            rw [List.length_append, List.length_singleton] at e4
            exact .inr ⟨o, rfl, rfl, by omega⟩
        · rw [if_neg (by simp; omega)]
          left
          -- the program goes on, and finds nothing
          have rest : ∀ (fk i : Nat) (m : List Int), i ≤ 8 → n.Nodes.length < i + k + 1 → 8 - i < fk → ∃ z, impl_choices_of_fewest_c1_L1 f (n.Nodes.length : Int) ((k + 1 : Nat) : Int) list n reach (fun from' n' count list cap cap2 cap3 => impl_choices_of_fewest_c1 f from' n' count list cap cap2 cap3) fk (i : Int) m = some (.next z) := by
            intro fk
            induction fk with
            | zero => intro i m h1 h2 h3; omega
            | succ fk ih3 =>
              intro i m h1 h2 h3
              rw [impl_choices_of_fewest_c1_L1]
              by_cases h' : i < n.Nodes.length
              · obtain ⟨k', rfl⟩ : ∃ k', k = k' + 1 := ⟨k - 1, by omega⟩
                obtain ⟨o, ho⟩ := choices_none n h8 reach k' f (i + 1) (list ++ [(i : Int)]) m (by omega) (by omega) (by omega) (by rw [List.length_append, List.length_singleton]; omega)
                rw [if_pos (by simp; omega), app1I (by omega), Option.bind_some, w_p1 (by omega), w_m1 (by omega), ho, Option.bind_some]
                simp only [Bool.false_eq_true, if_false]
                exact ih3 (i + 1) o (by omega) (by omega) (by omega)
              · rw [if_neg (by simp; omega)]
                exact ⟨_, rfl⟩
          obtain ⟨z, hz⟩ := rest (fk + 1) i m h1 (by omega) h2
          exact ⟨_, z, rfl, hz⟩
    rcases key f a out ha (by omega) with ⟨z1, z2, e1, e2⟩ | ⟨r, e1, e2, e3⟩
    · rw [e1, e2]
      exact ⟨[], z2.2, false, rfl, rfl, fun h => (by cases h)⟩
    · rw [e1, e2]
      exact ⟨r, r, true, rfl, rfl, fun _ => ⟨rfl, e3⟩⟩
theorem few_both {fu : Nat} (hfu : 4194304 ≤ fu) {x0 : Network} {x1 : Int} (hB : NetB x0) : ∃ w, spec_FewestSites fu x0 x1 = some w ∧ impl_FewestSites fu x0 x1 = some w ∧ w.1.length ≤ 2097152 := by
  have hfu2 : 2097153 ≤ fu := by omega
  unfold spec_FewestSites impl_FewestSites
  rw [specNet_eq hfu2 x0 hB, implNet_eq hfu2 x0 hB]
  simp only [Option.bind_some]
  cases hv : netOk x0
  · exact ⟨_, rfl, rfl, by simp⟩
  have hn := netF hv
  have h8 := hn.hi
  simp only [Bool.not_true, Bool.false_eq_true, if_false, l1In_eq, within_eq, Option.bind_some]
  cases hc : (decide (1 ≤ x1) && decide (x1 ≤ 20000))
  · exact ⟨_, rfl, rfl, by simp⟩
  simp only [Bool.not_true, Bool.false_eq_true, if_false]
  have key : ∀ (fk k : Nat) (m : List Int), k ≤ 9 → 9 - k < fk →
      (∃ z1 z2, spec_FewestSites_L1 fu x0 x1 fk (k : Int) = some (.next z1) ∧ impl_fewest_of_FewestSites_c1_L1 fu (x0.Nodes.length : Int) x0 x1 fk (k : Int) m = some (.next z2)) ∨
      (∃ r, spec_FewestSites_L1 fu x0 x1 fk (k : Int) = some (.ret (r, true, true)) ∧ impl_fewest_of_FewestSites_c1_L1 fu (x0.Nodes.length : Int) x0 x1 fk (k : Int) m = some (.ret (r, true)) ∧ r.length ≤ 9) := by
    intro fk
    induction fk with
    | zero => intro k m h1 h2; omega
    | succ fk ih =>
      intro k m h1 h2
      rw [spec_FewestSites_L1, impl_fewest_of_FewestSites_c1_L1, w_p1 (i := x0.Nodes.length) (by omega)]
      by_cases h : k ≤ x0.Nodes.length
      · obtain ⟨r, o, ok, e1, e2, e3⟩ := choose_both x0 hn x1 k fu 0 [] m (by omega) (by omega) (by simp; omega) (fun v hv => by cases hv) h1
        have h0 : ((0 : Nat) : Int) = 0 := rfl
        rw [h0] at e1 e2
        rw [if_pos (by simp; omega), if_pos (by simp; omega), e1, e2, Option.bind_some, Option.bind_some]
        cases ok
        · rw [w_p1 (by omega)]
          simp only [Bool.false_eq_true, if_false]
          exact ih (k + 1) o (by omega) (by omega)
        · obtain ⟨rfl, e4⟩ := e3 rfl
          simp only [if_true]
          exact .inr ⟨o, rfl, rfl, by rw [e4]; simp; omega⟩
      · rw [if_neg (by simp; omega), if_neg (by simp; omega)]
        exact .inl ⟨_, _, rfl, rfl⟩
  unfold impl_fewest_of_FewestSites_c1
  have h0 : ((0 : Nat) : Int) = 0 := rfl
  rcases key fu 0 [] (by omega) (by omega) with ⟨z1, z2, e1, e2⟩ | ⟨r, e1, e2, e3⟩
  · rw [h0] at e1 e2
    rw [e1, e2]
    exact ⟨_, rfl, rfl, by simp⟩
  · rw [h0] at e1 e2
    rw [e1, e2]
    exact ⟨_, rfl, rfl, by show r.length ≤ 2097152; omega⟩
end AT

namespace AT
def Le {α : Type} (x y : Option α) : Prop := ∀ r, x = some r → y = some r
theorem Le.refl {α : Type} (x : Option α) : Le x x := fun _ h => h
theorem Le.none {α : Type} (y : Option α) : Le Option.none y := fun _ h => by cases h
theorem Le.bind {α β : Type} {x x' : Option α} {f f' : α → Option β} (h : Le x x') (hf : ∀ a, Le (f a) (f' a)) : Le (x.bind f) (x'.bind f') := by
  intro r hr
  obtain ⟨a, h1, h2⟩ := bind_some hr
  rw [h a h1]
  exact hf a r h2
theorem Le.ite {α : Type} {c : Prop} [Decidable c] {a a' b b' : Option α} (h1 : Le a a') (h2 : Le b b') : Le (if c then a else b) (if c then a' else b') := by
  split
  · exact h1
  · exact h2
theorem Le.on {S R T : Type} {o : Out S R} {f : R → Option T} {g g' : S → Option T} (h : ∀ s, Le (g s) (g' s)) : Le (o.on f g) (o.on f g') := by
  cases o with
  | ret r => exact Le.refl _
  | next s => exact h s
theorem index_mono {fu fu' : Nat} (l : List Int) (v : Int) : ∀ (fk fk' : Nat), fk ≤ fk' → ∀ i, Le (slices_Index_int_int_L1 fu l v fk i) (slices_Index_int_int_L1 fu' l v fk' i) := by
  intro fk
  induction fk with
  | zero => intro fk' _ i; exact Le.none _
  | succ fk ih =>
    intro fk' hk i
    obtain ⟨fk', rfl⟩ : ∃ g, fk' = g + 1 := ⟨fk' - 1, by omega⟩
    rw [slices_Index_int_int_L1, slices_Index_int_int_L1]
    exact Le.ite (Le.bind (Le.refl _) fun e => Le.ite (Le.refl _) (ih _ (by omega) _)) (Le.refl _)
theorem contains_mono {fu fu' : Nat} (h : fu ≤ fu') (l : List Int) (v : Int) : Le (slices_Contains_int_int fu l v) (slices_Contains_int_int fu' l v) := by
  unfold slices_Contains_int_int slices_Index_int_int
  exact Le.bind (Le.bind (index_mono l v _ _ h _) fun o => Le.refl _) fun _ => Le.refl _
theorem from3_mono {fu fu' : Nat} (e : Fiber) : ∀ (fk fk' : Nat), fk ≤ fk' → ∀ a b c, Le (impl_lengthsFrom_L3 fu e fk a b c) (impl_lengthsFrom_L3 fu' e fk' a b c) := by
  intro fk
  induction fk with
  | zero => intro fk' _ a b c; exact Le.none _
  | succ fk ih =>
    intro fk' hk a b c
    obtain ⟨fk', rfl⟩ : ∃ g, fk' = g + 1 := ⟨fk' - 1, by omega⟩
    rw [impl_lengthsFrom_L3, impl_lengthsFrom_L3]
    refine Le.ite ?_ (Le.refl _)
    refine Le.bind (Le.refl _) fun _ => Le.bind (Le.refl _) fun _ => Le.bind (Le.refl _) fun _ => Le.bind (Le.refl _) fun _ => Le.bind (Le.refl _) fun _ => Le.ite ?_ ?_
    · exact Le.bind (Le.refl _) fun _ => Le.bind (Le.refl _) fun _ => Le.bind (Le.refl _) fun _ => ih _ (by omega) _ _ _
    · exact ih _ (by omega) _ _ _
theorem from2_mono {fu fu' : Nat} (h : fu ≤ fu') (n : Network) : ∀ (fk fk' : Nat), fk ≤ fk' → ∀ a b c, Le (impl_lengthsFrom_L2 fu n fk a b c) (impl_lengthsFrom_L2 fu' n fk' a b c) := by
  intro fk
  induction fk with
  | zero => intro fk' _ a b c; exact Le.none _
  | succ fk ih =>
    intro fk' hk a b c
    obtain ⟨fk', rfl⟩ : ∃ g, fk' = g + 1 := ⟨fk' - 1, by omega⟩
    rw [impl_lengthsFrom_L2, impl_lengthsFrom_L2]
    exact Le.ite (Le.bind (Le.refl _) fun _ => Le.bind (from3_mono _ _ _ h _ _ _) fun _ => ih _ (by omega) _ _ _) (Le.refl _)
theorem from1_mono {fu fu' : Nat} (h : fu ≤ fu') (n : Network) : ∀ (fk fk' : Nat), fk ≤ fk' → ∀ a b, Le (impl_lengthsFrom_L1 fu n fk a b) (impl_lengthsFrom_L1 fu' n fk' a b) := by
  intro fk
  induction fk with
  | zero => intro fk' _ a b; exact Le.none _
  | succ fk ih =>
    intro fk' hk a b
    obtain ⟨fk', rfl⟩ : ∃ g, fk' = g + 1 := ⟨fk' - 1, by omega⟩
    rw [impl_lengthsFrom_L1, impl_lengthsFrom_L1]
    exact Le.ite (Le.bind (from2_mono h n _ _ h _ _ _) fun _ => ih _ (by omega) _ _) (Le.refl _)
theorem from_mono {fu fu' : Nat} (hfu : 2097153 ≤ fu) (h : fu ≤ fu') (n : Network) (hn : NetF n) (v : Int) : Le (impl_lengthsFrom fu n v) (impl_lengthsFrom fu' n v) := by
  unfold impl_lengthsFrom
  have h8 := hn.hi
  have h2 := hn.lo
  rw [repeat_eq hfu h2 h8, repeat_eq (by omega) h2 h8]
  exact Le.bind (Le.refl _) fun _ => Le.bind (Le.refl _) fun _ => Le.bind (from1_mono h n _ _ h _ _) fun _ => Le.refl _
theorem con3_mono {fu fu' : Nat} (reach : Int) (y : List Int) : ∀ (fk fk' : Nat), fk ≤ fk' → ∀ a b c, Le (impl_sitesConnect_L3 fu reach y fk a b c) (impl_sitesConnect_L3 fu' reach y fk' a b c) := by
  intro fk
  induction fk with
  | zero => intro fk' _ a b c; exact Le.none _
  | succ fk ih =>
    intro fk' hk a b c
    obtain ⟨fk', rfl⟩ : ∃ g, fk' = g + 1 := ⟨fk' - 1, by omega⟩
    rw [impl_sitesConnect_L3, impl_sitesConnect_L3]
    simp only [within_eq]
    refine Le.ite (Le.bind (Le.refl _) fun _ => Le.bind (Le.refl _) fun _ => Le.ite ?_ ?_) (Le.refl _)
    · exact Le.bind (Le.refl _) fun _ => Le.bind (Le.refl _) fun _ => ih _ (by omega) _ _ _
    · exact ih _ (by omega) _ _ _
theorem con2_mono {fu fu' : Nat} (hfu : 2097153 ≤ fu) (h : fu ≤ fu') (n : Network) (hn : NetF n) (sites : List Int) (reach : Int) : ∀ (fk fk' : Nat), fk ≤ fk' → ∀ a b c, Le (impl_sitesConnect_L2 fu n sites reach fk a b c) (impl_sitesConnect_L2 fu' n sites reach fk' a b c) := by
  intro fk
  induction fk with
  | zero => intro fk' _ a b c; exact Le.none _
  | succ fk ih =>
    intro fk' hk a b c
    obtain ⟨fk', rfl⟩ : ∃ g, fk' = g + 1 := ⟨fk' - 1, by omega⟩
    rw [impl_sitesConnect_L2, impl_sitesConnect_L2]
    refine Le.ite (Le.bind ?_ fun _ => Le.ite ?_ ?_) (Le.refl _)
    · exact Le.ite (Le.bind (Le.refl _) fun _ => Le.bind (contains_mono h _ _) fun _ => Le.refl _) (Le.refl _)
    · exact ih _ (by omega) _ _ _
    · exact Le.bind (Le.refl _) fun _ => Le.bind (from_mono hfu h n hn _) fun _ => Le.bind (con3_mono _ _ _ _ h _ _ _) fun _ => ih _ (by omega) _ _ _
theorem con4_mono {fu fu' : Nat} (r : List Bool) (y : List Int) : ∀ (fk fk' : Nat), fk ≤ fk' → ∀ a, Le (impl_sitesConnect_L4 fu r y fk a) (impl_sitesConnect_L4 fu' r y fk' a) := by
  intro fk
  induction fk with
  | zero => intro fk' _ a; exact Le.none _
  | succ fk ih =>
    intro fk' hk a
    obtain ⟨fk', rfl⟩ : ∃ g, fk' = g + 1 := ⟨fk' - 1, by omega⟩
    rw [impl_sitesConnect_L4, impl_sitesConnect_L4]
    exact Le.ite (Le.bind (Le.refl _) fun _ => Le.bind (Le.refl _) fun _ => Le.ite (Le.refl _) (ih _ (by omega) _)) (Le.refl _)
theorem con1_mono {fu fu' : Nat} (hfu : 2097153 ≤ fu) (h : fu ≤ fu') (n : Network) (hn : NetF n) (sites : List Int) (reach : Int) : ∀ (fk fk' : Nat), fk ≤ fk' → ∀ a, Le (impl_sitesConnect_L1 fu n sites reach fk a) (impl_sitesConnect_L1 fu' n sites reach fk' a) := by
  intro fk
  induction fk with
  | zero => intro fk' _ a; exact Le.none _
  | succ fk ih =>
    intro fk' hk a
    obtain ⟨fk', rfl⟩ : ∃ g, fk' = g + 1 := ⟨fk' - 1, by omega⟩
    rw [impl_sitesConnect_L1, impl_sitesConnect_L1]
    refine Le.ite (Le.bind (Le.refl _) fun _ => Le.bind (Le.refl _) fun _ => Le.bind (con2_mono hfu h n hn _ _ _ _ h _ _ _) fun _ => Le.bind (from_mono hfu h n hn _) fun _ => Le.bind (con4_mono _ _ _ _ h _) fun _ => Le.on fun _ => ih _ (by omega) _) (Le.refl _)
theorem connect_mono {fu fu' : Nat} (hfu : 2097153 ≤ fu) (h : fu ≤ fu') (n : Network) (hn : NetF n) (sites : List Int) (reach : Int) : Le (impl_sitesConnect fu n sites reach) (impl_sitesConnect fu' n sites reach) := by
  unfold impl_sitesConnect
  exact Le.bind (con1_mono hfu h n hn _ _ _ _ h _) fun _ => Le.refl _
end AT

namespace AT
def Up (N : Nat) (l : List Int) (a : Nat) : Prop := (∀ j, j < l.length → setBad l ((N : Int) - 1) j = false) ∧ ∀ v ∈ l, v < (a : Int)
theorem gd_app {l m : List Int} {j : Nat} (h : j < l.length) : gd (l ++ m) j 0 = gd l j 0 := by
  unfold gd; rw [List.getElem?_append_left h]
theorem Up.add {N : Nat} {l : List Int} {a i : Nat} (h : Up N l a) (hi : a ≤ i) (hN : i < N) : Up N (l ++ [(i : Int)]) (i + 1) := by
  refine ⟨fun j hj => ?_, fun v hv => ?_⟩
  · rw [List.length_append, List.length_singleton] at hj
    by_cases hjl : j < l.length
    · have := h.1 j hjl
      unfold setBad at this ⊢
      rw [gd_app hjl]
      by_cases h0 : 0 < j
      · rw [gd_app (show j - 1 < l.length by omega)]; exact this
      · simpa [h0] using this
    · obtain rfl : j = l.length := by omega
      have e : gd (l ++ [(i : Int)]) l.length 0 = (i : Int) := by unfold gd; simp
      unfold setBad
      rw [e]
      by_cases h0 : 0 < l.length
      · have hm : gd l (l.length - 1) 0 ∈ l := by rw [gd_in 0 (show l.length - 1 < l.length by omega)]; exact List.getElem_mem _
        have := h.2 _ hm
        rw [gd_app (show l.length - 1 < l.length by omega)]
        have a1 : ¬ (gd l (l.length - 1) 0 ≥ (i : Int)) := by omega
        have a2 : (i : Int) ≤ (N : Int) - 1 := by omega
        simp [a1, a2]
      · have a2 : (i : Int) ≤ (N : Int) - 1 := by omega
        simp [h0, a2]
  · rcases List.mem_append.1 hv with hv | hv
    · have := h.2 v hv; omega
    · rw [List.mem_singleton] at hv; subst hv; omega
theorem choose_true (n : Network) (hn : NetF n) (reach : Int) : ∀ (k f a : Nat) (list r : List Int), 2097153 + k < f → a ≤ 8 → Up n.Nodes.length list a → list.length + k ≤ 1000 → k ≤ 1000 → spec_l19Choose f n reach list (a : Int) (k : Int) = some (r, true) →
    Up n.Nodes.length r 9 ∧ r.length ≤ 1000 ∧ ∃ g, 2097153 ≤ g ∧ g ≤ f ∧ impl_sitesConnect g n r reach = some true := by
  have h8 := hn.hi
  intro k
  induction k with
  | zero =>
    intro f a list r hf ha hU hl h9 he
    obtain ⟨f, rfl⟩ : ∃ g, f = g + 1 := ⟨f - 1, by omega⟩
    obtain ⟨c, c1, c2⟩ := connect_both (fu := f) (by omega) n hn list (by omega) reach
    rw [spec_l19Choose, spec_l19Choose_B, if_pos (by rfl), c1, Option.bind_some] at he
    injection he with he
    injection he with e1 e2
    subst e1 e2
    exact ⟨⟨hU.1, fun v hv => by have := hU.2 v hv; omega⟩, by omega, f, by omega, by omega, c2⟩
  | succ k ih =>
    intro f a list r hf ha hU hl h9 he
    obtain ⟨f, rfl⟩ : ∃ g, f = g + 1 := ⟨f - 1, by omega⟩
    have own : spec_l1Own f list = some list := by
      have hc : app ([] : List Int) list = some list := by unfold app; rw [if_pos (by simp; omega)]; rfl
      unfold spec_l1Own; rw [hc]; rfl
    have key : ∀ (fk i : Nat) (z : List Int × Bool), a ≤ i → i ≤ 8 → spec_l19Choose_L1 f n reach list ((k + 1 : Nat) : Int) (fun n' reach sites from' k' => spec_l19Choose f n' reach sites from' k') fk (i : Int) = some (.ret z) →
        ∃ i' : Nat, i ≤ i' ∧ i' < n.Nodes.length ∧ spec_l19Choose f n reach (list ++ [(i' : Int)]) ((i' + 1 : Nat) : Int) (k : Int) = some (z.1, true) := by
      intro fk
      induction fk with
      | zero => intro i z _ _ h; cases h
      | succ fk ih2 =>
        intro i z hi h1 h
        rw [spec_l19Choose_L1, w_sum (by omega)] at h
        by_cases hc : i + k + 1 ≤ n.Nodes.length
        · rw [if_pos (by simp; omega), own, Option.bind_some, app1I (by omega), Option.bind_some, w_p1 (by omega), w_m1 (by omega)] at h
          obtain ⟨y, y1, y2⟩ := bind_some h
          by_cases hy : y.2 = true
          · rw [if_pos hy] at y2
            injection y2 with y2
            injection y2 with y2
            subst y2
            refine ⟨i, Nat.le_refl _, by omega, ?_⟩
            rw [y1]
            show some y = some (y.1, true)
            rw [← hy]
          · rw [if_neg hy] at y2
            obtain ⟨i', g1, g2, g3⟩ := ih2 (i + 1) z (by omega) (by omega) y2
            exact ⟨i', by omega, g2, g3⟩
        · rw [if_neg (by simp; omega)] at h
          cases h
    rw [spec_l19Choose, spec_l19Choose_B, if_neg (by simp; omega)] at he
    obtain ⟨o, o1, o2⟩ := bind_some he
    cases o with
    | next z => cases o2
    | ret z =>
      obtain ⟨i, g1, g2, g3⟩ := key f a z (Nat.le_refl _) ha o1
      injection o2 with o2
      subst o2
      obtain ⟨q1, q2, g, q3, q4, q5⟩ := ih f (i + 1) (list ++ [(i : Int)]) r (by omega) (by omega) (hU.add g1 g2) (by rw [List.length_append, List.length_singleton]; omega) (by omega) g3
      exact ⟨q1, q2, g, q3, by omega, q5⟩
theorem few_true {fu : Nat} (hfu : 4194304 ≤ fu) {n : Network} {reach : Int} (hB : NetB n) {w : List Int × Bool × Bool} (h : spec_FewestSites fu n reach = some w) (hw : w.2.1 = true) :
    impl_SitesConnect fu n w.1 reach = some (true, true) := by
  have hfu2 : 2097153 ≤ fu := by omega
  unfold spec_FewestSites at h
  rw [specNet_eq hfu2 n hB] at h
  simp only [Option.bind_some] at h
  cases hv : netOk n
  · rw [hv] at h
    simp only [Bool.not_false, if_true, Option.bind_some] at h
    injection h with h
    subst h
    cases hw
  have hn := netF hv
  have h8 := hn.hi
  rw [hv] at h
  simp only [Bool.not_true, Bool.false_eq_true, if_false, l1In_eq, Option.bind_some] at h
  cases hc : (decide (1 ≤ reach) && decide (reach ≤ 20000))
  · rw [hc] at h
    simp only [Bool.not_false, if_true] at h
    injection h with h
    subst h
    cases hw
  rw [hc] at h
  simp only [Bool.not_true, Bool.false_eq_true, if_false] at h
  have key : ∀ (fk k : Nat) (z : List Int × Bool × Bool), k ≤ 9 → spec_FewestSites_L1 fu n reach fk (k : Int) = some (.ret z) → ∃ k' : Nat, k' ≤ 9 ∧ spec_l19Choose fu n reach [] 0 (k' : Int) = some (z.1, true) := by
    intro fk
    induction fk with
    | zero => intro k z _ h; cases h
    | succ fk ih =>
      intro k z hk h
      rw [spec_FewestSites_L1] at h
      by_cases hkn : k ≤ n.Nodes.length
      · rw [if_pos (by simp; omega), w_p1 (by omega)] at h
        obtain ⟨y, y1, y2⟩ := bind_some h
        by_cases hy : y.2 = true
        · rw [if_pos hy] at y2
          injection y2 with y2
          injection y2 with y2
          subst y2
          refine ⟨k, hk, ?_⟩
          rw [y1]
          show some y = some (y.1, true)
          rw [← hy]
        · rw [if_neg hy] at y2
          exact ih (k + 1) z (by omega) y2
      · rw [if_neg (by simp; omega)] at h
        cases h
  obtain ⟨o, o1, o2⟩ := bind_some h
  cases o with
  | next z =>
    injection o2 with o2
    subst o2
    cases hw
  | ret z =>
    injection o2 with o2
    subst o2
    obtain ⟨k, k1, k2⟩ := key fu 0 z (by omega) o1
    obtain ⟨q1, q2, g, q3, q4, q5⟩ := choose_true n hn reach k fu 0 [] z.1 (by omega) (by omega) ⟨fun j hj => by simp at hj, fun v hv => by simp at hv⟩ (by simp; omega) (by omega) k2
    unfold impl_SitesConnect
    have hset : impl_isSet fu z.1 (n.Nodes.length : Int) = some true := by
      rw [isSet_eq z.1 _ (by omega) (by omega), w64_in (by omega) (by omega)]
      have : ((List.range z.1.length).any (setBad z.1 ((n.Nodes.length : Int) - 1))) = false := by
        rw [List.any_eq_false]
        intro j hj
        rw [q1.1 j (List.mem_range.1 hj)]
        exact Bool.false_ne_true
      rw [this]; rfl
    rw [implNet_eq hfu2 n hB, hv]
    simp only [Option.bind_some, Bool.not_true, Bool.false_eq_true, if_false, hset, within_eq, hc]
    rw [connect_mono q3 q4 n hn z.1 reach true q5]
    rfl
end AT

namespace AT
theorem vInts_self {fu : Nat} (hfu : 2097153 ≤ fu) (l : List Int) (h : l.length ≤ 2097152) : laws_vInts fu l l = some true := by
  unfold laws_vInts
  have h1 : ((l.length : Int) != (l.length : Int)) = false := by simp
  rw [h1, if_neg Bool.false_ne_true, eq_all0 l (laws_vInts_L1 fu l l) h (fun fk i => by rw [laws_vInts_L1]) fu (by omega)]
  rfl
end AT
