/- Do sites connect all pairs: the program's answer and the reference's are one. -/
import Derived.Test.YtiedecncmihbeaaQSites
import Derived.Test.YtiedecncmihbeaaH
set_option linter.unusedSimpArgs false
set_option linter.unusedVariables false
namespace AT
def tr (b : Bool) : Nat := if b then 1 else 0
structure RR (N : Nat) (seen : List Int) (rea : List Bool) : Prop where
  len : rea.length = N
  mem : ∀ k, k < N → rea[k]? = some (seen.any fun x => x == (k : Int))
  rng : ∀ v ∈ seen, 0 ≤ v ∧ v < (N : Int)
  cnt : seen.length = sumf tr rea
theorem RR.short {N : Nat} {seen : List Int} {rea : List Bool} (h : RR N seen rea) : seen.length ≤ N := by
  have := sumf_le tr 1 rea (fun x _ => by unfold tr; split <;> omega)
  have := h.len
  have := h.cnt
  omega
theorem RR.add {N : Nat} {seen : List Int} {rea : List Bool} (h : RR N seen rea) {k : Nat} (hk : k < N) (hn : (seen.any fun x => x == (k : Int)) = false) : RR N (seen ++ [(k : Int)]) (rea.set k true) := by
  have hl := h.len
  have hkl : k < rea.length := by omega
  have hm := h.mem k hk
  rw [List.getElem?_eq_getElem hkl, hn] at hm
  injection hm with hm
  refine ⟨by rw [List.length_set]; exact hl, fun j hj => ?_, fun v hv => ?_, ?_⟩
  · rw [List.any_append, List.any_cons, List.any_nil, Bool.or_false]
    by_cases e : k = j
    · subst e
      rw [List.getElem?_set_self hkl]
      simp
    · rw [List.getElem?_set_ne e, h.mem j hj]
      have : ((k : Int) == (j : Int)) = false := by simp; omega
      rw [this, Bool.or_false]
  · rcases List.mem_append.1 hv with hv | hv
    · exact h.rng v hv
    · rw [List.mem_singleton] at hv; subst hv; omega
  · have s := sumf_set tr true rea k hkl
    rw [hm] at s
    have c1 : tr true = 1 := rfl
    have c2 : tr false = 0 := rfl
    rw [c1, c2] at s
    have := h.cnt
    rw [List.length_append, List.length_singleton]; omega
theorem idx_app {l m : List Int} {j v : Int} (h : idx l j = some v) : idx (l ++ m) j = some v := by
  unfold idx at h ⊢
  split at h
  · rename_i h0
    rw [if_pos h0]
    obtain ⟨hl, -⟩ := List.getElem?_eq_some_iff.1 h
    rw [List.getElem?_append_left hl, h]
  · cases h
theorem inner_on {fu : Nat} (hfu : 2097153 ≤ fu) (n : Network) (h8 : n.Nodes.length ≤ 8) (sites : List Int) (hs : sites.length ≤ 2097152) (reach : Int) (far : List (List Int)) (i : Int) (y : List Int) (hy : y.length = n.Nodes.length) (e : Int) (hfar : idx far e = some y)
    (act : (i == 0) = true ∨ (sites.any fun x => x == e) = true) : ∀ (fk b : Nat) (seen : List Int) (rea : List Bool), b ≤ n.Nodes.length → n.Nodes.length - b < fk → RR n.Nodes.length seen rea → idx seen i = some e →
    ∃ seen' rea', spec_l19Connect_L4 fu n sites reach far i fk seen b = some (seen', (n.Nodes.length : Int)) ∧ impl_sitesConnect_L3 fu reach y fk rea seen b = some (rea', seen', (n.Nodes.length : Int)) ∧ RR n.Nodes.length seen' rea' ∧ seen.length ≤ seen'.length := by
  intro fk
  induction fk with
  | zero => intro b _ _ _ h; omega
  | succ fk ih =>
    intro b seen rea hb hk hR hi
    rw [spec_l19Connect_L4, impl_sitesConnect_L3]
    by_cases h : b < n.Nodes.length
    · have h' : (b : Int) < (n.Nodes.length : Int) := by omega
      have hyb : b < y.length := by omega
      have h2 : (b : Int) < (y.length : Int) := by omega
      have hsl := hR.short
      have hrb : idx rea (b : Int) = some (seen.any fun x => x == (b : Int)) := by rw [idx_nat]; exact hR.mem b h
      have e1 := l1Has_eq (fu := fu) seen (b : Int) (by omega) (by omega)
      have e2 := l1Has_eq (fu := fu) sites e (by omega) hs
      have e3 := idx_in hyb
      have hw : w64 ((b : Int) + 1) = ((b + 1 : Nat) : Int) := w64_inc h (by omega)
      have ha : app seen [(b : Int)] = some (seen ++ [(b : Int)]) := app_ok (by simp; omega)
      have hc : (if i == 0 then (some (seen.any fun x => x == (b : Int))).bind fun y2 => if !y2 then (some (decide (0 ≤ y[b]) && decide (y[b] ≤ reach))).bind fun y3 => some y3 else some false
        else (some (sites.any fun x => x == e)).bind fun y4 => if y4 then (some (seen.any fun x => x == (b : Int))).bind fun y5 => if !y5 then (some (decide (0 ≤ y[b]) && decide (y[b] ≤ reach))).bind fun y6 => some y6 else some false else some false) = some (!(seen.any fun x => x == (b : Int)) && (decide (0 ≤ y[b]) && decide (y[b] ≤ reach))) := by
        generalize (decide (0 ≤ y[b]) && decide (y[b] ≤ reach)) = c1
        generalize (seen.any fun x => x == (b : Int)) = c2
        rcases act with q | q
        · rw [q]; cases c2 <;> rfl
        · rw [q]; cases (i == 0) <;> cases c2 <;> rfl
      simp only [h', h2, decide_true, if_true, e1, e2, e3, hi, hfar, hrb, ha, hw, l1In_eq, within_eq, Option.bind_some] at hc ⊢
      rw [hc]
      clear hc hw
      have hd : (if (decide (0 ≤ y[b]) && decide (y[b] ≤ reach)) = true then some (!(seen.any fun x => x == (b : Int))) else some false) = some (!(seen.any fun x => x == (b : Int)) && (decide (0 ≤ y[b]) && decide (y[b] ≤ reach))) := by
        generalize (decide (0 ≤ y[b]) && decide (y[b] ≤ reach)) = c1
        generalize (seen.any fun x => x == (b : Int)) = c2
        cases c1 <;> cases c2 <;> rfl
      rw [hd]
      clear hd
      simp only [Option.bind_some, Int.toNat_natCast]
      cases hx : (!(seen.any fun x => x == (b : Int)) && (decide (0 ≤ y[b]) && decide (y[b] ≤ reach)))
      · simp only [Bool.false_eq_true, if_false]
        exact ih (b + 1) seen rea h (by omega) hR hi
      · simp only [if_true]
        rw [Bool.and_eq_true, Bool.not_eq_true'] at hx
        obtain ⟨s', r', g1, g2, g3, g4⟩ := ih (b + 1) (seen ++ [(b : Int)]) (rea.set b true) h (by omega) (hR.add h hx.1) (idx_app hi)
        rw [List.length_append, List.length_singleton] at g4
        exact ⟨s', r', g1, g2, g3, by omega⟩
    · obtain rfl : b = n.Nodes.length := by omega
      rw [if_neg (by simp), if_neg (by rw [hy]; simp)]
      exact ⟨seen, rea, rfl, rfl, hR, Nat.le_refl _⟩
theorem inner_off {fu : Nat} (hfu : 2097153 ≤ fu) (n : Network) (h8 : n.Nodes.length ≤ 8) (sites : List Int) (hs : sites.length ≤ 2097152) (reach : Int) (far : List (List Int)) (i : Int) (e : Int) (h0 : (i == 0) = false) (hn : (sites.any fun x => x == e) = false)
    (seen : List Int) (hi : idx seen i = some e) : ∀ (fk b : Nat), b ≤ n.Nodes.length → n.Nodes.length - b < fk → spec_l19Connect_L4 fu n sites reach far i fk seen b = some (seen, (n.Nodes.length : Int)) := by
  intro fk
  induction fk with
  | zero => intro b _ h; omega
  | succ fk ih =>
    intro b hb hk
    rw [spec_l19Connect_L4]
    by_cases h : b < n.Nodes.length
    · have h' : (b : Int) < (n.Nodes.length : Int) := by omega
      have e2 := l1Has_eq (fu := fu) sites e (by omega) hs
      simp only [h', h0, hi, e2, hn, decide_true, if_true, Bool.false_eq_true, if_false, Option.bind_some]
      rw [w64_inc h (by omega)]
      exact ih (b + 1) h (by omega)
    · obtain rfl : b = n.Nodes.length := by omega
      rw [if_neg (by simp)]
structure FarOk (fu : Nat) (n : Network) (far : List (List Int)) (m : Nat) : Prop where
  len : far.length = m
  each : ∀ a : Nat, a < m → ∃ y, idx far (a : Int) = some y ∧ impl_lengthsFrom fu n a = some y ∧ y.length = n.Nodes.length
theorem outer {fu : Nat} (hfu : 2097153 ≤ fu) (n : Network) (h8 : n.Nodes.length ≤ 8) (sites : List Int) (hs : sites.length ≤ 2097152) (reach : Int) (far : List (List Int)) (hF : FarOk fu n far n.Nodes.length) :
    ∀ (fk i : Nat) (seen : List Int) (rea : List Bool), i ≤ seen.length → n.Nodes.length - i < fk → RR n.Nodes.length seen rea →
    ∃ seen' rea' k', spec_l19Connect_L3 fu n sites reach far fk seen i = some (seen', k') ∧ impl_sitesConnect_L2 fu n sites reach fk i rea seen = some (k', rea', seen') ∧ RR n.Nodes.length seen' rea' := by
  intro fk
  induction fk with
  | zero => intro i _ _ _ h; omega
  | succ fk ih =>
    intro i seen rea hi hk hR
    have hsl := hR.short
    rw [spec_l19Connect_L3, impl_sitesConnect_L2]
    by_cases h : i < seen.length
    · have h' : (i : Int) < (seen.length : Int) := by omega
      have hv := hR.rng _ (List.getElem_mem h)
      have hix := idx_in h
      generalize seen[i] = e at hv hix
      obtain ⟨a, rfl⟩ : ∃ a : Nat, e = (a : Int) := ⟨e.toNat, by omega⟩
      obtain ⟨y, y1, y2, y3⟩ := hF.each a (by omega)
      have e2 := containsI_eq (fu := fu) sites (a : Int) (by omega) hs
      have hw : w64 ((i : Int) + 1) = ((i + 1 : Nat) : Int) := w64_inc h (by omega)
      have h0 : ((0 : Nat) : Int) = 0 := rfl
      rw [if_pos (decide_eq_true h'), if_pos (decide_eq_true h'), hix, hw]
      clear hw
      simp only [Option.bind_some, e2, y2]
      have hc : (if decide ((i : Int) > 0) then some (!(sites.any fun x => x == (a : Int))) else some false) = some (!((i : Int) == 0) && !(sites.any fun x => x == (a : Int))) := by
        by_cases hi0 : i = 0
        · subst hi0; rfl
        · have q1 : decide ((i : Int) > 0) = true := by simp; omega
          have q2 : ((i : Int) == 0) = false := by simp; omega
          rw [q1, q2]; rfl
      rw [hc, Option.bind_some]
      clear hc
      cases hx : (!((i : Int) == 0) && !(sites.any fun x => x == (a : Int)))
      · obtain ⟨s', r', g1, g2, g3, g4⟩ := inner_on hfu n h8 sites hs reach far i y y3 a y1 (by
          revert hx
          cases ((i : Int) == 0)
          · cases (sites.any fun x => x == (a : Int))
            · intro h; cases h
            · intro _; exact .inr rfl
          · intro _; exact .inl rfl) fu 0 seen rea (by omega) (by omega) hR hix
        rw [h0] at g1 g2
        simp only [Bool.false_eq_true, if_false, g1, g2, Option.bind_some]
        exact ih (i + 1) s' r' (by omega) (by omega) g3
      · rw [Bool.and_eq_true, Bool.not_eq_true', Bool.not_eq_true'] at hx
        have g := inner_off hfu n h8 sites hs reach far i a hx.1 hx.2 seen hix fu 0 (by omega) (by omega)
        rw [h0] at g
        simp only [if_true, g, Option.bind_some]
        exact ih (i + 1) seen rea h (by omega) hR
    · obtain rfl : i = seen.length := by omega
      rw [if_neg (by simp), if_neg (by simp)]
      exact ⟨seen, rea, _, rfl, rfl, hR⟩
theorem last_both {fu : Nat} (hfu : 2097153 ≤ fu) (n : Network) (h8 : n.Nodes.length ≤ 8) (far : List (List Int)) (a : Int) (y : List Int) (hy : y.length = n.Nodes.length) (hfar : idx far a = some y) (seen : List Int) (rea : List Bool) (hR : RR n.Nodes.length seen rea) :
    ∀ (fk b : Nat), b ≤ n.Nodes.length → n.Nodes.length - b < fk → ∃ o, spec_l19Connect_L5 fu n far seen a fk b = some o ∧ impl_sitesConnect_L4 fu rea y fk b = some o ∧ (o = .ret false ∨ o = .next (n.Nodes.length : Int)) := by
  intro fk
  induction fk with
  | zero => intro b _ h; omega
  | succ fk ih =>
    intro b hb hk
    rw [spec_l19Connect_L5, impl_sitesConnect_L4]
    by_cases h : b < n.Nodes.length
    · have h' : (b : Int) < (n.Nodes.length : Int) := by omega
      have hyb : b < y.length := by omega
      have h2 : (b : Int) < (y.length : Int) := by omega
      have hsl := hR.short
      have hrb : idx rea (b : Int) = some (seen.any fun x => x == (b : Int)) := by rw [idx_nat]; exact hR.mem b h
      have e1 := l1Has_eq (fu := fu) seen (b : Int) (by omega) (by omega)
      have e3 := idx_in hyb
      simp only [h', h2, decide_true, if_true, hfar, e1, e3, hrb, Option.bind_some]
      have hd : (if decide (y[b] ≥ 0) then some (!(seen.any fun x => x == (b : Int))) else some false) = some (decide (y[b] ≥ 0) && !(seen.any fun x => x == (b : Int))) := by
        cases decide (y[b] ≥ 0) <;> rfl
      rw [hd, Option.bind_some]
      cases (decide (y[b] ≥ 0) && !(seen.any fun x => x == (b : Int)))
      · simp only [Bool.false_eq_true, if_false]
        rw [w64_inc h (by omega)]
        exact ih (b + 1) h (by omega)
      · exact ⟨_, rfl, rfl, .inl rfl⟩
    · obtain rfl : b = n.Nodes.length := by omega
      rw [if_neg (by simp), if_neg (by rw [hy]; simp)]
      exact ⟨_, rfl, rfl, .inr rfl⟩
theorem nodes_both {fu : Nat} (hfu : 2097153 ≤ fu) (n : Network) (h8 : n.Nodes.length ≤ 8) (sites : List Int) (hs : sites.length ≤ 2097152) (reach : Int) (far : List (List Int)) (hF : FarOk fu n far n.Nodes.length) :
    ∀ (fk a : Nat), a ≤ n.Nodes.length → n.Nodes.length - a < fk → ∃ o, spec_l19Connect_L2 fu n sites reach far fk a = some o ∧ impl_sitesConnect_L1 fu n sites reach fk a = some o := by
  intro fk
  induction fk with
  | zero => intro a _ h; omega
  | succ fk ih =>
    intro a ha hk
    rw [spec_l19Connect_L2, impl_sitesConnect_L1]
    by_cases h : a < n.Nodes.length
    · have h' : (a : Int) < (n.Nodes.length : Int) := by omega
      have hal : a < (List.replicate n.Nodes.length false).length := by simpa using h
      have hR : RR n.Nodes.length [(a : Int)] ((List.replicate n.Nodes.length false).set a true) := by
        have hz : ∀ m, sumf tr (List.replicate m false) = 0 := fun m => by
          have := sumf_le tr 0 (List.replicate m false) (fun x hx => by rw [(List.mem_replicate.1 hx).2]; exact Nat.le_refl _)
          omega
        refine ⟨by simp, fun k hk => ?_, fun v hv => ?_, ?_⟩
        · rw [List.any_cons, List.any_nil, Bool.or_false]
          by_cases e : a = k
          · subst e
            rw [List.getElem?_set_self hal]
            simp
          · have : ((a : Int) == (k : Int)) = false := by simp; omega
            rw [List.getElem?_set_ne e, this, List.getElem?_replicate, if_pos hk]
        · rw [List.mem_singleton] at hv; subst hv; omega
        · have s := sumf_set tr true (List.replicate n.Nodes.length false) a hal
          rw [List.getElem_replicate, hz] at s
          exact s.symm
      obtain ⟨y, y1, y2, y3⟩ := hF.each a h
      obtain ⟨s', r', k', g1, g2, g3⟩ := outer hfu n h8 sites hs reach far hF fu 0 _ _ (by simp) (by omega) hR
      obtain ⟨o, o1, o2, o3⟩ := last_both hfu n h8 far a y y3 y1 s' r' g3 fu 0 (by omega) (by omega)
      have h0 : ((0 : Nat) : Int) = 0 := rfl
      rw [h0] at g1 g2 o1 o2
      have hw : w64 ((a : Int) + 1) = ((a + 1 : Nat) : Int) := w64_inc h (by omega)
      have hx : idx (List.replicate n.Nodes.length false) (a : Int) = some false := by rw [idx_in hal, List.getElem_replicate]
      simp only [h', decide_true, if_true, mk_len (α := Bool) (z := false) (show n.Nodes.length ≤ 2097152 by omega), hx, Option.bind_some, Int.toNat_natCast, g1, g2, y2, o1, o2, hw]
      clear hw
      rcases o3 with rfl | rfl
      · exact ⟨_, rfl, rfl⟩
      · exact ih (a + 1) h (by omega)
    · obtain rfl : a = n.Nodes.length := by omega
      rw [if_neg (by simp), if_neg (by simp)]
      exact ⟨_, rfl, rfl⟩
theorem far_loop {fu : Nat} (hfu : 2097153 ≤ fu) (n : Network) (hn : NetF n) : ∀ (fk a : Nat) (far : List (List Int)), a ≤ n.Nodes.length → n.Nodes.length - a < fk → FarOk fu n far a →
    ∃ far', spec_l19Connect_L1 fu n fk far a = some (far', (n.Nodes.length : Int)) ∧ FarOk fu n far' n.Nodes.length := by
  have h8 := hn.hi
  intro fk
  induction fk with
  | zero => intro a _ _ h; omega
  | succ fk ih =>
    intro a far ha hk hF
    have hl := hF.len
    rw [spec_l19Connect_L1]
    by_cases h : a < n.Nodes.length
    · have h' : (a : Int) < (n.Nodes.length : Int) := by omega
      obtain ⟨y, y1, y2, y3⟩ := from_both hfu n hn h
      have happ : app far [y] = some (far ++ [y]) := by unfold app; rw [if_pos (by simp; omega)]
      rw [if_pos (decide_eq_true h'), y2, Option.bind_some, happ, Option.bind_some, w64_inc h (by omega)]
      refine ih (a + 1) (far ++ [y]) h (by omega) ⟨by simp; omega, fun k hk => ?_⟩
      by_cases e : k = a
      · subst e
        exact ⟨y, by rw [idx_nat, ← hl, List.getElem?_concat_length], y1, y3⟩
      · obtain ⟨z, z1, z2, z3⟩ := hF.each k (by omega)
        refine ⟨z, ?_, z2, z3⟩
        rw [idx_nat] at z1 ⊢
        rw [List.getElem?_append_left (by omega), z1]
    · obtain rfl : a = n.Nodes.length := by omega
      rw [if_neg (by simp)]
      exact ⟨far, rfl, hF⟩
theorem connect_both {fu : Nat} (hfu : 2097153 ≤ fu) (n : Network) (hn : NetF n) (sites : List Int) (hs : sites.length ≤ 2097152) (reach : Int) : ∃ c, spec_l19Connect fu n sites reach = some c ∧ impl_sitesConnect fu n sites reach = some c := by
  have h8 := hn.hi
  obtain ⟨far, f1, f2⟩ := far_loop hfu n hn fu 0 [] (by omega) (by omega) ⟨rfl, fun a ha => by omega⟩
  obtain ⟨o, o1, o2⟩ := nodes_both hfu n h8 sites hs reach far f2 fu 0 (by omega) (by omega)
  have h0 : ((0 : Nat) : Int) = 0 := rfl
  rw [h0] at f1 o1 o2
  unfold spec_l19Connect impl_sitesConnect
  rw [f1, Option.bind_some, o1, o2]
  cases o with
  | ret r => exact ⟨_, rfl, rfl⟩
  | next z => exact ⟨_, rfl, rfl⟩
end AT
