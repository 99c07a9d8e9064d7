/- BillOf, plainly: what is added to the tally is added to the bill. -/
import Derived.Test.YtokhhjepjbhhpaaGreatQTally0
import Derived.Test.YtokhhjepjbhhpaaGreatQRNod
import Derived.Test.YtokhhjepjbhhpaaGreatQFrag0
set_option linter.unusedSimpArgs false
set_option linter.unusedVariables false
namespace AT
/-! ### Items put where they belong, as the reference does it -/
theorem before_key {a b : Item} (fu : Nat) (ha0 : 0 ≤ a.Node) (ha : a.Node ≤ 7) (hb0 : 0 ≤ b.Node) (hb : b.Node ≤ 7) : spec_l19Before fu a b = some (decide (key a < key b)) := by
  rw [before_eq]
  congr 1
  rw [Bool.eq_iff_iff, itLt_iff ha0 ha hb0 hb, decide_eq_true_eq]
theorem place_loop {fu : Nat} (l : List Item) (x : Item) (hx0 : 0 ≤ x.Node) (hx : x.Node ≤ 7) (hl : ∀ e ∈ l, 0 ≤ e.Node ∧ e.Node ≤ 7) (hn : l.length ≤ 1000) : ∀ (fk i : Nat), i ≤ l.length → l.length - i < fk →
    spec_l19Add_L1 fu l x fk i = some ((i + (l.drop i).findIdx (fun e => decide (¬ key e < key x)) : Nat) : Int) := by
  intro fk
  induction fk with
  | zero => intro i _ h; omega
  | succ fk ih =>
    intro i hi hk
    rw [spec_l19Add_L1]
    by_cases h : i < l.length
    · have hd : l.drop i = l[i] :: l.drop (i + 1) := (List.getElem_cons_drop h).symm
      have he := hl l[i] (List.getElem_mem h)
      have hc : ((i : Int) < l.length) = True := by simp; omega
      have hi1 : w64 ((i : Int) + 1) = ((i + 1 : Nat) : Int) := w64_inc h (by omega)
      rw [hd, List.findIdx_cons]
      simp only [hc, decide_true, if_true, idx_in h, Option.bind_some, hi1, before_key fu he.1 he.2 hx0 hx]
      clear hi1
      generalize key l[i] = kl
      generalize hkx : key x = kx at ih ⊢
      by_cases hp : kl < kx
      · simp only [hp, decide_true, if_true, not_true_eq_false, decide_false, cond_false]
        rw [ih (i + 1) h (by omega)]
        congr 2; omega
      · simp [hp]
    · obtain rfl : i = l.length := by omega
      rw [if_neg (by simp), List.drop_length]
      simp
theorem add_ins {fu : Nat} (hfu : 2097153 ≤ fu) (l : List Item) (x : Item) (hx : itOk x = true) (hl : ∀ e ∈ l, 0 ≤ e.Node ∧ e.Node ≤ 7) (hc : ∀ e ∈ l, 0 ≤ e.Count ∧ e.Count ≤ 1000000) (hn : l.length ≤ 1000) : spec_l19Add fu l x = some (ins x l) := by
  have hx2 := itOk_iff.1 hx
  unfold spec_l19Add
  have h0 : (x.Count == 0) = false := by simp; omega
  have hz := place_loop (fu := fu) l x hx2.2.1.1 hx2.2.1.2 hl hn fu 0 (by omega) (by omega)
  rw [Int.ofNat_zero, List.drop_zero, Nat.zero_add] at hz
  rw [ins_at]
  have hzl : (l.findIdx fun e => decide (¬ key e < key x)) ≤ l.length := List.findIdx_le_length
  have hnot : ∀ (h : (l.findIdx fun e => decide (¬ key e < key x)) < l.length), ¬ key l[l.findIdx fun e => decide (¬ key e < key x)] < key x := fun h => by
    have := List.findIdx_getElem (w := h)
    simpa using this
  generalize (l.findIdx fun e => decide (¬ key e < key x)) = z at hz hzl hnot
  have hs : sub l 0 (z : Int) = some (l.take z) := by unfold sub; rw [if_pos (by omega)]; simp
  have hs2 : sub l (z : Int) (l.length : Int) = some (l.drop z) := by unfold sub; rw [if_pos (by omega)]; simp
  have ha : app ([] : List Item) (l.take z) = some (l.take z) := by unfold app; rw [if_pos (by simp; omega)]; rfl
  have hb : ∀ (y : Item), app (l.take z) [y] = some (l.take z ++ [y]) := fun y => by unfold app; rw [if_pos (by simp; omega)]
  have hd : ∀ (y : Item) (r : List Item), r.length ≤ 1000 → app (l.take z ++ [y]) r = some (l.take z ++ [y] ++ r) := fun y r hr => by unfold app; rw [if_pos (by simp; omega)]
  simp only [h0, Bool.false_eq_true, if_false, hz, Option.bind_some, hs, hs2, ha, hb]
  by_cases h : z < l.length
  · have hzz : ((z : Int) < l.length) = True := by simp; omega
    have hdr : l.drop z = l[z] :: l.drop (z + 1) := (List.getElem_cons_drop h).symm
    have he := hl l[z] (List.getElem_mem h)
    have hcc := hc l[z] (List.getElem_mem h)
    have hne := hnot h
    have hn64 : (l.length : Int) ≤ 9223372036854775807 := by omega
    have hs3 : sub l ((z + 1 : Nat) : Int) (l.length : Int) = some (l.drop (z + 1)) := by unfold sub; rw [if_pos (by omega)]; simp
    have hq1 : -9223372036854775808 ≤ x.Count + l[z].Count ∧ x.Count + l[z].Count ≤ 9223372036854775807 := by omega
    have hw : w64 (x.Count + l[z].Count) = x.Count + l[z].Count := w64_in hq1.1 hq1.2
    have hi1 : w64 ((z : Int) + 1) = ((z + 1 : Nat) : Int) := w64_inc h hn64
    simp only [hzz, decide_true, if_true, idx_in h, Option.bind_some, before_key fu hx2.2.1.1 hx2.2.1.2 he.1 he.2, hi1, hs3, hw, hb]
    clear hi1 hw hd hb hs hs2 hs3
    have hd : ∀ (y : Item) (r : List Item), r.length ≤ 1000 → app (l.take z ++ [y]) r = some (l.take z ++ [y] ++ r) := fun y r hr => by unfold app; rw [if_pos (by simp; omega)]
    rw [hdr]
    by_cases hk : key l[z] = key x
    · simp only [hk, Int.lt_irrefl, decide_false, Bool.not_false, if_true]
      rw [hd _ _ (by simp; omega)]
      simp
    · have : key x < key l[z] := by
        rcases Int.lt_trichotomy (key l[z]) (key x) with q | q | q
        · exact absurd q hne
        · exact absurd q hk
        · exact q
      simp only [this, hk, decide_true, Bool.not_true, Bool.false_eq_true, if_false]
      rw [hd _ _ (by simp; omega)]
      simp
  · have hzz : ((z : Int) < l.length) = False := by simp; omega
    have hdr : l.drop z = [] := List.drop_of_length_le (by omega)
    simp only [hzz, decide_false, Bool.false_eq_true, if_false]
    rw [hdr, hd _ _ (by simp)]
    simp
theorem SP_node : ∀ {l : List Item} {lo : Int}, SP lo l → ∀ e ∈ l, 0 ≤ e.Node ∧ e.Node ≤ 7 := by
  intro l
  induction l with
  | nil => intro lo _ e he; cases he
  | cons x l ih =>
    intro lo h e he
    rcases List.mem_cons.1 he with rfl | he
    · exact ⟨h.2.1, h.2.2.1⟩
    · exact ih h.2.2.2.2 e he
theorem SP_count : ∀ {l : List Item} {lo : Int}, SP lo l → ∀ e ∈ l, 1 ≤ e.Count := by
  intro l
  induction l with
  | nil => intro lo _ e he; cases he
  | cons x l ih =>
    intro lo h e he
    rcases List.mem_cons.1 he with rfl | he
    · exact h.2.2.2.1
    · exact ih h.2.2.2.2 e he
/-- The tally and the bill tell the same; N items have come in. -/
structure BR (t : IA 40) (o : List Item) (N : Nat) : Prop where
  sp : SP 8 o
  eq : ∀ k : Int, 0 ≤ k → k < 40 → tv t k = cnt o k
  out : ∀ k : Int, ¬ (8 ≤ k ∧ k < 40) → cnt o k = 0
  le : ∀ k : Int, cnt o k ≤ 100 * (N : Int)
  len : o.length ≤ N
theorem cnt_mem : ∀ {l : List Item} {lo : Int}, SP lo l → ∀ e ∈ l, e.Count ≤ cnt l (key e)
  | [], lo, _, e, he => by cases he
  | x :: l, lo, h, e, he => by
    have hn := cnt_nonneg (key e) h.2.2.2.2
    have h4 := h.2.2.2.1
    show e.Count ≤ (if key x = key e then x.Count else 0) + cnt l (key e)
    rcases List.mem_cons.1 he with rfl | he
    · rw [if_pos rfl]; omega
    · have := cnt_mem h.2.2.2.2 e he
      split <;> omega
theorem BR.count {t : IA 40} {o : List Item} {N : Nat} (h : BR t o N) (hN : N ≤ 500) : ∀ e ∈ o, 0 ≤ e.Count ∧ e.Count ≤ 1000000 := fun e he => by
  have h1 := SP_count h.sp e he
  have h2 := cnt_mem h.sp e he
  have h3 := h.le (key e)
  omega
theorem BR.zero : BR (⟨[0, 0, 0, 0, 0, 0, 0, 0, 0, 0, 0, 0, 0, 0, 0, 0, 0, 0, 0, 0, 0, 0, 0, 0, 0, 0, 0, 0, 0, 0, 0, 0, 0, 0, 0, 0, 0, 0, 0, 0], rfl⟩ : IA 40) [] 0 :=
  ⟨trivial, fun k _ _ => by rw [zero_tv]; rfl, fun k _ => rfl, fun k => by show (0 : Int) ≤ _; omega, by simp⟩
theorem BR.mono {t : IA 40} {o : List Item} {N N' : Nat} (h : BR t o N) (hN : N ≤ N') : BR t o N' :=
  ⟨h.sp, h.eq, h.out, fun k => by have := h.le k; omega, by have := h.len; omega⟩
/-- One more item, on both sides. -/
theorem BR.step {fu : Nat} (hfu : 2097153 ≤ fu) {t : IA 40} {o : List Item} {N : Nat} (h : BR t o N) (hN : N ≤ 400) {kind node c : Int} (hk : 1 ≤ kind ∧ kind ≤ 4) (hn : 0 ≤ node ∧ node ≤ 7) (hc : 1 ≤ c ∧ c ≤ 100) :
    spec_l19Add fu o ⟨kind, node, c⟩ = some (ins ⟨kind, node, c⟩ o) ∧ t.get (0 + kind.toNat * 8 + node.toNat * 1) = some (tv t (kind * 8 + node)) ∧
    ∃ t', t.put (0 + kind.toNat * 8 + node.toNat * 1) (w64 (tv t (kind * 8 + node) + c)) = some t' ∧ BR t' (ins ⟨kind, node, c⟩ o) (N + 1) := by
  have hkk : 0 + kind.toNat * 8 + node.toNat * 1 < 40 := by omega
  have hkey : ((0 + kind.toNat * 8 + node.toNat * 1 : Nat) : Int) = kind * 8 + node := by omega
  have hg := tv_get t hkk
  rw [hkey] at hg
  have hx : itOk ⟨kind, node, c⟩ = true := itOk_iff.2 ⟨⟨hk.1, hk.2⟩, ⟨hn.1, hn.2⟩, hc.1, by show c ≤ 1000; omega⟩
  have hkx : key ⟨kind, node, c⟩ = kind * 8 + node := rfl
  have hv := h.eq (kind * 8 + node) (by omega) (by omega)
  have hle := h.le (kind * 8 + node)
  have hge := cnt_nonneg (kind * 8 + node) h.sp
  have hw : w64 (tv t (kind * 8 + node) + c) = tv t (kind * 8 + node) + c := w64_in (by omega) (by omega)
  obtain ⟨t', p1, p2⟩ := tv_put t hkk (tv t (kind * 8 + node) + c)
  rw [hkey] at p2
  refine ⟨add_ins hfu o _ hx (SP_node h.sp) (h.count (by omega)) (by have := h.len; omega), hg, t', by rw [hw]; exact p1, ?_⟩
  clear hw p1
  refine ⟨SP_ins hn.1 hn.2 hc.1 h.sp (by rw [hkx]; omega), fun k k0 k4 => ?_, fun k hk' => ?_, fun k => ?_, ?_⟩
  · rw [p2 k k0, cnt_ins, hkx]
    by_cases e : k = kind * 8 + node
    · subst e; rw [if_pos rfl, if_pos rfl, hv]
    · rw [if_neg e, if_neg (Ne.symm e), h.eq k k0 k4, Int.add_zero]
  · rw [cnt_ins, hkx, h.out k hk', if_neg (by omega)]; rfl
  · rw [cnt_ins, hkx]
    have := h.le k
    split
    · show cnt o k + c ≤ _; omega
    · omega
  · have := ins_len ⟨kind, node, c⟩ o
    have := h.len
    omega
theorem BR.same {fu : Nat} {o : List Item} (kind node : Int) : spec_l19Add fu o ⟨kind, node, 0⟩ = some o := by
  unfold spec_l19Add; rfl
theorem chk5 {k : Nat} (h : k < 5) : chk (k : Int) 5 = some k := by rw [chk_in (by omega) (by omega), Int.toNat_natCast]
/-! ### The nodes where signals are regenerated -/
theorem regen_loop {fu fu' : Nat} (n : Network) (r : Route) (reach : Int) (hr1 : reach ≤ 20000) {ns : List Int} (b : Bool) (hn : NetF n) (hl : r.Fibers.length ≤ 2097152) (ho : rnodes n r = some ns) : ∀ (fk i : Nat) (out : List Int) (s : Int), i ≤ r.Fibers.length → r.Fibers.length - i < fk → out.length ≤ i → 0 ≤ s → s ≤ 40000 → (∀ v ∈ out, v ∈ ns) →
    ∃ o, spec_RegeneratorsFor_L1 fu n r reach ns fk out s i = some o ∧ impl_regenerators_L1 fu' n r reach (ns, b) fk out s i = some o ∧ match o with | .ret z => z = ([], false) | .next z => z.1.length ≤ r.Fibers.length ∧ ∀ v ∈ z.1, v ∈ ns := by
  intro fk
  induction fk with
  | zero => intro i _ _ _ h; omega
  | succ fk ih =>
    intro i out s hi hk hol h0 h1 hm
    rw [spec_RegeneratorsFor_L1, impl_regenerators_L1]
    by_cases h : i < r.Fibers.length
    · obtain ⟨e1, e2⟩ := fib_at ho h
      have hf := hn.each _ e2
      obtain ⟨f, hfe⟩ : ∃ f, f = gd n.Fibers r.Fibers[i].toNat f0 := ⟨_, rfl⟩
      rw [← hfe] at e1 hf
      have hns := rnodes_len ho
      have hd : decide ((i : Int) < (r.Fibers.length : Int)) = true := by simpa using h
      simp only [hd, if_true, idx_in h, Option.bind_some, e1, idx_in (show i < ns.length by omega)]
      by_cases hg : f.Length > reach
      · simp only [hg, decide_true, if_true]
        exact ⟨_, rfl, rfl, rfl⟩
      · simp only [hg, decide_false, Bool.false_eq_true, if_false]
        rw [w64_in (n := s + f.Length) (by omega) (by omega), w64_in (n := 0 + f.Length) (by omega) (by omega), app_ok (by simp; omega), w64_inc h (by omega)]
        by_cases hs : s + f.Length > reach
        · simp only [hs, decide_true, if_true, Option.bind_some]
          exact ih (i + 1) _ _ h (by omega) (by simp; omega) (by omega) (by omega) (fun v hv => by
            rcases List.mem_append.1 hv with hv | hv
            · exact hm v hv
            · rw [List.mem_singleton] at hv; subst hv; exact List.getElem_mem _)
        · simp only [hs, decide_false, Bool.false_eq_true, if_false]
          exact ih (i + 1) _ _ h (by omega) (by omega) (by omega) (by omega) hm
    · obtain rfl : i = r.Fibers.length := by omega
      rw [if_neg (by simp), if_neg (by simp)]
      exact ⟨_, rfl, rfl, hol, hm⟩
theorem regen_both {fu : Nat} (hfu : 2097153 ≤ fu) (n : Network) (r : Route) (reach : Int) (h1 : 1 ≤ reach) (h2 : reach ≤ 20000) (hB : NetB n) (hv : netOk n = true) (hr : r.Fibers.length ≤ 2097152) {ns : List Int} (ho : rnodes n r = some ns) :
    ∃ w, spec_RegeneratorsFor fu n r reach = some w ∧ impl_regenerators fu n r reach = some w ∧ (w.2 = false ∨ (w.2 = true ∧ w.1.length ≤ 7 ∧ ∀ v ∈ w.1, 0 ≤ v ∧ v ≤ 7)) := by
  have hn := netF hv
  have hfa := rnodes_facts hn ho
  have hhi := hn.hi
  unfold spec_RegeneratorsFor
  have hc' : (decide (1 ≤ reach) && decide (reach ≤ 20000)) = true := by simp; omega
  obtain ⟨o, g1, g2, g3⟩ := regen_loop (fu := fu) (fu' := fu) n r reach h2 true hn hr ho fu 0 [] 0 (by omega) (by omega) (by simp) (by omega) (by omega) (by simp)
  rw [show ((0 : Nat) : Int) = 0 from rfl] at g1 g2
  simp only [l4Good_eq hfu n r hB hr, hv, ho, Option.isSome_some, Bool.and_true, Bool.not_true, Bool.false_eq_true, if_false, if_true, l1In_eq, hc', Option.bind_some, l4Nodes_eq hfu n r hB hr ho, impl_regenerators, visited_eq hfu n r hB.2 hB.1.1 hr, g1, g2]
  cases o with
  | ret z => subst g3; exact ⟨_, rfl, rfl, .inl rfl⟩
  | next z => exact ⟨_, rfl, rfl, .inr ⟨rfl, by have := hfa.2.2.2.1; have := g3.1; simp only; omega, fun v hv' => by have := hfa.2.1 v (g3.2 v hv'); omega⟩⟩
theorem end_both {fu : Nat} (hfu : 2097153 ≤ fu) (n : Network) (r : Route) (hB : NetB n) (hv : netOk n = true) (hr : r.Fibers.length ≤ 2097152) {ns : List Int} (ho : rnodes n r = some ns) : ∃ e, spec_l4End fu n r = some e ∧ impl_endOf fu n r = some e ∧ 0 ≤ e ∧ e ≤ 7 := by
  have hn := netF hv
  have hfa := rnodes_facts hn ho
  have hhi := hn.hi
  have hl := rnodes_len ho
  unfold spec_l4End impl_endOf
  have hi : idx ns (w64 ((ns.length : Int) - 1)) = some (gd ns (ns.length - 1) 0) := by rw [w64_dec (by omega) (by omega), idx_gd 0 (by omega)]
  have hm := hfa.2.1 _ (gd_mem (l := ns) (i := ns.length - 1) 0 (by omega))
  simp only [l4Nodes_eq hfu n r hB hr ho, visited_eq hfu n r hB.2 hB.1.1 hr, ho, Option.bind_some, hi]
  exact ⟨_, rfl, rfl, by omega, by omega⟩
end AT
