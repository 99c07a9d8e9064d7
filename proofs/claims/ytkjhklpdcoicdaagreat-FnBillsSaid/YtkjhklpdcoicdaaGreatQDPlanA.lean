/- BillOf, plainly: what is added to the tally is added to the bill. -/
import Derived.Test.YtkjhklpdcoicdaaGreatQFrag0
import Derived.Test.YtkjhklpdcoicdaaGreatOk
import Derived.Test.YtkjhklpdcoicdaaGreatAtL
set_option linter.unusedSimpArgs false
set_option linter.unusedVariables false
namespace AT
theorem before_key {a b : Item} (fu : Nat) (ha0 : 0 ≤ a.Node) (ha : a.Node ≤ 7) (hb0 : 0 ≤ b.Node) (hb : b.Node ≤ 7) : spec_l19Before fu a b = some (decide (key a < key b)) := by
  rw [before_eq]
  congr 1
  rw [Bool.eq_iff_iff, itLt_iff ha0 ha hb0 hb, decide_eq_true_eq]
theorem place_loop {fu : Nat} (l : List Item) (x : Item) (hx0 : 0 ≤ x.Node) (hx : x.Node ≤ 7) (hl : ∀ e ∈ l, 0 ≤ e.Node ∧ e.Node ≤ 7) (hn : l.length ≤ 1000) : ∀ (fk i : Nat), i ≤ l.length → l.length - i < fk →
    spec_l19Add_L1 fu l x fk i = some ((i + (l.drop i).findIdx (fun e => decide (¬ key e < key x)) : Nat) : Int) := by
  intro fk
  induction fk with
  | zero => intro i _ h; omega
  | succ fk ih =>
    intro i hi hk
    rw [spec_l19Add_L1]
    by_cases h : i < l.length
    · have hd : l.drop i = l[i] :: l.drop (i + 1) := (List.getElem_cons_drop h).symm
      have he := hl l[i] (List.getElem_mem h)
      have hc : ((i : Int) < l.length) = True := by simp; omega
      have hi1 : w64 ((i : Int) + 1) = ((i + 1 : Nat) : Int) := w64_inc h (by omega)
      rw [hd, List.findIdx_cons]
      simp only [hc, decide_true, if_true, idx_in h, Option.bind_some, hi1, before_key fu he.1 he.2 hx0 hx]
      clear hi1
      generalize key l[i] = kl
      generalize hkx : key x = kx at ih ⊢
      by_cases hp : kl < kx
      · simp only [hp, decide_true, if_true, not_true_eq_false, decide_false, cond_false]
        rw [ih (i + 1) h (by omega)]
        congr 2; omega
      · simp [hp]
    · obtain rfl : i = l.length := by omega
      rw [if_neg (by simp), List.drop_length]
      simp
theorem add_ins {fu : Nat} (hfu : 2097153 ≤ fu) (l : List Item) (x : Item) (hx : itOk x = true) (hl : ∀ e ∈ l, 0 ≤ e.Node ∧ e.Node ≤ 7) (hc : ∀ e ∈ l, 0 ≤ e.Count ∧ e.Count ≤ 1000000) (hn : l.length ≤ 1000) : spec_l19Add fu l x = some (ins x l) := by
  have hx2 := itOk_iff.1 hx
  unfold spec_l19Add
  have h0 : (x.Count == 0) = false := by simp; omega
  have hz := place_loop (fu := fu) l x hx2.2.1.1 hx2.2.1.2 hl hn fu 0 (by omega) (by omega)
  rw [Int.ofNat_zero, List.drop_zero, Nat.zero_add] at hz
  rw [ins_at]
  have hzl : (l.findIdx fun e => decide (¬ key e < key x)) ≤ l.length := List.findIdx_le_length
  have hnot : ∀ (h : (l.findIdx fun e => decide (¬ key e < key x)) < l.length), ¬ key l[l.findIdx fun e => decide (¬ key e < key x)] < key x := fun h => by
    have := List.findIdx_getElem (w := h)
    simpa using this
  generalize (l.findIdx fun e => decide (¬ key e < key x)) = z at hz hzl hnot
  have hs : sub l 0 (z : Int) = some (l.take z) := by unfold sub; rw [if_pos (by omega)]; simp
  have hs2 : sub l (z : Int) (l.length : Int) = some (l.drop z) := by unfold sub; rw [if_pos (by omega)]; simp
  have ha : app ([] : List Item) (l.take z) = some (l.take z) := by unfold app; rw [if_pos (by simp; omega)]; rfl
  have hb : ∀ (y : Item), app (l.take z) [y] = some (l.take z ++ [y]) := fun y => by unfold app; rw [if_pos (by simp; omega)]
  have hd : ∀ (y : Item) (r : List Item), r.length ≤ 1000 → app (l.take z ++ [y]) r = some (l.take z ++ [y] ++ r) := fun y r hr => by unfold app; rw [if_pos (by simp; omega)]
  simp only [h0, Bool.false_eq_true, if_false, hz, Option.bind_some, hs, hs2, ha, hb]
  by_cases h : z < l.length
  · have hzz : ((z : Int) < l.length) = True := by simp; omega
    have hdr : l.drop z = l[z] :: l.drop (z + 1) := (List.getElem_cons_drop h).symm
    have he := hl l[z] (List.getElem_mem h)
    have hcc := hc l[z] (List.getElem_mem h)
    have hne := hnot h
    have hn64 : (l.length : Int) ≤ 9223372036854775807 := by omega
    have hs3 : sub l ((z + 1 : Nat) : Int) (l.length : Int) = some (l.drop (z + 1)) := by unfold sub; rw [if_pos (by omega)]; simp
    have hq1 : -9223372036854775808 ≤ x.Count + l[z].Count ∧ x.Count + l[z].Count ≤ 9223372036854775807 := by omega
    have hw : w64 (x.Count + l[z].Count) = x.Count + l[z].Count := w64_in hq1.1 hq1.2
    have hi1 : w64 ((z : Int) + 1) = ((z + 1 : Nat) : Int) := w64_inc h hn64
    simp only [hzz, decide_true, if_true, idx_in h, Option.bind_some, before_key fu hx2.2.1.1 hx2.2.1.2 he.1 he.2, hi1, hs3, hw, hb]
    clear hi1 hw hd hb hs hs2 hs3
    have hd : ∀ (y : Item) (r : List Item), r.length ≤ 1000 → app (l.take z ++ [y]) r = some (l.take z ++ [y] ++ r) := fun y r hr => by unfold app; rw [if_pos (by simp; omega)]
    rw [hdr]
    by_cases hk : key l[z] = key x
    · simp only [hk, Int.lt_irrefl, decide_false, Bool.not_false, if_true]
      rw [hd _ _ (by simp; omega)]
      simp
    · have : key x < key l[z] := by
        rcases Int.lt_trichotomy (key l[z]) (key x) with q | q | q
        · exact absurd q hne
        · exact absurd q hk
        · exact q
      simp only [this, hk, decide_true, Bool.not_true, Bool.false_eq_true, if_false]
      rw [hd _ _ (by simp; omega)]
      simp
  · have hzz : ((z : Int) < l.length) = False := by simp; omega
    have hdr : l.drop z = [] := List.drop_of_length_le (by omega)
    simp only [hzz, decide_false, Bool.false_eq_true, if_false]
    rw [hdr, hd _ _ (by simp)]
    simp
theorem SP_node : ∀ {l : List Item} {lo : Int}, SP lo l → ∀ e ∈ l, 0 ≤ e.Node ∧ e.Node ≤ 7 := by
  intro l
  induction l with
  | nil => intro lo _ e he; cases he
  | cons x l ih =>
    intro lo h e he
    rcases List.mem_cons.1 he with rfl | he
    · exact ⟨h.2.1, h.2.2.1⟩
    · exact ih h.2.2.2.2 e he
theorem SP_count : ∀ {l : List Item} {lo : Int}, SP lo l → ∀ e ∈ l, 1 ≤ e.Count := by
  intro l
  induction l with
  | nil => intro lo _ e he; cases he
  | cons x l ih =>
    intro lo h e he
    rcases List.mem_cons.1 he with rfl | he
    · exact h.2.2.2.1
    · exact ih h.2.2.2.2 e he
structure BR (t : IA 40) (o : List Item) (N : Nat) : Prop where
  sp : SP 8 o
  eq : ∀ k : Int, 0 ≤ k → k < 40 → tv t k = cnt o k
  out : ∀ k : Int, ¬ (8 ≤ k ∧ k < 40) → cnt o k = 0
  le : ∀ k : Int, cnt o k ≤ 100 * (N : Int)
  len : o.length ≤ N
theorem cnt_mem : ∀ {l : List Item} {lo : Int}, SP lo l → ∀ e ∈ l, e.Count ≤ cnt l (key e)
  | [], lo, _, e, he => by cases he
  | x :: l, lo, h, e, he => by
    have hn := cnt_nonneg (key e) h.2.2.2.2
    have h4 := h.2.2.2.1
    show e.Count ≤ (if key x = key e then x.Count else 0) + cnt l (key e)
    rcases List.mem_cons.1 he with rfl | he
    · rw [if_pos rfl]; omega
    · have := cnt_mem h.2.2.2.2 e he
      split <;> omega
theorem BR.count {t : IA 40} {o : List Item} {N : Nat} (h : BR t o N) (hN : N ≤ 500) : ∀ e ∈ o, 0 ≤ e.Count ∧ e.Count ≤ 1000000 := fun e he => by
  have h1 := SP_count h.sp e he
  have h2 := cnt_mem h.sp e he
  have h3 := h.le (key e)
  omega
theorem BR.zero : BR (⟨[0, 0, 0, 0, 0, 0, 0, 0, 0, 0, 0, 0, 0, 0, 0, 0, 0, 0, 0, 0, 0, 0, 0, 0, 0, 0, 0, 0, 0, 0, 0, 0, 0, 0, 0, 0, 0, 0, 0, 0], rfl⟩ : IA 40) [] 0 :=
  ⟨trivial, fun k _ _ => by rw [zero_tv]; rfl, fun k _ => rfl, fun k => by show (0 : Int) ≤ _; omega, by simp⟩
theorem BR.mono {t : IA 40} {o : List Item} {N N' : Nat} (h : BR t o N) (hN : N ≤ N') : BR t o N' :=
  ⟨h.sp, h.eq, h.out, fun k => by have := h.le k; omega, by have := h.len; omega⟩
theorem BR.step {fu : Nat} (hfu : 2097153 ≤ fu) {t : IA 40} {o : List Item} {N : Nat} (h : BR t o N) (hN : N ≤ 400) {kind node c : Int} (hk : 1 ≤ kind ∧ kind ≤ 4) (hn : 0 ≤ node ∧ node ≤ 7) (hc : 1 ≤ c ∧ c ≤ 100) :
    spec_l19Add fu o ⟨kind, node, c⟩ = some (ins ⟨kind, node, c⟩ o) ∧ t.get (0 + kind.toNat * 8 + node.toNat * 1) = some (tv t (kind * 8 + node)) ∧
    ∃ t', t.put (0 + kind.toNat * 8 + node.toNat * 1) (w64 (tv t (kind * 8 + node) + c)) = some t' ∧ BR t' (ins ⟨kind, node, c⟩ o) (N + 1) := by
  have hkk : 0 + kind.toNat * 8 + node.toNat * 1 < 40 := by omega
  have hkey : ((0 + kind.toNat * 8 + node.toNat * 1 : Nat) : Int) = kind * 8 + node := by omega
  have hg := tv_get t hkk
  rw [hkey] at hg
  have hx : itOk ⟨kind, node, c⟩ = true := itOk_iff.2 ⟨⟨hk.1, hk.2⟩, ⟨hn.1, hn.2⟩, hc.1, by show c ≤ 1000; omega⟩
  have hkx : key ⟨kind, node, c⟩ = kind * 8 + node := rfl
  have hv := h.eq (kind * 8 + node) (by omega) (by omega)
  have hle := h.le (kind * 8 + node)
  have hge := cnt_nonneg (kind * 8 + node) h.sp
  have hw : w64 (tv t (kind * 8 + node) + c) = tv t (kind * 8 + node) + c := w64_in (by omega) (by omega)
  obtain ⟨t', p1, p2⟩ := tv_put t hkk (tv t (kind * 8 + node) + c)
  rw [hkey] at p2
  refine ⟨add_ins hfu o _ hx (SP_node h.sp) (h.count (by omega)) (by have := h.len; omega), hg, t', by rw [hw]; exact p1, ?_⟩
  clear hw p1
  refine ⟨SP_ins hn.1 hn.2 hc.1 h.sp (by rw [hkx]; omega), fun k k0 k4 => ?_, fun k hk' => ?_, fun k => ?_, ?_⟩
  · rw [p2 k k0, cnt_ins, hkx]
    by_cases e : k = kind * 8 + node
    · subst e; rw [if_pos rfl, if_pos rfl, hv]
    · rw [if_neg e, if_neg (Ne.symm e), h.eq k k0 k4, Int.add_zero]
  · rw [cnt_ins, hkx, h.out k hk', if_neg (by omega)]; rfl
  · rw [cnt_ins, hkx]
    have := h.le k
    split
    · show cnt o k + c ≤ _; omega
    · omega
  · have := ins_len ⟨kind, node, c⟩ o
    have := h.len
    omega
theorem BR.same {fu : Nat} {o : List Item} (kind node : Int) : spec_l19Add fu o ⟨kind, node, 0⟩ = some o := by
  unfold spec_l19Add; rfl
theorem regen_loop {fu fu' : Nat} (n : Network) (r : Route) (reach : Int) (hr1 : reach ≤ 20000) {ns : List Int} (b : Bool) (hn : NetF n) (hl : r.Fibers.length ≤ 2097152) (ho : rnodes n r = some ns) : ∀ (fk i : Nat) (out : List Int) (s : Int), i ≤ r.Fibers.length → r.Fibers.length - i < fk → out.length ≤ i → 0 ≤ s → s ≤ 40000 → (∀ v ∈ out, v ∈ ns) →
    ∃ o, spec_RegeneratorsFor_L1 fu n r reach ns fk out s i = some o ∧ impl_regenerators_L1 fu' n r reach (ns, b) fk out s i = some o ∧ match o with | .ret z => z = ([], false) | .next z => z.1.length ≤ r.Fibers.length ∧ ∀ v ∈ z.1, v ∈ ns := by
  intro fk
  induction fk with
  | zero => intro i _ _ _ h; omega
  | succ fk ih =>
    intro i out s hi hk hol h0 h1 hm
    rw [spec_RegeneratorsFor_L1, impl_regenerators_L1]
    by_cases h : i < r.Fibers.length
    · obtain ⟨e1, e2⟩ := fib_at ho h
      have hf := hn.each _ e2
      obtain ⟨f, hfe⟩ : ∃ f, f = gd n.Fibers r.Fibers[i].toNat f0 := ⟨_, rfl⟩
      rw [← hfe] at e1 hf
      have hns := rnodes_len ho
      have hd : decide ((i : Int) < (r.Fibers.length : Int)) = true := by simpa using h
      simp only [hd, if_true, idx_in h, Option.bind_some, e1, idx_in (show i < ns.length by omega)]
      by_cases hg : f.Length > reach
      · simp only [hg, decide_true, if_true]
        exact ⟨_, rfl, rfl, rfl⟩
      · simp only [hg, decide_false, Bool.false_eq_true, if_false]
        rw [w64_in (n := s + f.Length) (by omega) (by omega), w64_in (n := 0 + f.Length) (by omega) (by omega), app_ok (by simp; omega), w64_inc h (by omega)]
        by_cases hs : s + f.Length > reach
        · simp only [hs, decide_true, if_true, Option.bind_some]
          exact ih (i + 1) _ _ h (by omega) (by simp; omega) (by omega) (by omega) (fun v hv => by
            rcases List.mem_append.1 hv with hv | hv
            · exact hm v hv
            · rw [List.mem_singleton] at hv; subst hv; exact List.getElem_mem _)
        · simp only [hs, decide_false, Bool.false_eq_true, if_false]
          exact ih (i + 1) _ _ h (by omega) (by omega) (by omega) (by omega) hm
    · obtain rfl : i = r.Fibers.length := by omega
      rw [if_neg (by simp), if_neg (by simp)]
      exact ⟨_, rfl, rfl, hol, hm⟩
theorem regen_both {fu : Nat} (hfu : 2097153 ≤ fu) (n : Network) (r : Route) (reach : Int) (h1 : 1 ≤ reach) (h2 : reach ≤ 20000) (hB : NetB n) (hv : netOk n = true) (hr : r.Fibers.length ≤ 2097152) {ns : List Int} (ho : rnodes n r = some ns) :
    ∃ w, spec_RegeneratorsFor fu n r reach = some w ∧ impl_regenerators fu n r reach = some w ∧ (w.2 = false ∨ (w.2 = true ∧ w.1.length ≤ 7 ∧ ∀ v ∈ w.1, 0 ≤ v ∧ v ≤ 7)) := by
  have hn := netF hv
  have hfa := rnodes_facts hn ho
  have hhi := hn.hi
  unfold spec_RegeneratorsFor
  have hc' : (decide (1 ≤ reach) && decide (reach ≤ 20000)) = true := by simp; omega
  obtain ⟨o, g1, g2, g3⟩ := regen_loop (fu := fu) (fu' := fu) n r reach h2 true hn hr ho fu 0 [] 0 (by omega) (by omega) (by simp) (by omega) (by omega) (by simp)
  rw [show ((0 : Nat) : Int) = 0 from rfl] at g1 g2
  simp only [l4Good_eq hfu n r hB hr, hv, ho, Option.isSome_some, Bool.and_true, Bool.not_true, Bool.false_eq_true, if_false, if_true, l1In_eq, hc', Option.bind_some, l4Nodes_eq hfu n r hB hr ho, impl_regenerators, visited_eq hfu n r hB.2 hB.1.1 hr, g1, g2]
  cases o with
  | ret z => subst g3; exact ⟨_, rfl, rfl, .inl rfl⟩
  | next z => exact ⟨_, rfl, rfl, .inr ⟨rfl, by have := hfa.2.2.2.1; have := g3.1; simp only; omega, fun v hv' => by have := hfa.2.1 v (g3.2 v hv'); omega⟩⟩
theorem end_both {fu : Nat} (hfu : 2097153 ≤ fu) (n : Network) (r : Route) (hB : NetB n) (hv : netOk n = true) (hr : r.Fibers.length ≤ 2097152) {ns : List Int} (ho : rnodes n r = some ns) : ∃ e, spec_l4End fu n r = some e ∧ impl_endOf fu n r = some e ∧ 0 ≤ e ∧ e ≤ 7 := by
  have hn := netF hv
  have hfa := rnodes_facts hn ho
  have hhi := hn.hi
  have hl := rnodes_len ho
  unfold spec_l4End impl_endOf
  have hi : idx ns (w64 ((ns.length : Int) - 1)) = some (gd ns (ns.length - 1) 0) := by rw [w64_dec (by omega) (by omega), idx_gd 0 (by omega)]
  have hm := hfa.2.1 _ (gd_mem (l := ns) (i := ns.length - 1) 0 (by omega))
  simp only [l4Nodes_eq hfu n r hB hr ho, visited_eq hfu n r hB.2 hB.1.1 hr, ho, Option.bind_some, hi]
  exact ⟨_, rfl, rfl, by omega, by omega⟩
end AT

namespace AT
theorem merge_loop {fu : Nat} (hfu : 2097153 ≤ fu) (b : List Item) (hb : ∀ x ∈ b, itOk x = true) (hn : b.length ≤ 32) : ∀ (fk i : Nat) (o : List Item), i ≤ b.length → b.length - i < fk → SP 8 o → (∀ e ∈ o, e.Count ≤ 1000 + 1000 * (i : Int)) → o.length ≤ 32 + i →
    ∃ o', spec_MergeBills_L1 fu b fk o i = some (o', (b.length : Int)) ∧ SP 8 o' ∧ o'.length ≤ 32 + b.length ∧ ∀ k, cnt o' k = cnt o k + cnt (b.drop i) k := by
  intro fk
  induction fk with
  | zero => intro i _ _ h; omega
  | succ fk ih =>
    intro i o hi hk hs hc hl
    rw [spec_MergeBills_L1]
    by_cases h : i < b.length
    · have hd : b.drop i = b[i] :: b.drop (i + 1) := (List.getElem_cons_drop h).symm
      have hx := hb b[i] (List.getElem_mem h)
      have hcc : ((i : Int) < b.length) = True := by simp; omega
      have hi1 : w64 ((i : Int) + 1) = ((i + 1 : Nat) : Int) := w64_inc h (by omega)
      simp only [hcc, decide_true, if_true, idx_in h, Option.bind_some, hi1]
      clear hi1
      rw [hd]
      generalize b[i] = x at hx hd
      have hx2 := itOk_iff.1 hx
      rw [add_ins hfu o x hx (SP_node hs) (fun e he => ⟨by have := SP_count hs e he; omega, by have := hc e he; omega⟩) (by omega)]
      simp only [Option.bind_some]
      have hlen := ins_len x o
      obtain ⟨o', g1, g2, g3, g4⟩ := ih (i + 1) (ins x o) h (by omega) (SP_ins hx2.2.1.1 hx2.2.1.2 hx2.2.2.1 hs (by unfold key; omega)) (fun e he => by
        have := ins_count x (m := 1000 + 1000 * (i : Int)) o hc hx2.2.2.2 (by omega) e he
        omega) (by omega)
      refine ⟨o', g1, g2, g3, fun k => ?_⟩
      rw [g4 k, cnt_ins]
      show _ = cnt o k + ((if key x = k then x.Count else 0) + cnt (b.drop (i + 1)) k)
      omega
    · obtain rfl : i = b.length := by omega
      rw [if_neg (by simp), List.drop_length]
      exact ⟨o, rfl, hs, hl, fun k => by simp [cnt]⟩
where
  SP_node : ∀ {l : List Item} {lo : Int}, SP lo l → ∀ e ∈ l, 0 ≤ e.Node ∧ e.Node ≤ 7 := by
    intro l
    induction l with
    | nil => intro lo _ e he; cases he
    | cons x l ih =>
      intro lo h e he
      rcases List.mem_cons.1 he with rfl | he
      · exact ⟨h.2.1, h.2.2.1⟩
      · exact ih h.2.2.2.2 e he
  SP_count : ∀ {l : List Item} {lo : Int}, SP lo l → ∀ e ∈ l, 1 ≤ e.Count := by
    intro l
    induction l with
    | nil => intro lo _ e he; cases he
    | cons x l ih =>
      intro lo h e he
      rcases List.mem_cons.1 he with rfl | he
      · exact h.2.2.2.1
      · exact ih h.2.2.2.2 e he
  ins_count (x : Item) {m : Int} : ∀ (l : List Item), (∀ e ∈ l, e.Count ≤ m) → x.Count ≤ 1000 → 1000 ≤ m → ∀ e ∈ ins x l, e.Count ≤ m + 1000 := by
    intro l
    induction l with
    | nil =>
      intro _ hx hm e he
      unfold ins at he
      rw [List.mem_singleton] at he; subst he; omega
    | cons y l ih =>
      intro h hx hm e he
      have hy := h y (by simp)
      unfold ins at he
      split at he
      · rcases List.mem_cons.1 he with rfl | he
        · omega
        · exact ih (fun z hz => h z (by simp [hz])) hx hm e he
      · split at he
        · rcases List.mem_cons.1 he with rfl | he
          · simp only; omega
          · have := h e (by simp [he]); omega
        · rcases List.mem_cons.1 he with rfl | he
          · omega
          · have := h e he; omega
theorem merge_both {fu : Nat} (hfu : 2097153 ≤ fu) {x0 x1 : List Item} (l0 : x0.length ≤ 2097152) (l1 : x1.length ≤ 2097152) : ∃ w, spec_MergeBills fu x0 x1 = some w ∧ impl_MergeBills fu x0 x1 = some w ∧ w.1.length ≤ 2097152 ∧ (w.2 = true → billOk x0 = true ∧ billOk x1 = true ∧ billOk w.1 = true ∧ ∀ k, cnt w.1 k = cnt x0 k + cnt x1 k) := by
  unfold spec_MergeBills impl_MergeBills
  rw [l19Bill_eq x0 (by omega) l0, l19Bill_eq x1 (by omega) l1, isBill_eq x0 (by omega) l0, isBill_eq x1 (by omega) l1]
  simp only [Option.bind_some]
  cases h0 : billOk x0
  · exact ⟨_, rfl, rfl, by simp, by simp⟩
  cases h1 : billOk x1
  · exact ⟨_, rfl, rfl, by simp, by simp⟩
  obtain ⟨o0, s0, n0⟩ := billOk_iff.1 h0
  obtain ⟨o1, s1, n1⟩ := billOk_iff.1 h1
  have ha : app ([] : List Item) x0 = some x0 := by unfold app; rw [if_pos (by simp; omega)]; rfl
  obtain ⟨m, m1, m2, m3, m4⟩ := merge_loop hfu x1 o1 n1 fu 0 x0 (by omega) (by omega) s0 (fun e he => by have := itOk_iff.1 (o0 e he); omega) (by omega)
  rw [Int.ofNat_zero] at m1
  obtain ⟨t1, a1, a2⟩ := add_eq hfu x0 1 (.inl rfl) o0 n0 _ (fun k _ _ => by rw [zero_tv]; omega)
  obtain ⟨t2, a3, a4⟩ := add_eq hfu x1 1 (.inl rfl) o1 n1 t1 (fun k k0 k4 => by
    rw [a2 k k0 k4, zero_tv]
    have := cnt_le k o0
    omega)
  obtain ⟨o, a5, a6⟩ := bill_eq hfu t2
  have hf : ∀ k : Int, 0 ≤ k → k < 40 → tv t2 k = cnt x0 k + cnt x1 k := fun k k0 k4 => by
    rw [a4 k k0 k4, a2 k k0 k4, zero_tv]; omega
  have he : o = m := by
    refine uniq _ _ 8 a5.sp m2 fun k => ?_
    rw [a5.c k, m4 k, List.drop_zero]
    have c0 := (cnt_le k o0).1
    have c1 := (cnt_le k o1).1
    by_cases hk : 8 ≤ k ∧ k < 40
    · rw [hf k (by omega) hk.2]
      by_cases hp : 0 < cnt x0 k + cnt x1 k
      · rw [if_pos ⟨hk.1, hk.2, hp⟩]
      · rw [if_neg (fun h => hp h.2.2)]; omega
    · have hz : cnt x0 k = 0 ∧ cnt x1 k = 0 := by
        by_cases h8 : 8 ≤ k
        · exact ⟨cnt_hi o0 (by omega), cnt_hi o1 (by omega)⟩
        · exact ⟨cnt_lo s0 (by omega), cnt_lo s1 (by omega)⟩
      rw [if_neg (fun h => hk ⟨h.1, h.2.1⟩)]; omega
  subst he
  have hlen := a5.len
  simp only [Bool.not_true, Bool.false_eq_true, if_false, Option.bind_some, ha, m1, a1, a3, a6]
  rw [l19Bill_eq o (by omega) (by omega)]
  simp only [Option.bind_some]
  cases hbo : billOk o
  · exact ⟨_, rfl, rfl, by simp, by simp⟩
  · refine ⟨_, rfl, rfl, by simp only; omega, fun _ => ⟨by trivial, by trivial, hbo, fun k => ?_⟩⟩
    have := m4 k
    rw [List.drop_zero] at this
    exact this
end AT

namespace AT
def leftOf (s : List Item) (e : Item) : Option Item := if 0 < e.Count - cnt s (key e) then some ⟨e.Kind, e.Node, e.Count - cnt s (key e)⟩ else none
theorem left_key {s : List Item} {e x : Item} (h : leftOf s e = some x) : key x = key e ∧ x.Kind = e.Kind ∧ x.Node = e.Node ∧ x.Count = e.Count - cnt s (key e) ∧ 0 < e.Count - cnt s (key e) := by
  unfold leftOf at h
  split at h
  · rename_i hp
    injection h with h; subst h
    exact ⟨rfl, rfl, rfl, rfl, hp⟩
  · cases h
theorem SP_left (s : List Item) : ∀ {l : List Item} {lo : Int}, SP lo l → SP lo (l.filterMap (leftOf s))
  | [], _, _ => trivial
  | e :: l, lo, h => by
    rw [List.filterMap_cons]
    cases hl : leftOf s e with
    | none => exact (SP_left s h.2.2.2.2).mono (by have := h.1; omega)
    | some x =>
      obtain ⟨p1, p2, p3, p4, p5⟩ := left_key hl
      exact ⟨by rw [p1]; exact h.1, by rw [p3]; exact h.2.1, by rw [p3]; exact h.2.2.1, by omega, by rw [p1]; exact SP_left s h.2.2.2.2⟩
theorem cnt_left (s : List Item) : ∀ {l : List Item} {lo : Int} (k : Int), SP lo l → cnt (l.filterMap (leftOf s)) k = if 0 < cnt l k ∧ 0 < cnt l k - cnt s k then cnt l k - cnt s k else 0
  | [], _, k, _ => by simp [cnt]
  | e :: l, lo, k, h => by
    rw [List.filterMap_cons, show cnt (e :: l) k = (if key e = k then e.Count else 0) + cnt l k from rfl]
    have ih := cnt_left s k h.2.2.2.2
    by_cases ek : key e = k
    · have h0 : cnt l k = 0 := cnt_lo h.2.2.2.2 (by omega)
      have h4 := h.2.2.2.1
      have hf : cnt (l.filterMap (leftOf s)) k = 0 := cnt_lo (SP_left s h.2.2.2.2) (by omega)
      rw [if_pos ek, h0, Int.add_zero]
      cases hl : leftOf s e with
      | none =>
        unfold leftOf at hl
        split at hl
        · cases hl
        · rename_i hp
          rw [ek] at hp
          rw [if_neg (fun h => hp h.2)]; exact hf
      | some x =>
        obtain ⟨p1, p2, p3, p4, p5⟩ := left_key hl
        rw [ek] at p4 p5
        show (if key x = k then x.Count else 0) + cnt (l.filterMap (leftOf s)) k = _
        rw [if_pos (by rw [p1]; exact ek), hf, if_pos ⟨by omega, p5⟩, p4]; omega
    · rw [if_neg ek, Int.zero_add, ← ih]
      cases hl : leftOf s e with
      | none => rfl
      | some x =>
        obtain ⟨p1, -⟩ := left_key hl
        show (if key x = k then x.Count else 0) + cnt (l.filterMap (leftOf s)) k = _
        rw [if_neg (by rw [p1]; exact ek), Int.zero_add]
theorem left_ok (s : List Item) (hs : ∀ k, 0 ≤ cnt s k) {l : List Item} (hl : ∀ e ∈ l, itOk e = true) : ∀ e ∈ l.filterMap (leftOf s), itOk e = true := by
  intro x hx
  obtain ⟨e, he, hxe⟩ := List.mem_filterMap.1 hx
  obtain ⟨p1, p2, p3, p4, p5⟩ := left_key hxe
  have h := itOk_iff.1 (hl e he)
  have := hs (key e)
  exact itOk_iff.2 ⟨by rw [p2]; exact h.1, by rw [p3]; exact h.2.1, by omega, by omega⟩
theorem stock_loop {fu : Nat} (s : List Item) (e : Item) (he : itOk e = true) (hs : ∀ x ∈ s, itOk x = true) (hn : s.length ≤ 32) : ∀ (fk i : Nat) (m : Int), i ≤ s.length → s.length - i < fk → -1000000 + 1000 * (s.length - i : Int) ≤ m → m ≤ 1000 →
    spec_MissingItems_L2 fu s e fk i m = some ((s.length : Int), m - cnt (s.drop i) (key e)) := by
  intro fk
  induction fk with
  | zero => intro i _ _ h; omega
  | succ fk ih =>
    intro i m hi hk hm hm2
    rw [spec_MissingItems_L2]
    by_cases h : i < s.length
    · have hd : s.drop i = s[i] :: s.drop (i + 1) := (List.getElem_cons_drop h).symm
      have hx := itOk_iff.1 (hs s[i] (List.getElem_mem h))
      have h2 := itOk_iff.1 he
      rw [hd]
      have hc : ((i : Int) < s.length) = True := by simp; omega
      simp only [hc, decide_true, if_true, idx_in h, Option.bind_some]
      generalize s[i] = x at hx hd
      rw [show cnt (x :: s.drop (i + 1)) (key e) = (if key x = key e then x.Count else 0) + cnt (s.drop (i + 1)) (key e) from rfl]
      have hkey : key x = key e ↔ x.Kind = e.Kind ∧ x.Node = e.Node := by unfold key; omega
      have hw : w64 (m - x.Count) = m - x.Count := w64_in (by omega) (by omega)
      have hi1 : w64 ((i : Int) + 1) = ((i + 1 : Nat) : Int) := w64_inc h (by omega)
      simp only [hw, hi1]
      clear hw hi1
      by_cases k1 : x.Kind = e.Kind
      · by_cases k2 : x.Node = e.Node
        · rw [if_pos (by simpa using k1), Option.bind_some, if_pos (by simpa using k2), if_pos (hkey.2 ⟨k1, k2⟩), ih (i + 1) _ h (by omega) (by omega) (by omega)]
          congr 2; omega
        · rw [if_pos (by simpa using k1), Option.bind_some, if_neg (by simpa using k2), if_neg (fun hh => k2 (hkey.1 hh).2), ih (i + 1) _ h (by omega) (by omega) (by omega), Int.zero_add]
      · rw [if_neg (by simpa using k1), Option.bind_some, if_neg Bool.false_ne_true, if_neg (fun hh => k1 (hkey.1 hh).1), ih (i + 1) _ h (by omega) (by omega) (by omega), Int.zero_add]
    · obtain rfl : i = s.length := by omega
      rw [if_neg (by simp), List.drop_length]
      simp [cnt]
theorem need_loop {fu : Nat} (hfu : 2097153 ≤ fu) (l s : List Item) (hl : ∀ x ∈ l, itOk x = true) (hs : ∀ x ∈ s, itOk x = true) (hn : l.length ≤ 32) (hn2 : s.length ≤ 32) : ∀ (fk i : Nat) (o : List Item), o.length ≤ i → i ≤ l.length → l.length - i < fk →
    spec_MissingItems_L1 fu l s fk o i = some (o ++ (l.drop i).filterMap (leftOf s), (l.length : Int)) := by
  intro fk
  induction fk with
  | zero => intro i _ _ _ h; omega
  | succ fk ih =>
    intro i o ho hi hk
    rw [spec_MissingItems_L1]
    by_cases h : i < l.length
    · have hd : l.drop i = l[i] :: l.drop (i + 1) := (List.getElem_cons_drop h).symm
      have hx := hl l[i] (List.getElem_mem h)
      rw [hd, List.filterMap_cons]
      have hc : ((i : Int) < l.length) = True := by simp; omega
      simp only [hc, decide_true, if_true, idx_in h, Option.bind_some]
      generalize l[i] = x at hx hd
      have hx2 := itOk_iff.1 hx
      have hst := stock_loop (fu := fu) s x hx hs hn2 fu 0 x.Count (by omega) (by omega) (by omega) (by omega)
      rw [Int.ofNat_zero, List.drop_zero] at hst
      have ha : ∀ z : Item, app o [z] = some (o ++ [z]) := fun z => by unfold app; rw [if_pos (by simp; omega)]
      have hi1 : w64 ((i : Int) + 1) = ((i + 1 : Nat) : Int) := w64_inc h (by omega)
      simp only [hst, Option.bind_some, ha, hi1]
      clear hi1
      unfold leftOf
      by_cases hp : 0 < x.Count - cnt s (key x)
      · have hp' : x.Count - cnt s (key x) > 0 := hp
        simp only [hp, hp', decide_true, if_true]
        rw [ih (i + 1) _ (by simp; omega) h (by omega), List.append_assoc]; rfl
      · have hp' : ¬ x.Count - cnt s (key x) > 0 := hp
        simp only [hp, hp', decide_false, Bool.false_eq_true, if_false]
        rw [ih (i + 1) _ (by omega) h (by omega)]; rfl
    · obtain rfl : i = l.length := by omega
      rw [if_neg (by simp), List.drop_length]
      simp
theorem missing_both {fu : Nat} (hfu : 2097153 ≤ fu) {x0 x1 : List Item} (l0 : x0.length ≤ 2097152) (l1 : x1.length ≤ 2097152) : ∃ w, spec_MissingItems fu x0 x1 = some w ∧ impl_MissingItems fu x0 x1 = some w ∧ w.1.length ≤ 2097152 ∧ (w.2 = true → billOk x0 = true ∧ billOk x1 = true ∧ billOk w.1 = true ∧ w.1 = x0.filterMap (leftOf x1)) := by
  unfold spec_MissingItems impl_MissingItems
  rw [l19Bill_eq x0 (by omega) l0, l19Bill_eq x1 (by omega) l1, isBill_eq x0 (by omega) l0, isBill_eq x1 (by omega) l1]
  simp only [Option.bind_some]
  cases h0 : billOk x0
  · exact ⟨_, rfl, rfl, by simp, by simp⟩
  cases h1 : billOk x1
  · exact ⟨_, rfl, rfl, by simp, by simp⟩
  obtain ⟨o0, s0, n0⟩ := billOk_iff.1 h0
  obtain ⟨o1, s1, n1⟩ := billOk_iff.1 h1
  have hsp := need_loop hfu x0 x1 o0 o1 n0 n1 fu 0 [] (by simp) (by omega) (by omega)
  rw [Int.ofNat_zero, List.drop_zero, List.nil_append] at hsp
  obtain ⟨t1, a1, a2⟩ := add_eq hfu x0 1 (.inl rfl) o0 n0 _ (fun k _ _ => by rw [zero_tv]; omega)
  obtain ⟨t2, a3, a4⟩ := add_eq hfu x1 (-1) (.inr rfl) o1 n1 t1 (fun k k0 k4 => by
    rw [a2 k k0 k4, zero_tv]
    have := cnt_le k o0
    omega)
  obtain ⟨o, a5, a6⟩ := bill_eq hfu t2
  have hf : ∀ k : Int, 0 ≤ k → k < 40 → tv t2 k = cnt x0 k - cnt x1 k := fun k k0 k4 => by
    rw [a4 k k0 k4, a2 k k0 k4, zero_tv]; omega
  have hcnn : ∀ k, 0 ≤ cnt x1 k := fun k => (cnt_le k o1).1
  have he : o = x0.filterMap (leftOf x1) := by
    refine uniq _ _ 8 a5.sp (SP_left x1 s0) fun k => ?_
    rw [a5.c k, cnt_left x1 k s0]
    by_cases hk : 8 ≤ k ∧ k < 40
    · rw [hf k (by omega) hk.2]
      have := hcnn k
      by_cases hp : 0 < cnt x0 k - cnt x1 k
      · rw [if_pos ⟨hk.1, hk.2, hp⟩, if_pos ⟨by omega, hp⟩]
      · rw [if_neg (fun h => hp h.2.2), if_neg (fun h => hp h.2)]
    · have hz : cnt x0 k = 0 := by
        by_cases h8 : 8 ≤ k
        · exact cnt_hi o0 (by omega)
        · exact cnt_lo s0 (by omega)
      rw [if_neg (fun h => hk ⟨h.1, h.2.1⟩), if_neg (fun h => by omega)]
  have hb : billOk o = true := by
    refine billOk_iff.2 ⟨?_, a5.sp, ?_⟩
    · rw [he]; exact left_ok x1 hcnn o0
    · have := a5.len; omega
  rw [hb] at a6
  have hlen := a5.len
  simp only [Bool.not_true, Bool.false_eq_true, if_false, Option.bind_some, hsp, a1, a3, a6, if_true]
  rw [he] at hlen hb ⊢
  exact ⟨_, rfl, rfl, by simp only; omega, fun _ => ⟨by trivial, by trivial, hb, rfl⟩⟩
end AT

namespace AT
def priceOk (p : Int) : Bool := decide (0 ≤ p) && decide (p ≤ 100000)
theorem contains_eq {fu : Nat} (l : List Int) (h : l.length < fu) (hn : l.length ≤ 2097152) : slices_ContainsFunc_int_int_of_CostOf_c1 fu l = some (l.any fun p => !priceOk p) := by
  unfold slices_ContainsFunc_int_int_of_CostOf_c1 slices_IndexFunc_int_int_of_CostOf_c1
  rw [scan_all (l := l) (G := slices_IndexFunc_int_int_of_CostOf_c1_L1 fu l) (fun p => !priceOk p) (fun i => (i : Int)) (by omega)
    (fun fk i hi => by rw [slices_IndexFunc_int_int_of_CostOf_c1_L1, if_pos (by simpa using hi), idx_in hi]; simp [impl_CostOf_c1, priceOk])
    (fun fk => by rw [slices_IndexFunc_int_int_of_CostOf_c1_L1, if_neg (by simp)]) fu h]
  cases l.any fun p => !priceOk p <;> simp [Out.on]
theorem price_of {e : Item} (h : itOk e = true) : ∃ p, idx [1, 7, 100, 3] (w64 (e.Kind - 1)) = some p ∧ w64 (e.Count * p) = cp e.Kind e.Count := by
  obtain ⟨⟨k1, k4⟩, -, c1, c2⟩ := itOk_iff.1 h
  have hw : w64 (e.Kind - 1) = e.Kind - 1 := w64_in (by omega) (by omega)
  rw [hw]
  clear hw
  have : e.Kind = 1 ∨ e.Kind = 2 ∨ e.Kind = 3 ∨ e.Kind = 4 := by omega
  unfold cp
  rcases this with q | q | q | q <;> rw [q]
  · refine ⟨1, rfl, ?_⟩
    rw [if_pos rfl, w64_in (by omega) (by omega)]; omega
  · refine ⟨7, rfl, ?_⟩
    rw [if_neg (by omega), if_pos rfl, w64_in (by omega) (by omega)]; omega
  · refine ⟨100, rfl, ?_⟩
    rw [if_neg (by omega), if_neg (by omega), if_pos rfl, w64_in (by omega) (by omega)]; omega
  · refine ⟨3, rfl, ?_⟩
    rw [if_neg (by omega), if_neg (by omega), if_neg (by omega), w64_in (by omega) (by omega)]; omega
theorem cost_loop {fu : Nat} (l : List Item) (hl : ∀ e ∈ l, itOk e = true) (hn : l.length ≤ 32) : ∀ (fk i : Nat) (s : Int), i ≤ l.length → l.length - i < fk → 0 ≤ s → s ≤ 100000 * (i : Int) →
    impl_CostOf_L1 fu l [1, 7, 100, 3] fk s i = some (s + tot cp (l.drop i), (l.length : Int)) := by
  intro fk
  induction fk with
  | zero => intro i _ _ h; omega
  | succ fk ih =>
    intro i s hi hk h0 h1
    rw [impl_CostOf_L1]
    by_cases h : i < l.length
    · have hd : l.drop i = l[i] :: l.drop (i + 1) := (List.getElem_cons_drop h).symm
      have h' : (i : Int) < (l.length : Int) := by omega
      have he := hl _ (List.getElem_mem h)
      rw [if_pos (decide_eq_true h'), idx_in h, hd, Option.bind_some, w64_inc h (by omega)]
      generalize l[i] = e at he
      obtain ⟨p, p1, p2⟩ := price_of he
      have hc := itOk_iff.1 he
      have b1 := cp_nonneg (k := e.Kind) (c := e.Count) (by omega)
      have b2 := cp_le (k := e.Kind) (c := e.Count) (by omega) hc.2.2.2
      have hw : w64 (s + cp e.Kind e.Count) = s + cp e.Kind e.Count := w64_in (by omega) (by omega)
      rw [p1, Option.bind_some, p2, hw, ih (i + 1) _ h (by omega) (by omega) (by omega)]
      show some (s + cp e.Kind e.Count + tot cp (l.drop (i + 1)), _) = some (s + (cp e.Kind e.Count + tot cp (l.drop (i + 1))), _)
      rw [Int.add_assoc]
    · obtain rfl : i = l.length := by omega
      rw [if_neg (by simp), List.drop_length]
      show some (s, _) = some (s + 0, _)
      rw [Int.add_zero]
theorem cost_eq {fu : Nat} (hfu : 2097153 ≤ fu) (l : List Item) (hl : l.length ≤ 2097152) : impl_CostOf fu l [1, 7, 100, 3] = some (if billOk l then (tot cp l, true) else (0, false)) := by
  unfold impl_CostOf
  rw [isBill_eq l (by omega) hl, contains_eq _ (by simp; omega) (by simp)]
  have e1 : ([1, 7, 100, 3].any fun p => !priceOk p) = false := by decide
  have e2 : ((([1, 7, 100, 3] : List Int).length : Int) != 4) = false := by decide
  rw [e1, e2]
  cases hb : billOk l
  · rfl
  · obtain ⟨o, -, n⟩ := billOk_iff.1 hb
    have := cost_loop (fu := fu) l o n fu 0 0 (by omega) (by omega) (by omega) (by omega)
    rw [List.drop_zero, Int.zero_add, show ((0 : Nat) : Int) = 0 from rfl] at this
    simp only [Bool.not_true, Bool.false_eq_true, if_false, Option.bind_some, this, if_true]
theorem tot_left {l s : List Item} (hs : ∀ k, 0 ≤ cnt s k) (hl : ∀ e ∈ l, itOk e = true) : tot cp (l.filterMap (leftOf s)) ≤ tot cp l ∧ tot cp l ≤ tot cp (l.filterMap (leftOf s)) + usedOf s l := by
  induction l with
  | nil => exact ⟨Int.le_refl _, Int.le_refl _⟩
  | cons e l ih =>
    obtain ⟨i1, i2⟩ := ih fun y hy => hl y (List.mem_cons_of_mem _ hy)
    have he := itOk_iff.1 (hl e (List.mem_cons_self ..))
    have hc := hs (key e)
    rw [List.filterMap_cons]
    show _ ≤ cp e.Kind e.Count + tot cp l ∧ cp e.Kind e.Count + tot cp l ≤ _ + (cp e.Kind (cnt s (key e)) + usedOf s l)
    have b0 := cp_nonneg (k := e.Kind) (c := e.Count) (by omega)
    cases hx : leftOf s e with
    | none =>
      have hle : e.Count ≤ cnt s (key e) := by
        unfold leftOf at hx
        split at hx
        · cases hx
        · omega
      have b1 := cp_mono (k := e.Kind) hle
      simp only
      omega
    | some x =>
      obtain ⟨-, q2, -, q4, q5⟩ := left_key hx
      have b1 := cp_mono (k := e.Kind) (a := e.Count - cnt s (key e)) (b := e.Count) (by omega)
      have b2 := cp_add e.Kind (e.Count - cnt s (key e)) (cnt s (key e))
      rw [show e.Count - cnt s (key e) + cnt s (key e) = e.Count by omega] at b2
      show cp x.Kind x.Count + tot cp (l.filterMap (leftOf s)) ≤ _ ∧ _ ≤ cp x.Kind x.Count + tot cp (l.filterMap (leftOf s)) + _
      rw [q2, q4]
      omega
end AT

namespace AT
theorem inner_loop {fu : Nat} (hfu : 2097153 ≤ fu) (w : List Int × Bool) (hw : w.1.length ≤ 7) (hv : ∀ v ∈ w.1, 0 ≤ v ∧ v ≤ 7) : ∀ (fk i : Nat) (o : List Item) (t : IA 40) (N : Nat), i ≤ w.1.length → w.1.length - i < fk → BR t o N → N ≤ 300 + i →
    ∃ z z' o' t', spec_BillOf_L2 fu w fk o i = some (o', z) ∧ impl_BillOf_L2 fu w fk i t = some (z', t') ∧ BR t' o' (N + (w.1.length - i)) ∧ tot endK o' = tot endK o := by
  intro fk
  induction fk with
  | zero => intro i _ _ _ _ h; omega
  | succ fk ih =>
    intro i o t N hi hk hB hN
    rw [spec_BillOf_L2, impl_BillOf_L2]
    by_cases h : i < w.1.length
    · have h' : (i : Int) < (w.1.length : Int) := by omega
      obtain ⟨v, hve⟩ : ∃ v, v = w.1[i] := ⟨_, rfl⟩
      have hv' := hv _ (List.getElem_mem h)
      rw [← hve] at hv'
      obtain ⟨s1, s2, t', s3, s4⟩ := BR.step hfu hB (by omega) (kind := 2) (node := v) (c := 1) (by omega) hv' (by omega)
      have c2 : chk 2 5 = some 2 := rfl
      have c3 : chk v 8 = some v.toNat := chk_in hv'.1 (by omega)
      have s2' : t.get (0 + 2 * 8 + v.toNat * 1) = some (tv t (2 * 8 + v)) := s2
      have s3' : t.put (0 + 2 * 8 + v.toNat * 1) (w64 (tv t (2 * 8 + v) + 1)) = some t' := s3
      obtain ⟨z, z', o', t2, g1, g2, g3, g4⟩ := ih (i + 1) _ t' (N + 1) h (by omega) s4 (by omega)
      have e1 := tot_ins endK_add (x := ⟨2, v, 1⟩) hv' (SP_nodes hB.sp)
      have e2 : endK 2 1 = 0 := rfl
      simp only [h', decide_true, if_true, idx_in h, ← hve, Option.bind_some, s1, c2, c3, s2', s3']
      rw [w64_inc h (by omega), g1, g2]
      refine ⟨z, z', o', t2, rfl, rfl, ?_, by rw [g4, e1]; show tot endK o + endK 2 1 = _; omega⟩
      rwa [show N + 1 + (w.1.length - (i + 1)) = N + (w.1.length - i) by omega] at g3
    · obtain rfl : i = w.1.length := by omega
      rw [if_neg (by simp), if_neg (by simp)]
      exact ⟨_, _, _, _, rfl, rfl, by simpa using hB, rfl⟩
theorem lights_loop {fu : Nat} (hfu : 2097153 ≤ fu) (p : Plan) (reach : Int) (h1 : 1 ≤ reach) (h2 : reach ≤ 20000) (hB : PlanB p) (hF : PlanF p) : ∀ (fk i : Nat) (o : List Item) (t : IA 40), i ≤ p.Lights.length → p.Lights.length - i < fk → BR t o (9 * i) →
    (spec_BillOf_L1 fu p reach fk o i = some (.ret ([], false)) ∧ impl_BillOf_L1 fu p reach fk i t = some (.ret ([], false))) ∨
    ∃ z z' o' t', spec_BillOf_L1 fu p reach fk o i = some (.next (o', z)) ∧ impl_BillOf_L1 fu p reach fk i t = some (.next (z', t')) ∧ BR t' o' 108 ∧ tot endK o' = tot endK o + 2 * ((p.Lights.length : Int) - i) := by
  have hs := hF.short
  have hv := hF.net
  intro fk
  induction fk with
  | zero => intro i _ _ _ h; omega
  | succ fk ih =>
    intro i o t hi hk hR
    rw [spec_BillOf_L1, impl_BillOf_L1]
    by_cases h : i < p.Lights.length
    · have h' : (i : Int) < (p.Lights.length : Int) := by omega
      obtain ⟨e, hee⟩ : ∃ e, e = p.Lights[i] := ⟨_, rfl⟩
      have hl := hF.light _ (List.getElem_mem h)
      have hr := hB.2.2 _ (List.getElem_mem h)
      rw [← hee] at hl hr
      obtain ⟨ns, ho⟩ := hl.route
      have hfa := rnodes_facts (netF hv) ho
      have hhi := (netF hv).hi
      obtain ⟨w, r1, r2, r3⟩ := regen_both hfu p.Network e.Route reach h1 h2 hB.1 hv hr ho
      simp only [h', decide_true, if_true, idx_in h, ← hee, Option.bind_some, r1, r2]
      rcases r3 with r3 | ⟨r3, r4, r5⟩
      · rw [r3]
        exact .inl ⟨rfl, rfl⟩
      · obtain ⟨e2, f1, f2, f3, f4⟩ := end_both hfu p.Network e.Route hB.1 hv hr ho
        obtain ⟨s1, s2, t1, s3, s4⟩ := BR.step hfu hR (by omega) (kind := 1) (node := e.Route.Start) (c := 1) (by omega) (by omega) (by omega)
        obtain ⟨q1, q2, t2, q3, q4⟩ := BR.step hfu s4 (by omega) (kind := 1) (node := e2) (c := 1) (by omega) (by omega) (by omega)
        have c1 : chk 1 5 = some 1 := rfl
        have c2 : chk e.Route.Start 8 = some e.Route.Start.toNat := chk_in hfa.2.2.2.2.2.1 (by omega)
        have c3 : chk e2 8 = some e2.toNat := chk_in f3 (by omega)
        have s2' : t.get (0 + 1 * 8 + e.Route.Start.toNat * 1) = some (tv t (1 * 8 + e.Route.Start)) := s2
        have s3' : t.put (0 + 1 * 8 + e.Route.Start.toNat * 1) (w64 (tv t (1 * 8 + e.Route.Start) + 1)) = some t1 := s3
        have q2' : t1.get (0 + 1 * 8 + e2.toNat * 1) = some (tv t1 (1 * 8 + e2)) := q2
        have q3' : t1.put (0 + 1 * 8 + e2.toNat * 1) (w64 (tv t1 (1 * 8 + e2) + 1)) = some t2 := q3
        obtain ⟨z, z', o', t3, g1, g2, g3, g4⟩ := inner_loop hfu w r4 r5 fu 0 _ t2 (9 * i + 1 + 1) (by omega) (by omega) q4 (by omega)
        have h0 : ((0 : Nat) : Int) = 0 := rfl
        rw [h0] at g1 g2
        simp only [r3, Bool.not_true, Bool.false_eq_true, if_false, s1, f1, f2, q1, c1, c2, c3, s2', s3', q2', q3', Option.bind_some, g1, g2]
        rw [w64_inc h (by omega)]
        rcases ih (i + 1) o' t3 h (by omega) (g3.mono (by omega)) with a | ⟨z, z', o2, t4, k1, k2, k3, k4⟩
        · exact .inl a
        · have en1 := tot_ins endK_add (x := ⟨1, e.Route.Start, 1⟩) (by show 0 ≤ e.Route.Start ∧ e.Route.Start ≤ 7; omega) (SP_nodes hR.sp)
          have en2 := tot_ins endK_add (x := ⟨1, e2, 1⟩) (by show 0 ≤ e2 ∧ e2 ≤ 7; omega) (SP_nodes s4.sp)
          have en3 : endK 1 1 = 1 := rfl
          refine .inr ⟨z, z', o2, t4, k1, k2, k3, ?_⟩
          rw [k4, g4, en2, en1]
          show tot endK o + endK 1 1 + endK 1 1 + _ = _
          omega
    · obtain rfl : i = p.Lights.length := by omega
      rw [if_neg (by simp), if_neg (by simp)]
      exact .inr ⟨_, _, _, _, rfl, rfl, hR.mono (by omega), by omega⟩
theorem quo_in {L s : Int} (h1 : 1 ≤ L) (h2 : L ≤ 5000) (h3 : 50 ≤ s) (h4 : s ≤ 1000) : ∃ q, quo (w64 (w64 (L + s) - 1)) s = some q ∧ w64 (q - 1) = q - 1 ∧ 1 ≤ q ∧ q ≤ 101 := by
  have e1 : w64 (L + s) = L + s := w64_in (by omega) (by omega)
  rw [e1]
  clear e1
  have e2 : w64 (L + s - 1) = L + s - 1 := w64_in (by omega) (by omega)
  rw [e2]
  clear e2
  unfold quo
  rw [if_neg (by omega), Int.tdiv_eq_ediv_of_nonneg (by omega)]
  have a1 : 1 ≤ (L + s - 1) / s := Int.le_ediv_of_mul_le (by omega) (by omega)
  have a2 : (L + s - 1) / s < 101 := Int.ediv_lt_of_lt_mul (by omega) (by omega)
  generalize (L + s - 1) / s = q at a1 a2
  rw [w64_in (by omega) (by omega)]
  refine ⟨q, rfl, ?_, a1, by omega⟩
  rw [w64_in (by omega) (by omega)]
theorem BR.keep {t : IA 40} {o : List Item} {N : Nat} (h : BR t o N) (hN : N ≤ 400) {kind node : Int} (hk : 1 ≤ kind ∧ kind ≤ 4) (hn : 0 ≤ node ∧ node ≤ 7) :
    t.get (0 + kind.toNat * 8 + node.toNat * 1) = some (tv t (kind * 8 + node)) ∧ ∃ t', t.put (0 + kind.toNat * 8 + node.toNat * 1) (w64 (tv t (kind * 8 + node) + 0)) = some t' ∧ BR t' o N := by
  have hkk : 0 + kind.toNat * 8 + node.toNat * 1 < 40 := by omega
  have hkey : ((0 + kind.toNat * 8 + node.toNat * 1 : Nat) : Int) = kind * 8 + node := by omega
  have hg := tv_get t hkk
  rw [hkey] at hg
  have hv := h.eq (kind * 8 + node) (by omega) (by omega)
  have hle := h.le (kind * 8 + node)
  have hge := cnt_nonneg (kind * 8 + node) h.sp
  have hw : w64 (tv t (kind * 8 + node) + 0) = tv t (kind * 8 + node) := by rw [Int.add_zero]; exact w64_in (by omega) (by omega)
  obtain ⟨t', p1, p2⟩ := tv_put t hkk (tv t (kind * 8 + node))
  rw [hkey] at p2
  refine ⟨hg, t', by rw [hw]; exact p1, h.sp, fun k k0 k4 => ?_, h.out, h.le, h.len⟩
  rw [p2 k k0]
  split
  · rename_i e; rw [e, hv]
  · exact h.eq k k0 k4
theorem fibers_loop {fu : Nat} (hfu : 2097153 ≤ fu) (p : Plan) (spacing : Int) (h1 : 50 ≤ spacing) (h2 : spacing ≤ 1000) (hB : PlanB p) (hF : PlanF p) : ∀ (fk i : Nat) (o : List Item) (t : IA 40), i ≤ p.Network.Fibers.length → p.Network.Fibers.length - i < fk → BR t o (108 + 3 * i) →
    ∃ z z' o' t', spec_BillOf_L3 fu p spacing fk i o = some (z, o') ∧ impl_BillOf_L3 fu p spacing (maskL p.Lights p.Network.Fibers.length) fk i t = some (z', t') ∧ BR t' o' 150 ∧ tot endK o' = tot endK o := by
  have hn := netF hF.net
  have hf14 := hn.fib
  have hlen : (maskL p.Lights p.Network.Fibers.length).length = p.Network.Fibers.length := by simp [maskL]
  intro fk
  induction fk with
  | zero => intro i _ _ _ h; omega
  | succ fk ih =>
    intro i o t hi hk hR
    rw [spec_BillOf_L3, impl_BillOf_L3, hlen]
    by_cases h : i < p.Network.Fibers.length
    · have h' : (i : Int) < (p.Network.Fibers.length : Int) := by omega
      obtain ⟨f, hfe⟩ : ∃ f, f = p.Network.Fibers[i] := ⟨_, rfl⟩
      have hf := hn.each _ (List.getElem_mem h)
      have hhi := hn.hi
      rw [← hfe] at hf
      simp only [h', decide_true, if_true, idx_in h, ← hfe, maskL_idx h, l9Used_eq hfu p (i : Int) hB.2.1 (fun e he => (hF.light e he).blk) hB.2.2, Option.bind_some]
      obtain ⟨u, hu⟩ : ∃ u, u = used p.Lights (i : Int) := ⟨_, rfl⟩
      rw [← hu]
      by_cases hz : u = 0
      · have e1 : (u == 0) = true := by rw [beq_iff_eq]; exact hz
        have e2 : (u != 0) = false := by rw [hz]; rfl
        rw [e1, e2, if_pos rfl, if_neg Bool.false_ne_true, w64_inc h (by omega)]
        exact ih (i + 1) o t h (by omega) (hR.mono (by omega))
      · have e1 : (u == 0) = false := by rw [beq_eq_false_iff_ne]; exact hz
        have e2 : (u != 0) = true := by rw [bne_iff_ne]; exact hz
        obtain ⟨q, k1, k2, k3, k4⟩ := quo_in (L := f.Length) (s := spacing) (by omega) (by omega) h1 h2
        obtain ⟨a1, a2, t1, a3, a4⟩ := BR.step hfu hR (by omega) (kind := 4) (node := f.A) (c := 1) (by omega) (by omega) (by omega)
        obtain ⟨b1, b2, t2, b3, b4⟩ := BR.step hfu a4 (by omega) (kind := 4) (node := f.B) (c := 1) (by omega) (by omega) (by omega)
        have last : ∃ o3 t3, spec_l19Add fu (ins ⟨4, f.B, 1⟩ (ins ⟨4, f.A, 1⟩ o)) ⟨3, f.A, q - 1⟩ = some o3 ∧ t2.get (0 + 3 * 8 + f.A.toNat * 1) = some (tv t2 (3 * 8 + f.A)) ∧ t2.put (0 + 3 * 8 + f.A.toNat * 1) (w64 (tv t2 (3 * 8 + f.A) + (q - 1))) = some t3 ∧ BR t3 o3 (108 + 3 * i + 1 + 1 + 1) ∧ tot endK o3 = tot endK o := by
          have en1 := tot_ins endK_add (x := ⟨4, f.A, 1⟩) (by show 0 ≤ f.A ∧ f.A ≤ 7; omega) (SP_nodes hR.sp)
          have en2 := tot_ins endK_add (x := ⟨4, f.B, 1⟩) (by show 0 ≤ f.B ∧ f.B ≤ 7; omega) (SP_nodes a4.sp)
          have en3 := tot_ins endK_add (x := ⟨3, f.A, q - 1⟩) (by show 0 ≤ f.A ∧ f.A ≤ 7; omega) (SP_nodes b4.sp)
          have en5 : tot endK (ins ⟨4, f.B, 1⟩ (ins ⟨4, f.A, 1⟩ o)) = tot endK o := by
            rw [en2, en1]; show tot endK o + 0 + 0 = _; omega
          by_cases hq : q - 1 = 0
          · rw [hq]
            obtain ⟨d1, t3, d2, d3⟩ := BR.keep b4 (by omega) (kind := 3) (node := f.A) (by omega) (by omega)
            exact ⟨_, t3, BR.same 3 f.A, d1, d2, d3.mono (by omega), en5⟩
          · obtain ⟨d1, d2, t3, d3, d4⟩ := BR.step hfu b4 (by omega) (kind := 3) (node := f.A) (c := q - 1) (by omega) (by omega) (by omega)
            exact ⟨_, t3, d1, d2, d3, d4, by rw [en3, en5]; show tot endK o + 0 = _; omega⟩
        obtain ⟨o3, t3, d1, d2, d3, d4, d5⟩ := last
        have c3 : chk 3 5 = some 3 := rfl
        have c4 : chk 4 5 = some 4 := rfl
        have cA : chk f.A 8 = some f.A.toNat := chk_in hf.1 (by omega)
        have cB : chk f.B 8 = some f.B.toNat := chk_in (by omega) (by omega)
        have a2' : t.get (0 + 4 * 8 + f.A.toNat * 1) = some (tv t (4 * 8 + f.A)) := a2
        have a3' : t.put (0 + 4 * 8 + f.A.toNat * 1) (w64 (tv t (4 * 8 + f.A) + 1)) = some t1 := a3
        have b2' : t1.get (0 + 4 * 8 + f.B.toNat * 1) = some (tv t1 (4 * 8 + f.B)) := b2
        have b3' : t1.put (0 + 4 * 8 + f.B.toNat * 1) (w64 (tv t1 (4 * 8 + f.B) + 1)) = some t2 := b3
        simp only [e1, e2, if_true, Bool.false_eq_true, if_false, a1, b1, k1, k2, d1, c3, c4, cA, cB, a2', a3', b2', b3', d2, d3, Option.bind_some]
        rw [w64_inc h (by omega)]
        obtain ⟨z, z', o4, t4, k1, k2, k3, k4⟩ := ih (i + 1) o3 t3 h (by omega) (d4.mono (by omega))
        exact ⟨z, z', o4, t4, k1, k2, k3, by rw [k4, d5]⟩
    · obtain rfl : i = p.Network.Fibers.length := by omega
      rw [if_neg (by simp), if_neg (by simp)]
      exact ⟨_, _, _, _, rfl, rfl, hR.mono (by omega), rfl⟩
theorem bill_both {fu : Nat} (hfu : 2097153 ≤ fu) {x0 : Plan} {x1 x2 : Int} (hB : PlanB x0) : ∃ w, spec_BillOf fu x0 x1 x2 = some w ∧ impl_BillOf fu x0 x1 x2 = some w ∧ w.1.length ≤ 2097152 ∧ (w.2 = true → planOk x0 = true ∧ billOk w.1 = true ∧ tot endK w.1 = 2 * (x0.Lights.length : Int)) := by
  unfold spec_BillOf impl_BillOf
  rw [specPlan_eq hfu x0 hB, implPlan_eq hfu x0 hB]
  simp only [Option.bind_some, l1In_eq, within_eq]
  cases hp : planOk x0
  · exact ⟨_, rfl, rfl, by simp, by simp⟩
  cases hc : (decide (1 ≤ x1) && decide (x1 ≤ 20000))
  · exact ⟨_, rfl, rfl, by simp, by simp⟩
  cases hd : (decide (50 ≤ x2) && decide (x2 ≤ 1000))
  · exact ⟨_, rfl, rfl, by simp, by simp⟩
  simp only [Bool.and_eq_true, decide_eq_true_eq] at hc hd
  have hF := planF hp
  have h0 : ((0 : Nat) : Int) = 0 := rfl
  have hs := hF.short
  have hf14 := (netF hF.net).fib
  simp only [Bool.not_true, Bool.false_eq_true, if_false, Option.bind_some]
  rcases lights_loop hfu x0 x1 hc.1 hc.2 hB hF fu 0 [] _ (by omega) (by omega) BR.zero with ⟨g1, g2⟩ | ⟨z, z', o, t, g1, g2, g3, g4⟩
  · rw [h0] at g1 g2
    rw [g1, g2]
    exact ⟨_, rfl, rfl, by simp, by simp⟩
  · rw [h0] at g1 g2
    obtain ⟨y, y', o2, t2, k1, k2, k3, k4⟩ := fibers_loop hfu x0 x2 hd.1 hd.2 hB hF fu 0 o t (by omega) (by omega) (g3.mono (by omega))
    rw [h0] at k1 k2
    obtain ⟨b, a5, a6⟩ := bill_eq hfu t2
    have he : b = o2 := by
      refine uniq _ _ 8 a5.sp k3.sp fun k => ?_
      rw [a5.c k]
      have hge := cnt_nonneg k k3.sp
      by_cases hk : 8 ≤ k ∧ k < 40
      · rw [k3.eq k (by omega) hk.2]
        by_cases hp : 0 < cnt o2 k
        · rw [if_pos ⟨hk.1, hk.2, hp⟩]
        · rw [if_neg (fun h => hp h.2.2)]; omega
      · rw [if_neg (fun h => hk ⟨h.1, h.2.1⟩), k3.out k hk]
    subst he
    have hlen := a5.len
    rw [g1, g2]
    simp only [Out.on, Option.bind_some, k1, fiberMasks_eq hfu x0 hB hF, k2, a6]
    rw [l19Bill_eq b (by omega) (by omega)]
    simp only [Option.bind_some]
    cases hbo : billOk b
    · exact ⟨_, rfl, rfl, by simp, by simp⟩
    · exact ⟨_, rfl, rfl, show b.length ≤ 2097152 by omega, fun _ => ⟨by trivial, hbo, by show tot endK b = _; rw [k4, g4]; show (0 : Int) + _ = _; simp⟩⟩
end AT

namespace AT
structure Cur (c : L1CurP) (k : Int) : Prop where
  by_ : ∀ e ∈ c.code, 0 ≤ e.n ∧ e.n ≤ 255
  len : c.code.length ≤ 65536
  lo : 0 ≤ c.at_
  hi : c.at_ ≤ k
theorem and255 (q : Int) : 0 ≤ andu64 q 255 ∧ andu64 q 255 ≤ 255 := by
  unfold andu64
  have h : (BitVec.ofInt 64 q &&& BitVec.ofInt 64 255).toNat ≤ 255 := by
    rw [BitVec.toNat_and]
    exact Nat.le_trans Nat.and_le_right (by decide)
  unfold wu64
  omega
theorem next_ok {fu : Nat} {c : L1CurP} {k : Int} (hc : Cur c k) (hk : k ≤ 4611686018427387904) : ∃ r c', spec_l1Cur_next fu c = some (r, c') ∧ 0 ≤ r ∧ r ≤ 255 ∧ Cur c' (k + 1) := by
  have h0 := hc.lo
  have h1 := hc.hi
  have hl := hc.len
  have e1 : w64 (c.at_ + 1) = c.at_ + 1 := w64_in (by omega) (by omega)
  unfold spec_l1Cur_next
  have hsh : ∀ x : Int, shrk 64 x 40 = some (x.fdiv (2 ^ (min (40 : Int).toNat 64))) := fun x => by unfold shrk; rw [if_neg (by omega)]
  simp only [e1, hsh, Option.bind_some]
  have hcur : ∀ s, Cur ⟨c.code, c.at_ + 1, s⟩ (k + 1) := fun s => ⟨hc.by_, hc.len, by simp only; omega, by simp only; omega⟩
  have ha : ∀ q : Int, 0 ≤ w64 (andu64 q 255) ∧ w64 (andu64 q 255) ≤ 255 := fun q => by
    have := and255 q
    rw [w64_in (by omega) (by omega)]; exact this
  by_cases h : c.at_ < c.code.length
  · simp only [h, decide_true, if_true]
    obtain ⟨e, he, hm⟩ := idx_some (l := c.code) (i := c.at_) h0 h
    have hb := hc.by_ e hm
    have e2 : w64 e.n = e.n := w64_in (by omega) (by omega)
    simp only [he, Option.bind_some, e2]
    split
    · exact ⟨_, _, rfl, hb.1, hb.2, hcur _⟩
    · exact ⟨_, _, rfl, (ha _).1, (ha _).2, hcur _⟩
  · simp only [h, decide_false, Bool.false_eq_true, if_false]
    split
    · exact ⟨_, _, rfl, by omega, by omega, hcur _⟩
    · exact ⟨_, _, rfl, (ha _).1, (ha _).2, hcur _⟩
theorem Cur.mono {c : L1CurP} {k k' : Int} (hc : Cur c k) (h : k ≤ k') : Cur c k' := ⟨hc.by_, hc.len, hc.lo, Int.le_trans hc.hi h⟩
theorem pick_ok {fu : Nat} {c : L1CurP} {k : Int} (hc : Cur c k) (hk : k ≤ 4611686018427387000) (n : Int) (hn : n ≤ 1099511627776) : ∃ r c', spec_l1Cur_pick fu c n = some (r, c') ∧ 0 ≤ r ∧ (1 ≤ n → r < n) ∧ Cur c' (k + 2) := by
  unfold spec_l1Cur_pick
  by_cases h : n ≤ 1
  · simp only [h, decide_true, if_true]
    exact ⟨_, _, rfl, by omega, by omega, hc.mono (by omega)⟩
  · simp only [h, decide_false, Bool.false_eq_true, if_false]
    obtain ⟨r, c', g1, g2, g3, g4⟩ := next_ok (fu := fu) hc (by omega)
    simp only [g1, Option.bind_some]
    have hr : ∀ x : Int, 0 ≤ x → ∃ q, rem x n = some q ∧ 0 ≤ q ∧ q < n := fun x hx => by
      unfold rem
      rw [if_neg (by omega), Int.tmod_eq_emod_of_nonneg hx]
      exact ⟨_, rfl, Int.emod_nonneg _ (by omega), Int.emod_lt_of_pos _ (by omega)⟩
    by_cases h2 : n > 200
    · simp only [h2, decide_true, if_true]
      obtain ⟨r2, c2, q1, q2, q3, q4⟩ := next_ok (fu := fu) g4 (by omega)
      simp only [q1, Option.bind_some]
      rw [w64_in (n := r * 256) (by omega) (by omega), w64_in (by omega) (by omega)]
      obtain ⟨q, p1, p2, p3⟩ := hr (r * 256 + r2) (by omega)
      rw [p1]
      exact ⟨_, _, rfl, p2, fun _ => p3, q4.mono (by omega)⟩
    · simp only [h2, decide_false, Bool.false_eq_true, if_false]
      obtain ⟨q, p1, p2, p3⟩ := hr r g2
      rw [p1]
      exact ⟨_, _, rfl, p2, fun _ => p3, g4.mono (by omega)⟩
theorem among_ok {fu : Nat} {c : L1CurP} {k : Int} (hc : Cur c k) (hk : k ≤ 4611686018427387000) (l : List Int) (h1 : 1 ≤ l.length) (hn : l.length ≤ 1099511627776) : ∃ r c', spec_l1Cur_among fu c l = some (r, c') ∧ r ∈ l ∧ Cur c' (k + 2) := by
  unfold spec_l1Cur_among
  obtain ⟨r, c', g1, g2, g3, g4⟩ := pick_ok (fu := fu) hc hk (l.length : Int) (by omega)
  obtain ⟨e, he, hm⟩ := idx_some (l := l) (i := r) g2 (g3 (by omega))
  simp only [g1, Option.bind_some, he]
  exact ⟨_, _, rfl, hm, g4⟩
theorem start_cur {code : List By} (h : ∀ e ∈ code, 0 ≤ e.n ∧ e.n ≤ 255) (hl : code.length ≤ 65536) : Cur ⟨code, 0, ⟨0⟩⟩ 0 := ⟨h, hl, Int.le_refl _, Int.le_refl _⟩
end AT

namespace AT
theorem app_nil {α : Type} {l : List α} (h : l.length ≤ 1099511627776) : app ([] : List α) l = some l := by rw [app_ok (by simpa using h)]; rfl
theorem l9Copy_eq (fu : Nat) (x : Light) (h : x.Route.Fibers.length ≤ 2097152) : spec_l9Copy fu x = some x := by
  unfold spec_l9Copy spec_l4Own spec_l1Own
  rw [app_nil (by omega)]
  rfl
theorem own_loop {fu : Nat} (p : Plan) (hl : p.Lights.length ≤ 2097152) (hr : ∀ x ∈ p.Lights, x.Route.Fibers.length ≤ 2097152) : ∀ (fk i : Nat) (m : List Light), i ≤ p.Lights.length → p.Lights.length - i < fk → m.length ≤ i → ∃ z, spec_l9Own_L1 fu p fk i m = some (z, m ++ p.Lights.drop i) := by
  intro fk
  induction fk with
  | zero => intro i _ _ h; omega
  | succ fk ih =>
    intro i m hi hk hm
    rw [spec_l9Own_L1]
    by_cases h : i < p.Lights.length
    · have h' : (i : Int) < (p.Lights.length : Int) := by omega
      simp only [h', decide_true, if_true, idx_in h, Option.bind_some, l9Copy_eq fu _ (hr _ (List.getElem_mem h))]
      rw [app_ok (by simp; omega), Option.bind_some, w64_inc h (by omega)]
      obtain ⟨z, hz⟩ := ih (i + 1) (m ++ [p.Lights[i]]) h (by omega) (by simp; omega)
      refine ⟨z, ?_⟩
      rw [hz, List.append_assoc, ← List.getElem_cons_drop h]
      rfl
    · obtain rfl : i = p.Lights.length := by omega
      rw [if_neg (by simp), List.drop_length, List.append_nil]
      exact ⟨_, rfl⟩
theorem l9Own_eq {fu : Nat} (hfu : 2097153 ≤ fu) (p : Plan) (hB : PlanB p) : spec_l9Own fu p = some p := by
  obtain ⟨hN, hL, hR⟩ := hB
  unfold spec_l9Own spec_l2Own
  have h1 := hN.1.1
  have h2 := hN.2
  rw [app_nil (by omega), Option.bind_some, app_nil (by omega)]
  obtain ⟨z, hz⟩ := own_loop (fu := fu) p hL hR fu 0 [] (by omega) (by omega) (by simp)
  rw [show ((0 : Nat) : Int) = 0 from rfl] at hz
  simp only [Option.bind_some, hz, List.nil_append, List.drop_zero]
theorem along_loop {fu : Nat} (hfu : 2097153 ≤ fu) (p : Plan) (r : Route) (hl : p.Lights.length ≤ 2097152) (hb : ∀ y ∈ p.Lights, blkOk y.Block = true) (hr : ∀ x ∈ p.Lights, x.Route.Fibers.length ≤ 2097152) (hrl : r.Fibers.length ≤ 2097152) : ∀ (fk i : Nat) (o : Int), i ≤ r.Fibers.length → r.Fibers.length - i < fk →
    ∃ z, spec_l9Along_L1 fu p r fk o i = some ((r.Fibers.drop i).foldl (fun o f => bor o (used p.Lights f)) o, z) := by
  intro fk
  induction fk with
  | zero => intro i _ _ h; omega
  | succ fk ih =>
    intro i o hi hk
    rw [spec_l9Along_L1]
    by_cases h : i < r.Fibers.length
    · have h' : (i : Int) < (r.Fibers.length : Int) := by omega
      simp only [h', decide_true, if_true, idx_in h, Option.bind_some, l9Used_eq hfu p _ hl hb hr]
      rw [← List.getElem_cons_drop h, List.foldl_cons, w64_inc h (by omega)]
      exact ih (i + 1) _ h (by omega)
    · obtain rfl : i = r.Fibers.length := by omega
      rw [if_neg (by simp), List.drop_length]
      exact ⟨_, rfl⟩
theorem l9Along_eq {fu : Nat} (hfu : 2097153 ≤ fu) (p : Plan) (r : Route) (hl : p.Lights.length ≤ 2097152) (hb : ∀ y ∈ p.Lights, blkOk y.Block = true) (hr : ∀ x ∈ p.Lights, x.Route.Fibers.length ≤ 2097152) (hrl : r.Fibers.length ≤ 2097152) : spec_l9Along fu p r = some (along p.Lights r.Fibers) := by
  unfold spec_l9Along
  obtain ⟨z, hz⟩ := along_loop hfu p r hl hb hr hrl fu 0 0 (by omega) (by omega)
  rw [show ((0 : Nat) : Int) = 0 from rfl, List.drop_zero] at hz
  rw [hz]
  rfl
def fits (m C : Int) : List Int := ((List.range' 0 (25 - C.toNat)).filter fun t : Nat => apart m (bits ⟨(t : Int), C⟩)).map fun t : Nat => (t : Int)
theorem fits_loop {fu : Nat} (m C : Int) (N : Nat) (hN : (N : Int) + C = 25) (h1 : 1 ≤ C) : ∀ (fk k s : Nat) (out : List Int), N = s + k → k < fk → out.length ≤ s →
    ∃ z, spec_l8Fits_L1 fu m C fk out s = some (out ++ (((List.range' s k).filter fun t : Nat => apart m (bits ⟨(t : Int), C⟩)).map fun t : Nat => (t : Int)), z) := by
  intro fk
  induction fk with
  | zero => intro k s _ _ h; omega
  | succ fk ih =>
    intro k s out hs hk ho
    have hw0 : w64 ((s : Int) + C) = (s : Int) + C := w64_in (by omega) (by omega)
    rw [spec_l8Fits_L1, hw0]
    clear hw0
    cases k with
    | zero =>
      have h' : ¬ (s : Int) + C ≤ 24 := by omega
      simp only [h', decide_false, Bool.false_eq_true, if_false, List.range'_zero, List.filter_nil, List.map_nil, List.append_nil]
      exact ⟨_, rfl⟩
    | succ k =>
      have h' : (s : Int) + C ≤ 24 := by omega
      have hb : blkOk ⟨(s : Int), C⟩ = true := by simp only [blkOk, Bool.and_eq_true, decide_eq_true_eq]; omega
      obtain ⟨c, hc⟩ : ∃ c, apart m (bits ⟨(s : Int), C⟩) = c := ⟨_, rfl⟩
      obtain ⟨b, hb1, hb2⟩ : ∃ b, spec_l8Bits fu ⟨(s : Int), C⟩ = some b ∧ (band m b == 0) = c := ⟨_, l8Bits_eq hb, hc⟩
      have hw : w64 ((s : Int) + 1) = ((s + 1 : Nat) : Int) := by rw [w64_in (by omega) (by omega)]; omega
      rw [List.range'_succ, List.filter_cons, hc, hb1]
      clear hb1 hc hb
      rw [if_pos (by simpa using h'), Option.bind_some, hb2, hw]
      clear hw hb2
      cases c
      · rw [if_neg (by decide), if_neg (by decide)]
        exact ih k (s + 1) out (by omega) (by omega) (by omega)
      · have ha : app out [(s : Int)] = some (out ++ [(s : Int)]) := app_ok (by simp; omega)
        rw [if_pos rfl, if_pos rfl, ha, Option.bind_some]
        obtain ⟨z, hz⟩ := ih k (s + 1) (out ++ [(s : Int)]) (by omega) (by omega) (by simp; omega)
        exact ⟨z, by rw [hz, List.map_cons, List.append_assoc, List.singleton_append]⟩
theorem l8Fits_eq {fu : Nat} (hfu : 2097153 ≤ fu) (m C : Int) (h1 : 1 ≤ C) (h2 : C ≤ 24) : spec_l8Fits fu m C = some (fits m C) := by
  unfold spec_l8Fits fits
  obtain ⟨N, hN⟩ : ∃ N, N = 25 - C.toNat := ⟨_, rfl⟩
  rw [← hN]
  obtain ⟨z, hz⟩ := fits_loop (fu := fu) m C N (by omega) h1 fu N 0 [] (by omega) (by omega) (by simp)
  rw [show ((0 : Nat) : Int) = 0 from rfl] at hz
  rw [hz]
  rfl
theorem fits_mem {m C : Int} {s : Int} (h1 : 1 ≤ C) (h2 : C ≤ 24) : s ∈ fits m C ↔ 0 ≤ s ∧ s + C ≤ 24 ∧ apart m (bits ⟨s, C⟩) = true := by
  unfold fits
  simp only [List.mem_map, List.mem_filter, List.mem_range'_1]
  constructor
  · rintro ⟨t, ⟨⟨-, ht⟩, ha⟩, rfl⟩
    exact ⟨by omega, by omega, ha⟩
  · rintro ⟨h0, h3, ha⟩
    refine ⟨s.toNat, ⟨⟨by omega, by omega⟩, ?_⟩, by omega⟩
    rw [Int.toNat_of_nonneg h0]
    exact ha
theorem fits_len (m C : Int) : (fits m C).length ≤ 25 := by
  unfold fits
  rw [List.length_map]
  refine Nat.le_trans (List.length_filter_le _ _) ?_
  rw [List.length_range']
  omega
structure PlanI (p : Plan) : Prop where
  ids : ∀ i j, i < j → j < p.Lights.length → (gd p.Lights i l0).Id < (gd p.Lights j l0).Id
end AT

namespace AT
end AT

namespace AT
end AT

namespace AT
theorem find_loop {α : Type} {l : List α} {G : Nat → Int → Option Int} (p : α → Bool) (hn : (l.length : Int) ≤ 9223372036854775807)
    (hG : ∀ fk (i : Nat) (h : i < l.length), G (fk + 1) i = if p l[i] = true then some (i : Int) else G fk (w64 ((i : Int) + 1)))
    (hz : ∀ fk, G (fk + 1) l.length = some (l.length : Int)) : ∀ (fk i : Nat), l.length - i < fk → i ≤ l.length → G fk i = some ((i + (l.drop i).findIdx p : Nat) : Int) := by
  intro fk
  induction fk with
  | zero => intro i h; omega
  | succ fk ih =>
    intro i hk hi
    by_cases h : i < l.length
    · rw [hG fk i h, ← List.getElem_cons_drop h, List.findIdx_cons]
      by_cases hp : p l[i] = true
      · simp [hp]
      · simp only [hp, Bool.false_eq_true, if_false, cond_false]
        rw [w64_inc h hn, ih (i + 1) (by omega) h]
        congr 2
        omega
    · obtain rfl : i = l.length := by omega
      rw [hz, List.drop_length]; rfl
theorem find_all {α : Type} {l : List α} {G : Nat → Int → Option Int} (p : α → Bool) (hn : (l.length : Int) ≤ 9223372036854775807)
    (hG : ∀ fk (i : Nat) (h : i < l.length), G (fk + 1) i = if p l[i] = true then some (i : Int) else G fk (w64 ((i : Int) + 1)))
    (hz : ∀ fk, G (fk + 1) l.length = some (l.length : Int)) (fk : Nat) (hk : l.length < fk) : G fk 0 = some ((l.findIdx p : Nat) : Int) := by
  have := find_loop p hn hG hz fk 0 (by omega) (by omega)
  simpa using this
def insAt (L : List Light) (id : Int) : Nat := L.findIdx fun y => !decide (y.Id < id)
def putL (L : List Light) (x : Light) : List Light := L.take (insAt L x.Id) ++ x :: L.drop (insAt L x.Id)
theorem insAt_le (L : List Light) (id : Int) : insAt L id ≤ L.length := List.findIdx_le_length
theorem putL_len (L : List Light) (x : Light) : (putL L x).length = L.length + 1 := by
  have := insAt_le L x.Id
  unfold putL
  rw [List.length_append, List.length_cons, List.length_take, List.length_drop]
  omega
theorem putL_mem {L : List Light} {x y : Light} : y ∈ putL L x ↔ y = x ∨ y ∈ L := by
  unfold putL
  rw [List.mem_append, List.mem_cons]
  constructor
  · rintro (h | h | h)
    · exact .inr (List.mem_of_mem_take h)
    · exact .inl h
    · exact .inr (List.mem_of_mem_drop h)
  · rintro (h | h)
    · exact .inr (.inl h)
    · rw [← List.take_append_drop (insAt L x.Id) L, List.mem_append] at h
      rcases h with h | h
      · exact .inl h
      · exact .inr (.inr h)
end AT

namespace AT
end AT

namespace AT
def addP (p : Plan) (x : Light) : Plan := { Network := p.Network, Lights := putL p.Lights x }
theorem insAt_loop (L : List Light) (id : Int) (G : Nat → Int → Option Int) (hl : L.length ≤ 2097152) (hG : ∀ fk i, G (fk + 1) i = ((if decide (i < (L.length : Int)) = true then (idx L i).bind fun e => some (decide (e.Id < id)) else some false).bind fun c => if c = true then G fk (w64 (i + 1)) else some i)) (fu : Nat) (hfu : 2097153 ≤ fu) : G fu 0 = some ((insAt L id : Nat) : Int) :=
  find_all (l := L) (G := G) (fun y => !decide (y.Id < id)) (by omega)
    (fun fk i hi => by
      have h' : (i : Int) < (L.length : Int) := by omega
      rw [hG]
      simp only [h', decide_true, if_true, idx_in hi, Option.bind_some]
      by_cases hc : L[i].Id < id <;> simp [hc])
    (fun fk => by rw [hG]; simp) fu (by omega)
theorem l9Put_eq {fu : Nat} (hfu : 2097153 ≤ fu) (p : Plan) (x : Light) (hB : PlanB p) (hx : x.Route.Fibers.length ≤ 2097152) : spec_l9Put fu p x = some (addP p x) := by
  have hl := hB.2.1
  have hi := insAt_le p.Lights x.Id
  unfold spec_l9Put
  rw [l9Own_eq hfu p hB, Option.bind_some, insAt_loop p.Lights x.Id (spec_l9Put_L1 fu x p) hl (fun fk i => by rw [spec_l9Put_L1]) fu hfu, Option.bind_some, sub_take hi, Option.bind_some]
  have hs : sub p.Lights ((insAt p.Lights x.Id : Nat) : Int) (p.Lights.length : Int) = some (p.Lights.drop (insAt p.Lights x.Id)) := by
    unfold sub
    rw [if_pos (by omega)]
    simp
  rw [hs, Option.bind_some, app_nil (by rw [List.length_take]; omega), Option.bind_some, l9Copy_eq fu x hx, Option.bind_some, app_ok (by rw [List.length_take, List.length_singleton]; omega), Option.bind_some, app_ok (by rw [List.length_append, List.length_take, List.length_singleton, List.length_drop]; omega), Option.bind_some, List.append_assoc, List.singleton_append]
  rfl
end AT

namespace AT
structure NetD (n : Network) : Prop where
  n1 : 1 ≤ n.Nodes.length
  n2 : n.Nodes.length ≤ 20
  ns : ∀ e ∈ n.Nodes, e.size ≤ 100
  f2 : n.Fibers.length ≤ 20
theorem NetD.B {n : Network} (h : NetD n) : NetB n := ⟨⟨by have := h.n2; omega, fun e he => by have := h.ns e he; omega⟩, by have := h.f2; omega⟩
theorem rem_ok {a n : Int} (ha : 0 ≤ a) (hn : 0 < n) : ∃ q, rem a n = some q ∧ 0 ≤ q ∧ q < n := by
  unfold rem
  rw [if_neg (by omega), Int.tmod_eq_emod_of_nonneg ha]
  exact ⟨_, rfl, Int.emod_nonneg _ (by omega), Int.emod_lt_of_pos _ hn⟩
theorem app1 {α : Type} {l : List α} {x : α} (h : l.length ≤ 1000000) : app l [x] = some (l ++ [x]) := app_ok (by simp; omega)
theorem least_ex (fu : Nat) (a b : Int) : ∃ r, spec_l1Least fu a b = some r ∧ (r = a ∨ r = b) := by
  unfold spec_l1Least; split <;> exact ⟨_, rfl, by simp⟩
theorem most_ex (fu : Nat) (a b : Int) : ∃ r, spec_l1Most fu a b = some r ∧ (r = a ∨ r = b) := by
  unfold spec_l1Most; split <;> exact ⟨_, rfl, by simp⟩
theorem l2Put_loop {fu : Nat} (l : List Fiber) (f : Fiber) (hl : l.length ≤ 1000000) : ∀ (fk i : Nat), i ≤ l.length → l.length - i < fk → ∃ j : Nat, spec_l2Put_L1 fu l f fk i = some (j : Int) ∧ j ≤ l.length := by
  intro fk
  induction fk with
  | zero => intro i _ h; omega
  | succ fk ih =>
    intro i hi hf
    rw [spec_l2Put_L1]
    by_cases h : i < l.length
    · have hlt : ((i : Int) < (l.length : Int)) = True := by simp; omega
      simp only [hlt, decide_true, if_true, idx_in h, Option.bind_some, l2Before_eq, w64_inc h (show (l.length : Int) ≤ 9223372036854775807 by omega)]
      split
      · exact ih (i + 1) h (by omega)
      · exact ⟨i, rfl, hi⟩
    · have hlt : ((i : Int) < (l.length : Int)) = False := by simp; omega
      simp only [hlt, decide_false, Bool.false_eq_true, if_false, Option.bind_some]
      exact ⟨i, rfl, hi⟩
theorem l2Put_ok {fu : Nat} (hfu : 2097153 ≤ fu) (l : List Fiber) (f : Fiber) (hl : l.length ≤ 1000000) : ∃ r, spec_l2Put fu l f = some r ∧ r.length = l.length + 1 := by
  unfold spec_l2Put
  obtain ⟨j, h1, h2⟩ := l2Put_loop (fu := fu) l f hl fu 0 (by omega) (by omega)
  have hs : sub l (j : Int) (l.length : Int) = some (l.drop j) := by
    unfold sub
    rw [if_pos (by omega)]
    simp
  rw [show ((0 : Nat) : Int) = 0 from rfl] at h1
  rw [h1, Option.bind_some, sub_take h2, Option.bind_some, hs, Option.bind_some, app_nil (by rw [List.length_take]; omega), Option.bind_some, app_ok (by rw [List.length_take, List.length_singleton]; omega), Option.bind_some, app_ok (by rw [List.length_append, List.length_take, List.length_singleton, List.length_drop]; omega), Option.bind_some]
  refine ⟨_, rfl, ?_⟩
  simp only [List.length_append, List.length_take, List.length_singleton, List.length_drop]
  omega
theorem net_loop1 {fu : Nat} (hfu : 2097153 ≤ fu) (y : Int × L1CurP) (K : Nat) (hK : w64 (2 + y.1) = (K : Int)) (h2 : 2 ≤ K) (h6 : K ≤ 6) : ∀ (fk i : Nat) (m : List By) (m2 : Int) (m3 : U64) (l : List Fiber) (k B : Int), Cur ⟨m, m2, m3⟩ k → k ≤ B + 10 * (i : Int) → B ≤ 1000000000 → l.length ≤ i → i ≤ K → K - i < fk →
    ∃ i' m' a' s' l', spec_l1Cur_network_L1 fu y fk i m m2 m3 l = some (i', m', a', s', l') ∧ l'.length ≤ K ∧ Cur ⟨m', a', s'⟩ (B + 10 * (K : Int)) := by
  intro fk
  induction fk with
  | zero => intro i _ _ _ _ _ _ _ _ _ _ _ h; omega
  | succ fk ih =>
    intro i m m2 m3 l k B hc hk hB hl hi hf
    rw [spec_l1Cur_network_L1, hK]
    by_cases h : i < K
    · have hlt : ((i : Int) < (K : Int)) = True := by simp; omega
      have e : w64 ((i : Int) + 1) = ((i + 1 : Nat) : Int) := w64_inc h (by omega)
      obtain ⟨q, hq, q0, q1⟩ := rem_ok (a := ((i + 1 : Nat) : Int)) (n := (K : Int)) (by omega) (by omega)
      obtain ⟨r1, c1, g1, -, -, k1⟩ := pick_ok (fu := fu) hc (by omega) 10 (by decide)
      simp only [hlt, decide_true, if_true, e, hq, Option.bind_some, spec_l1Cur_one, g1]
      have k1' : Cur ⟨c1.code, c1.at_, c1.seed⟩ (k + 2) := k1
      split
      · exact ih (i + 1) _ _ _ _ k B hc (by omega) hB (by omega) h (by omega)
      · split
        · exact ih (i + 1) _ _ _ _ (k + 2) B k1' (by omega) hB (by omega) h (by omega)
        · obtain ⟨r3, g3, -⟩ := least_ex fu (i : Int) q
          obtain ⟨r4, g4, -⟩ := most_ex fu (i : Int) q
          obtain ⟨r5, c5, g5, -, -, k5⟩ := pick_ok (fu := fu) k1 (by omega) 8 (by decide)
          obtain ⟨r6, c6, g6, -, k6⟩ := among_ok (fu := fu) k5 (by omega) [0, 0, 0, 1, 2] (by decide) (by decide)
          obtain ⟨r7, g7, h7⟩ := l2Put_ok hfu l ({ A := r3, B := r4, Length := w64 (100 * (w64 (1 + r5))), Risk := r6 } : Fiber) (by omega)
          simp only [g3, g4, g5, g6, g7, Option.bind_some]
          exact ih (i + 1) _ _ _ _ (k + 2 + 2 + 2) B k6 (by omega) hB (by omega) h (by omega)
    · obtain rfl : i = K := by omega
      have hlt : ((i : Int) < (i : Int)) = False := by simp
      simp only [hlt, decide_false, Bool.false_eq_true, if_false]
      exact ⟨_, _, _, _, _, rfl, hl, hc.mono (by omega)⟩
theorem net_loop2 {fu : Nat} (hfu : 2097153 ≤ fu) (y : Int × L1CurP) (K : Nat) (hK : w64 (2 + y.1) = (K : Int)) (h2 : 2 ≤ K) (h6 : K ≤ 6) : ∀ (fk n : Nat) (l : List Fiber) (m : List By) (m2 : Int) (m3 : U64) (k B : Int), Cur ⟨m, m2, m3⟩ k → k ≤ B - 10 * (n : Int) → B ≤ 1000000000 → l.length + n ≤ 9 → n < fk →
    ∃ i' l' m' a' s', spec_l1Cur_network_L2 fu y fk (n : Int) l m m2 m3 = some (i', l', m', a', s') ∧ l'.length ≤ 9 ∧ l.length ≤ l'.length ∧ Cur ⟨m', a', s'⟩ B := by
  intro fk
  induction fk with
  | zero => intro n _ _ _ _ _ _ _ _ _ _ h; omega
  | succ fk ih =>
    intro n l m m2 m3 k B hc hk hB hl hf
    rw [spec_l1Cur_network_L2, hK]
    by_cases h : 0 < n
    · have hlt : ((n : Int) > 0) = True := by simp; omega
      have e : w64 ((n : Int) - 1) = ((n - 1 : Nat) : Int) := w64_dec h (by omega)
      obtain ⟨r1, c1, g1, -, -, k1⟩ := pick_ok (fu := fu) hc (by omega) (K : Int) (by omega)
      obtain ⟨r2, c2, g2, -, -, k2⟩ := pick_ok (fu := fu) k1 (by omega) (K : Int) (by omega)
      simp only [hlt, decide_true, if_true, e, g1, g2, Option.bind_some]
      split
      · obtain ⟨r3, g3, -⟩ := least_ex fu r1 r2
        obtain ⟨r4, g4, -⟩ := most_ex fu r1 r2
        obtain ⟨r5, c5, g5, -, -, k5⟩ := pick_ok (fu := fu) k2 (by omega) 8 (by decide)
        obtain ⟨r6, c6, g6, -, k6⟩ := among_ok (fu := fu) k5 (by omega) [0, 0, 0, 1, 2] (by decide) (by decide)
        obtain ⟨r7, g7, h7⟩ := l2Put_ok hfu l ({ A := r3, B := r4, Length := w64 (100 * (w64 (1 + r5))), Risk := r6 } : Fiber) (by omega)
        simp only [g3, g4, g5, g6, g7, Option.bind_some]
        obtain ⟨i', l', m', a', s', q1, q2, q3, q4⟩ := ih (n - 1) r7 _ _ _ (k + 2 + 2 + 2 + 2) B k6 (by omega) hB (by omega) (by omega)
        exact ⟨i', l', m', a', s', q1, q2, by omega, q4⟩
      · exact ih (n - 1) _ _ _ _ (k + 2 + 2) B k2 (by omega) hB (by omega) (by omega)
    · obtain rfl : n = 0 := by omega
      rw [if_neg (by simp)]
      exact ⟨_, _, _, _, _, rfl, by omega, Nat.le_refl _, hc.mono (by omega)⟩
theorem network_ok {fu : Nat} (hfu : 2097153 ≤ fu) {c : L1CurP} {k : Int} (hc : Cur c k) (hk : k ≤ 900000000) : ∃ r c', spec_l1Cur_network fu c = some (r, c') ∧ NetD r ∧ r.Nodes.length ≤ 6 ∧ r.Fibers.length ≤ 9 ∧ Cur c' (k + 200) := by
  unfold spec_l1Cur_network
  obtain ⟨r1, c1, g1, p0, p1, k1⟩ := pick_ok (fu := fu) hc (by omega) 5 (by decide)
  have p2 := p1 (by decide)
  have hK : w64 (2 + r1) = (((2 + r1).toNat : Nat) : Int) := by rw [w64_in (by omega) (by omega)]; omega
  have hK2 : 2 ≤ (2 + r1).toNat := by omega
  have hK6 : (2 + r1).toNat ≤ 6 := by omega
  obtain ⟨i2, m2, a2, s2, l2, g2, h2, k2⟩ := net_loop1 hfu (r1, c1) (2 + r1).toNat hK hK2 hK6 fu 0 c1.code c1.at_ c1.seed [] (k + 2) (k + 2) k1 (by omega) (by omega) (by simp) (by omega) (by omega)
  obtain ⟨r3, c3, g3, q0, q1, k3⟩ := pick_ok (fu := fu) k2 (by omega) 4 (by decide)
  have q2 := q1 (by decide)
  obtain ⟨i4, l4, m4, a4, s4, g4, h4, -, k4⟩ := net_loop2 hfu (r1, c1) (2 + r1).toNat hK hK2 hK6 fu r3.toNat l2 c3.code c3.at_ c3.seed (k + 2 + 10 * ((2 + r1).toNat : Int) + 2) (k + 200) k3 (by omega) (by omega) (by omega) (by omega)
  rw [Int.ofNat_zero] at g2
  rw [Int.toNat_of_nonneg q0] at g4
  simp only [g1, Option.bind_some, hK]
  rw [sub_take (by simp; omega)]
  simp only [g2, g3, g4, Option.bind_some]
  refine ⟨_, _, rfl, ⟨by simp; omega, by simp; omega, fun e he => ?_, by simp only; omega⟩, by simp; omega, h4, k4⟩
  have he' := List.mem_of_mem_take he
  simp only [List.mem_cons, List.not_mem_nil, or_false] at he'
  rcases he' with rfl | rfl | rfl | rfl | rfl | rfl <;> decide
theorem linked_ok {fu : Nat} (hfu : 2097153 ≤ fu) {c : L1CurP} {k : Int} (hc : Cur c k) (hk : k ≤ 900000000) : ∃ r c', spec_l1Cur_linked fu c = some (r, c') ∧ NetD r ∧ 1 ≤ r.Fibers.length ∧ Cur c' (k + 200) := by
  unfold spec_l1Cur_linked
  obtain ⟨r, c', g1, h1, h2, h3, k1⟩ := network_ok hfu hc hk
  simp only [g1, Option.bind_some]
  split
  · rename_i h
    have h0 : r.Fibers.length = 0 := by simpa using h
    rw [app1 (by omega)]
    exact ⟨_, _, rfl, ⟨h1.n1, h1.n2, h1.ns, by simp; omega⟩, by simp, k1⟩
  · rename_i h
    have h0 : r.Fibers.length ≠ 0 := by simpa using h
    exact ⟨_, _, rfl, h1, by omega, k1⟩
theorem route_loop2 {fu : Nat} (hfu : 2097153 ≤ fu) (n : Network) (y : Int × L1CurP) (seen : List Int) (hn : n.Fibers.length ≤ 1000000) (h1 : 1 ≤ seen.length) (h2 : seen.length ≤ 1000000) : ∀ (fk i : Nat) (o : List Int), i ≤ n.Fibers.length → n.Fibers.length - i < fk → o.length ≤ i → (∀ e ∈ o, 0 ≤ e ∧ e < (n.Fibers.length : Int)) →
    ∃ l i', spec_l1Cur_route_L2 fu n y seen fk o i = some (l, i') ∧ l.length ≤ n.Fibers.length ∧ ∀ e ∈ l, 0 ≤ e ∧ e < (n.Fibers.length : Int) := by
  intro fk
  induction fk with
  | zero => intro i _ _ h; omega
  | succ fk ih =>
    intro i o hi hf ho hr
    rw [spec_l1Cur_route_L2]
    by_cases h : i < n.Fibers.length
    · have hlt : ((i : Int) < (n.Fibers.length : Int)) = True := by simp; omega
      have e1 : w64 ((seen.length : Int) - 1) = ((seen.length - 1 : Nat) : Int) := by rw [w64_in (by omega) (by omega)]; omega
      have hh : ∀ v, spec_l1Has fu seen v = some (seen.any fun x => x == v) := fun v => l1Has_eq seen v (by omega) (by omega)
      have ha : app o [(i : Int)] = some (o ++ [(i : Int)]) := app1 (by omega)
      simp only [hlt, decide_true, if_true, e1, idx_in (show seen.length - 1 < seen.length by omega), Option.bind_some, l2Other_eq fu n i _ h, hh, ha, w64_inc h (show (n.Fibers.length : Int) ≤ 9223372036854775807 by omega)]
      have two : ∀ b : Bool, ∃ l i', (if b = true then spec_l1Cur_route_L2 fu n y seen fk (o ++ [(i : Int)]) ((i + 1 : Nat) : Int) else spec_l1Cur_route_L2 fu n y seen fk o ((i + 1 : Nat) : Int)) = some (l, i') ∧ l.length ≤ n.Fibers.length ∧ ∀ e ∈ l, 0 ≤ e ∧ e < (n.Fibers.length : Int) := by
        intro b
        cases b
        · exact ih (i + 1) o h (by omega) (by omega) hr
        · refine ih (i + 1) _ h (by omega) (by simp; omega) fun e he => ?_
          rcases List.mem_append.1 he with he | he
          · exact hr e he
          · simp only [List.mem_singleton] at he
            omega
      split
      · exact two _
      · exact two false
    · obtain rfl : i = n.Fibers.length := by omega
      rw [if_neg (by simp)]
      exact ⟨_, _, rfl, ho, hr⟩
theorem route_loop1 {fu : Nat} (hfu : 2097153 ≤ fu) (n : Network) (y : Int × L1CurP) (hn : n.Fibers.length ≤ 1000) : ∀ (fk m : Nat) (seen l : List Int) (b : List By) (a : Int) (s : U64) (k B : Int), Cur ⟨b, a, s⟩ k → k ≤ B - 2 * (m : Int) → B ≤ 1000000000 → 1 ≤ seen.length → seen.length + m ≤ 1000 → l.length + m ≤ 4 → (∀ e ∈ l, 0 ≤ e ∧ e < (n.Fibers.length : Int)) → m < fk →
    ∃ s2 m2 l' b' a' s', spec_l1Cur_route_L1 fu n y fk seen (m : Int) l b a s = some (s2, m2, l', b', a', s') ∧ l'.length ≤ 4 ∧ (∀ e ∈ l', 0 ≤ e ∧ e < (n.Fibers.length : Int)) ∧ Cur ⟨b', a', s'⟩ B := by
  intro fk
  induction fk with
  | zero => intro m _ _ _ _ _ _ _ _ _ _ _ _ _ _ h; omega
  | succ fk ih =>
    intro m seen l b a s k B hc hk hB hs1 hs2 hl hr hf
    rw [spec_l1Cur_route_L1]
    by_cases h : 0 < m
    · have hlt : ((m : Int) > 0) = True := by simp; omega
      have e : w64 ((m : Int) - 1) = ((m - 1 : Nat) : Int) := w64_dec h (by omega)
      obtain ⟨z, zi, g1, z1, z2⟩ := route_loop2 hfu n y seen (by omega) hs1 (by omega) fu 0 [] (by omega) (by omega) (by simp) (by simp)
      rw [Int.ofNat_zero] at g1
      have e1 : w64 ((seen.length : Int) - 1) = ((seen.length - 1 : Nat) : Int) := by rw [w64_in (by omega) (by omega)]; omega
      simp only [hlt, decide_true, if_true, e, g1, Option.bind_some]
      by_cases hz : z.length = 0
      · have hz' : ((z.length : Int) == 0) = true := by simp [hz]
        simp only [hz', if_true]
        exact ⟨_, _, _, _, _, _, rfl, by omega, hr, hc.mono (by omega)⟩
      · have hz' : ((z.length : Int) == 0) = false := by simpa using hz
        obtain ⟨r1, c1, g2, p0, p1, k1⟩ := pick_ok (fu := fu) hc (by omega) (z.length : Int) (by omega)
        obtain ⟨x, hx, hxm⟩ := idx_some (l := z) (i := r1) p0 (p1 (by omega))
        obtain ⟨x0, x1⟩ := z2 x hxm
        have hxn : x = ((x.toNat : Nat) : Int) := by omega
        have ho : ∀ v, spec_l2Other fu n x v = some (oth (gd n.Fibers x.toNat f0) v) := fun v => by
          have := l2Other_eq fu n x.toNat v (by omega)
          rwa [← hxn] at this
        simp only [hz', Bool.false_eq_true, if_false, g2, Option.bind_some, hx, e1, idx_in (show seen.length - 1 < seen.length by omega), ho, app1 (show l.length ≤ 1000000 by omega), app1 (show seen.length ≤ 1000000 by omega)]
        refine ih (m - 1) _ _ _ _ _ (k + 2) B k1 (by omega) hB (by simp) (by simp; omega) (by simp; omega) (fun q hq => ?_) (by omega)
        rcases List.mem_append.1 hq with hq | hq
        · exact hr q hq
        · simp only [List.mem_singleton] at hq
          omega
    · obtain rfl : m = 0 := by omega
      rw [if_neg (by simp)]
      exact ⟨_, _, _, _, _, _, rfl, by omega, hr, hc.mono (by omega)⟩
theorem route_ok {fu : Nat} (hfu : 2097153 ≤ fu) {c : L1CurP} {k : Int} (hc : Cur c k) (hk : k ≤ 900000000) {n : Network} (hn : n.Fibers.length ≤ 1000) (hm : n.Nodes.length ≤ 1000) : ∃ r c', spec_l1Cur_route fu c n = some (r, c') ∧ r.Fibers.length ≤ 4 ∧ (∀ e ∈ r.Fibers, 0 ≤ e ∧ e < (n.Fibers.length : Int)) ∧ Cur c' (k + 20) := by
  unfold spec_l1Cur_route
  obtain ⟨r1, c1, g1, -, -, k1⟩ := pick_ok (fu := fu) hc (by omega) (n.Nodes.length : Int) (by omega)
  obtain ⟨r2, c2, g2, p0, p1, k2⟩ := pick_ok (fu := fu) k1 (by omega) 4 (by decide)
  have p2 := p1 (by decide)
  have e : w64 (1 + r2) = (((1 + r2).toNat : Nat) : Int) := by rw [w64_in (by omega) (by omega)]; omega
  obtain ⟨s3, m3, l3, b3, a3, t3, g3, h3, h4, k3⟩ := route_loop1 hfu n (r1, c1) hn fu (1 + r2).toNat [r1] [] c2.code c2.at_ c2.seed (k + 2 + 2) (k + 20) k2 (by omega) (by omega) (by simp) (by simp; omega) (by simp; omega) (by simp) (by omega)
  simp only [g1, g2, Option.bind_some, e, g3]
  exact ⟨_, _, rfl, h3, h4, k3⟩
theorem routed_ok {fu : Nat} (hfu : 2097153 ≤ fu) {c : L1CurP} {k : Int} (hc : Cur c k) (hk : k ≤ 900000000) {n : Network} (h1 : 1 ≤ n.Fibers.length) (hn : n.Fibers.length ≤ 1000) (hm : n.Nodes.length ≤ 1000) : ∃ r c', spec_l1Cur_routed fu c n = some (r, c') ∧ 1 ≤ r.Fibers.length ∧ r.Fibers.length ≤ 4 ∧ (∀ e ∈ r.Fibers, 0 ≤ e ∧ e < (n.Fibers.length : Int)) ∧ Cur c' (k + 20) := by
  unfold spec_l1Cur_routed
  obtain ⟨r, c', g1, h2, h3, k1⟩ := route_ok hfu hc hk hn hm
  simp only [g1, Option.bind_some]
  split
  · obtain ⟨e, he, -⟩ := idx_some (l := n.Fibers) (i := 0) (Int.le_refl _) (by omega)
    rw [he]
    exact ⟨_, _, rfl, by simp, by simp, by simp; omega, k1⟩
  · rename_i h
    have h0 : r.Fibers.length ≠ 0 := by simpa using h
    exact ⟨_, _, rfl, by omega, h2, h3, k1⟩
theorem anyRoute_ok {fu : Nat} (hfu : 2097153 ≤ fu) {c : L1CurP} {k : Int} (hc : Cur c k) (hk : k ≤ 900000000) {n : Network} (hn : n.Fibers.length ≤ 1000) (hm : n.Nodes.length ≤ 1000) : ∃ r c', spec_l1Cur_anyRoute fu c n = some (r, c') ∧ r.Fibers.length ≤ 5 ∧ Cur c' (k + 30) := by
  unfold spec_l1Cur_anyRoute
  obtain ⟨r, c1, g1, h1, -, k1⟩ := route_ok hfu hc hk hn hm
  obtain ⟨r2, c2, g2, -, -, k2⟩ := pick_ok (fu := fu) k1 (by omega) 16 (by decide)
  obtain ⟨r3, c3, g3, -, -, k3⟩ := pick_ok (fu := fu) k2 (by omega) 8 (by decide)
  simp only [g1, g2, g3, Option.bind_some, app1 (show r.Fibers.length ≤ 1000000 by omega)]
  split
  · exact ⟨_, _, rfl, by simp only; omega, k3.mono (by omega)⟩
  split
  · exact ⟨_, _, rfl, by simp; omega, k3.mono (by omega)⟩
  split
  · exact ⟨_, _, rfl, by simp, k2.mono (by omega)⟩
  split
  · split
    · rename_i h
      have h0 : (1 : Int) < r.Fibers.length := by simpa using h
      have e1 : w64 ((r.Fibers.length : Int) - 1) = ((r.Fibers.length - 1 : Nat) : Int) := by rw [w64_in (by omega) (by omega)]; omega
      simp only [e1, idx_in (show r.Fibers.length - 1 < r.Fibers.length by omega), Option.bind_some, app1 (show r.Fibers.length ≤ 1000000 by omega)]
      exact ⟨_, _, rfl, by simp; omega, k2.mono (by omega)⟩
    · exact ⟨_, _, rfl, by omega, k2.mono (by omega)⟩
  · exact ⟨_, _, rfl, by omega, k2.mono (by omega)⟩
theorem block_ok {fu : Nat} {c : L1CurP} {k : Int} (hc : Cur c k) (hk : k ≤ 900000000) : ∃ r c', spec_l1Cur_block fu c = some (r, c') ∧ Cur c' (k + 10) := by
  unfold spec_l1Cur_block spec_l1Cur_one
  obtain ⟨r1, c1, g1, -, -, k1⟩ := pick_ok (fu := fu) hc (by omega) 12 (by decide)
  obtain ⟨r2, c2, g2, -, -, k2⟩ := pick_ok (fu := fu) k1 (by omega) 26 (by decide)
  obtain ⟨r3, c3, g3, -, -, k3⟩ := pick_ok (fu := fu) k2 (by omega) 27 (by decide)
  obtain ⟨r4, c4, g4, p0, p1, k4⟩ := pick_ok (fu := fu) k1 (by omega) 6 (by decide)
  have p2 := p1 (by decide)
  obtain ⟨r5, c5, g5, -, -, k5⟩ := pick_ok (fu := fu) k4 (by omega) (w64 ((w64 (24 - (w64 (1 + r4)))) + 1)) (by
    rw [w64_in (n := 1 + r4) (by omega) (by omega), w64_in (n := 24 - (1 + r4)) (by omega) (by omega), w64_in (by omega) (by omega)]; omega)
  simp only [g1, g2, g3, g4, g5, Option.bind_some]
  split
  · exact ⟨_, _, rfl, k3.mono (by omega)⟩
  · exact ⟨_, _, rfl, k5.mono (by omega)⟩
theorem of_ok {fu : Nat} {c : L1CurP} {k : Int} (hc : Cur c k) (hk : k ≤ 4611686018427387000) (l : List ByteArray) (h1 : 1 ≤ l.length) (hn : l.length ≤ 1099511627776) : ∃ r c', spec_l1Cur_of fu c l = some (r, c') ∧ r ∈ l ∧ Cur c' (k + 2) := by
  unfold spec_l1Cur_of
  obtain ⟨r, c', g1, g2, g3, g4⟩ := pick_ok (fu := fu) hc hk (l.length : Int) (by omega)
  obtain ⟨e, he, hm⟩ := idx_some (l := l) (i := r) g2 (g3 (by omega))
  simp only [g1, Option.bind_some, he]
  exact ⟨_, _, rfl, hm, g4⟩
theorem anyNet_loop {fu : Nat} : ∀ (fk : Nat) (l : List Fiber) (b : List By) (a : Int) (s : U64) (k B : Int), Cur ⟨b, a, s⟩ k → k ≤ B + 2 * (l.length : Int) → B ≤ 1000000000 → 1 ≤ l.length → l.length ≤ 15 → 15 - l.length < fk →
    ∃ l' b' a' s', spec_l1Cur_anyNetwork_L1 fu fk l b a s = some (l', b', a', s') ∧ l'.length ≤ 15 ∧ Cur ⟨b', a', s'⟩ (B + 50) := by
  intro fk
  induction fk with
  | zero => intro l _ _ _ _ _ _ _ _ _ _ h; omega
  | succ fk ih =>
    intro l b a s k B hc hk hB h1 h2 hf
    rw [spec_l1Cur_anyNetwork_L1]
    obtain ⟨r1, c1, g1, p0, p1, k1⟩ := pick_ok (fu := fu) hc (by omega) 2 (by decide)
    have p2 := p1 (by decide)
    have e : w64 (14 + r1) = 14 + r1 := w64_in (by omega) (by omega)
    have e1 : w64 ((l.length : Int) - 1) = ((l.length - 1 : Nat) : Int) := by rw [w64_in (by omega) (by omega)]; omega
    simp only [g1, Option.bind_some, e, e1, idx_in (show l.length - 1 < l.length by omega), app1 (show l.length ≤ 1000000 by omega)]
    split
    · rename_i h
      have h' : (l.length : Int) < 14 + r1 := by simpa using h
      exact ih _ _ _ _ (k + 2) B k1 (by simp; omega) hB (by simp) (by simp; omega) (by simp; omega)
    · exact ⟨_, _, _, _, rfl, h2, k1.mono (by omega)⟩
theorem anyNetwork_ok {fu : Nat} (hfu : 2097153 ≤ fu) {c : L1CurP} {k : Int} (hc : Cur c k) (hk : k ≤ 800000000) : ∃ r c', spec_l1Cur_anyNetwork fu c = some (r, c') ∧ NetD r ∧ Cur c' (k + 500) := by
  unfold spec_l1Cur_anyNetwork
  obtain ⟨n, c1, g1, h1, h2, h3, k1⟩ := network_ok hfu hc (by omega)
  simp only [g1, Option.bind_some]
  by_cases h : n.Fibers.length = 0
  · have h' : ((n.Fibers.length : Int) == 0) = true := by simp [h]
    simp only [h', if_true]
    exact ⟨_, _, rfl, h1, k1.mono (by omega)⟩
  have h' : ((n.Fibers.length : Int) == 0) = false := by simpa using h
  obtain ⟨r2, c2, g2, p0, p1, k2⟩ := pick_ok (fu := fu) k1 (by omega) (n.Fibers.length : Int) (by omega)
  have p2 := p1 (by omega)
  obtain ⟨e, he, -⟩ := idx_some (l := n.Fibers) (i := r2) p0 p2
  obtain ⟨r3, c3, g3, -, -, k3⟩ := pick_ok (fu := fu) k2 (by omega) 24 (by decide)
  obtain ⟨r4, c4, g4, m4, k4⟩ := of_ok (fu := fu) k3 (by omega) [(⟨#[98]⟩ : ByteArray), ByteArray.empty, (⟨#[65]⟩ : ByteArray), (⟨#[97, 98, 99, 100, 101, 102, 103, 104]⟩ : ByteArray), (⟨#[97, 98, 99, 100, 101, 102, 103, 104, 105]⟩ : ByteArray), (⟨#[120, 49]⟩ : ByteArray)] (by simp) (by simp)
  obtain ⟨r5, c5, g5, -, -, k5⟩ := pick_ok (fu := fu) k3 (by omega) 8 (by decide)
  obtain ⟨r6, c6, g6, -, -, k6⟩ := pick_ok (fu := fu) k3 (by omega) 10 (by decide)
  obtain ⟨r7, c7, g7, -, k7⟩ := among_ok (fu := fu) k3 (by omega) [0, 1, 5000, 5001] (by decide) (by decide)
  obtain ⟨r8, c8, g8, -, k8⟩ := among_ok (fu := fu) k3 (by omega) [(-1), 9, 10] (by decide) (by decide)
  obtain ⟨e0, he0, -⟩ := idx_some (l := n.Fibers) (i := 0) (Int.le_refl _) (by omega)
  obtain ⟨v0, hv0, -⟩ := idx_some (l := n.Nodes) (i := 0) (Int.le_refl _) (by have := h1.n1; omega)
  obtain ⟨l9, b9, a9, s9, g9, h9, k9⟩ := anyNet_loop (fu := fu) fu n.Fibers c3.code c3.at_ c3.seed (k + 200 + 2 + 2) (k + 204) k3 (by omega) (by omega) (by omega) (by omega) (by omega)
  have hfs : ∀ f : Fiber, NetD ⟨n.Nodes, n.Fibers.set r2.toNat f⟩ := fun f => ⟨h1.n1, h1.n2, h1.ns, by simp only [List.length_set]; exact h1.f2⟩
  have ha := app1 (x := e0) (show n.Fibers.length ≤ 1000000 by omega)
  obtain ⟨e9, he9, -⟩ := idx_some (l := n.Fibers ++ [e0]) (i := r2) p0 (by simp; omega)
  have hn4 : app n.Nodes [(⟨#[112]⟩ : ByteArray), (⟨#[113]⟩ : ByteArray), (⟨#[114]⟩ : ByteArray), (⟨#[115]⟩ : ByteArray)] = some (n.Nodes ++ [(⟨#[112]⟩ : ByteArray), (⟨#[113]⟩ : ByteArray), (⟨#[114]⟩ : ByteArray), (⟨#[115]⟩ : ByteArray)]) := app_ok (by simp; omega)
  simp only [h', Bool.false_eq_true, if_false, g2, g3, g4, g5, g6, g7, g8, g9, he, he0, hv0, ha, he9, hn4, Option.bind_some]
  split
  · refine ⟨_, _, rfl, ⟨by simp only [List.length_set]; exact h1.n1, by simp only [List.length_set]; exact h1.n2, fun z hz => ?_, by simp only [List.length_set]; exact h1.f2⟩, k4.mono (by omega)⟩
    rcases List.mem_or_eq_of_mem_set hz with hz | rfl
    · exact h1.ns z hz
    · simp only [List.mem_cons, List.not_mem_nil, or_false] at m4
      rcases m4 with rfl | rfl | rfl | rfl | rfl | rfl <;> decide
  split
  · exact ⟨_, _, rfl, hfs _, k5.mono (by omega)⟩
  split
  · exact ⟨_, _, rfl, hfs _, k6.mono (by omega)⟩
  split
  · exact ⟨_, _, rfl, hfs _, k7.mono (by omega)⟩
  split
  · exact ⟨_, _, rfl, hfs _, k8.mono (by omega)⟩
  split
  · exact ⟨_, _, rfl, ⟨h1.n1, h1.n2, h1.ns, by simp; omega⟩, k3.mono (by omega)⟩
  split
  · exact ⟨_, _, rfl, ⟨h1.n1, h1.n2, h1.ns, by simp only; omega⟩, k9.mono (by omega)⟩
  split
  · refine ⟨_, _, rfl, ⟨by simp, by simp; omega, fun z hz => ?_, by simp only [List.length_set]; exact h1.f2⟩, k3.mono (by omega)⟩
    rcases List.mem_append.1 hz with hz | hz
    · exact h1.ns z hz
    · simp only [List.mem_cons, List.not_mem_nil, or_false] at hz
      rcases hz with rfl | rfl | rfl | rfl <;> decide
  · exact ⟨_, _, rfl, hfs _, k3.mono (by omega)⟩
end AT

namespace AT
structure PlanD (p : Plan) : Prop where
  net : NetD p.Network
  ls : p.Lights.length ≤ 20
  rs : ∀ x ∈ p.Lights, x.Route.Fibers.length ≤ 20
theorem PlanD.B {p : Plan} (h : PlanD p) : PlanB p := ⟨h.net.B, by have := h.ls; omega, fun x hx => by have := h.rs x hx; omega⟩
theorem plan_loop {fu : Nat} (hfu : 2097153 ≤ fu) (ns : List ByteArray) (fs : List Fiber) (hn : NetD ⟨ns, fs⟩) (h1 : 1 ≤ fs.length) : ∀ (fk n : Nat) (L : List Light) (b : List By) (a : Int) (s : U64) (k B : Int), Cur ⟨b, a, s⟩ k → k ≤ B - 50 * (n : Int) → B ≤ 800000000 → L.length + n ≤ 8 → (∀ y ∈ L, blkOk y.Block = true) → (∀ y ∈ L, y.Route.Fibers.length ≤ 4) → n < fk →
    ∃ n' L' b' a' s', spec_l1Cur_plan_L1 fu fk (n : Int) ns fs L b a s = some (n', ns, fs, L', b', a', s') ∧ L'.length ≤ 8 ∧ (∀ y ∈ L', y.Route.Fibers.length ≤ 4) ∧ Cur ⟨b', a', s'⟩ B := by
  intro fk
  induction fk with
  | zero => intro n _ _ _ _ _ _ _ _ _ _ _ _ h; omega
  | succ fk ih =>
    intro n L b a s k B hc hk hB hl hb hr hf
    rw [spec_l1Cur_plan_L1]
    have f2 := hn.f2
    have n2 := hn.n2
    simp only at f2 n2
    by_cases h : 0 < n
    · have hlt : ((n : Int) > 0) = True := eq_true (by omega)
      have e : w64 ((n : Int) - 1) = ((n - 1 : Nat) : Int) := w64_dec h (by omega)
      obtain ⟨r3, c3, g3, q1, q2, q3, k3⟩ := routed_ok hfu hc (by omega) (n := ⟨ns, fs⟩) h1 (by simp only; omega) (by simp only; omega)
      obtain ⟨r4, c4, g4, p0, p1, k4⟩ := pick_ok (fu := fu) k3 (by omega) 5 (by decide)
      have p2 := p1 (by decide)
      have e4 : w64 (1 + r4) = 1 + r4 := w64_in (by omega) (by omega)
      have hal := l9Along_eq hfu (⟨⟨ns, fs⟩, L⟩ : Plan) r3 (by simp only; omega) hb (fun x hx => by have := hr x hx; omega) (by omega)
      have hfi := fun m => l8Fits_eq hfu m (1 + r4) (by omega) (by omega)
      simp only [hlt, decide_true, if_true, e, g3, g4, Option.bind_some, hal, e4, hfi]
      obtain ⟨F, hF⟩ : ∃ F, F = fits (along L r3.Fibers) (1 + r4) := ⟨_, rfl⟩
      simp only [← hF]
      have hm : ∀ t ∈ F, blkOk ⟨t, 1 + r4⟩ = true := fun t ht => by
        rw [hF, fits_mem (by omega) (by omega)] at ht
        unfold blkOk
        simp only [Bool.and_eq_true, decide_eq_true_eq]
        omega
      by_cases hz : F.length = 0
      · have hz' : ((F.length : Int) > 0) = False := eq_false (by omega)
        simp only [hz', decide_false, Bool.false_eq_true, if_false]
        exact ih (n - 1) L _ _ _ (k + 20 + 2) B k4 (by omega) hB (by omega) hb hr (by omega)
      · have hz' : ((F.length : Int) > 0) = True := eq_true (by omega)
        obtain ⟨e0, he0, hm0⟩ := idx_some (l := F) (i := 0) (Int.le_refl _) (by omega)
        obtain ⟨r5, c5, g5, -, -, k5⟩ := pick_ok (fu := fu) k4 (by omega) 2 (by decide)
        have hFl : F.length ≤ 25 := by rw [hF]; exact fits_len _ _
        obtain ⟨r6, c6, g6, p6, p7, k6⟩ := pick_ok (fu := fu) k5 (by omega) (F.length : Int) (by omega)
        obtain ⟨e1, he1, hm1⟩ := idx_some (l := F) (i := r6) p6 (p7 (by omega))
        obtain ⟨r7, c7, g7, -, -, k7⟩ := pick_ok (fu := fu) k6 (by omega) 3 (by decide)
        obtain ⟨r8, c8, g8, -, -, k8⟩ := pick_ok (fu := fu) k5 (by omega) 3 (by decide)
        have hput : ∀ x : Light, x.Route = r3 → spec_l9Put fu (⟨⟨ns, fs⟩, L⟩ : Plan) x = some (addP ⟨⟨ns, fs⟩, L⟩ x) := fun x hx => l9Put_eq hfu _ x ⟨hn.B, by simp only; omega, fun y hy => by have := hr y hy; omega⟩ (by rw [hx]; omega)
        simp only [hz', decide_true, if_true, he0, spec_l1Cur_one, g5, g6, he1, g7, g8, Option.bind_some]
        have step : ∀ (x : Light) (c : L1CurP) (k' : Int), x.Route = r3 → blkOk x.Block = true → Cur c k' → k' ≤ k + 30 → ∃ n' L' b' a' s', ((spec_l9Put fu (⟨⟨ns, fs⟩, L⟩ : Plan) x).bind fun y => spec_l1Cur_plan_L1 fu fk ((n - 1 : Nat) : Int) y.Network.Nodes y.Network.Fibers y.Lights c.code c.at_ c.seed) = some (n', ns, fs, L', b', a', s') ∧ L'.length ≤ 8 ∧ (∀ y ∈ L', y.Route.Fibers.length ≤ 4) ∧ Cur ⟨b', a', s'⟩ B := by
          intro x c k' hx hb' hc' hk'
          rw [hput x hx, Option.bind_some]
          refine ih (n - 1) (putL L x) _ _ _ k' B hc' (by omega) hB (by rw [putL_len]; omega) (fun y hy => ?_) (fun y hy => ?_) (by omega)
          · rcases putL_mem.1 hy with rfl | hy
            · exact hb'
            · exact hb y hy
          · rcases putL_mem.1 hy with rfl | hy
            · rw [hx]; omega
            · exact hr y hy
        split
        · exact step _ c7 _ rfl (hm _ hm1) k7 (by omega)
        · exact step _ c8 _ rfl (hm _ hm0) k8 (by omega)
    · obtain rfl : n = 0 := by omega
      rw [if_neg (by simp)]
      exact ⟨_, _, _, _, _, rfl, by omega, hr, hc.mono (by omega)⟩
theorem plan_ok {fu : Nat} (hfu : 2097153 ≤ fu) {c : L1CurP} {k : Int} (hc : Cur c k) (hk : k ≤ 700000000) : ∃ r c', spec_l1Cur_plan fu c = some (r, c') ∧ PlanD r ∧ r.Lights.length ≤ 8 ∧ 1 ≤ r.Network.Fibers.length ∧ (∀ x ∈ r.Lights, x.Route.Fibers.length ≤ 4) ∧ Cur c' (k + 1000) := by
  unfold spec_l1Cur_plan
  obtain ⟨n, c1, g1, h1, h2, k1⟩ := linked_ok hfu hc (by omega)
  obtain ⟨r2, c2, g2, p0, p1, k2⟩ := pick_ok (fu := fu) k1 (by omega) 9 (by decide)
  have p2 := p1 (by decide)
  obtain ⟨n', L', b', a', s', g3, h3, h4, k3⟩ := plan_loop hfu n.Nodes n.Fibers h1 h2 fu r2.toNat [] c2.code c2.at_ c2.seed (k + 200 + 2) (k + 1000) k2 (by omega) (by omega) (by simp; omega) (by simp) (by simp) (by omega)
  rw [Int.toNat_of_nonneg p0] at g3
  simp only [g1, g2, g3, Option.bind_some]
  exact ⟨_, _, rfl, ⟨h1, by simp only; omega, fun x hx => by have := h4 x hx; omega⟩, h3, h2, h4, k3⟩
theorem anyPlan_loop {fu : Nat} (y : Plan × L1CurP) (h1 : 1 ≤ y.1.Network.Fibers.length) : ∀ (fk n : Nat) (L : List Light) (b : List By) (a : Int) (s : U64) (k B : Int), Cur ⟨b, a, s⟩ k → k ≤ B + 2 * (n : Int) → B ≤ 800000000 → n ≤ 14 → L.length ≤ 13 → (∀ y ∈ L, y.Route.Fibers.length ≤ 20) → 15 - n < fk →
    ∃ n' L' b' a' s', spec_l1Cur_anyPlan_L1 fu y fk (n : Int) L b a s = some (n', L', b', a', s') ∧ L'.length ≤ 13 ∧ (∀ y ∈ L', y.Route.Fibers.length ≤ 20) ∧ Cur ⟨b', a', s'⟩ (B + 60) := by
  intro fk
  induction fk with
  | zero => intro n _ _ _ _ _ _ _ _ _ _ _ _ h; omega
  | succ fk ih =>
    intro n L b a s k B hc hk hB hn hl hr hf
    rw [spec_l1Cur_anyPlan_L1]
    obtain ⟨r1, c1, g1, p0, p1, k1⟩ := pick_ok (fu := fu) hc (by omega) 2 (by decide)
    have p2 := p1 (by decide)
    have e : w64 (12 + r1) = 12 + r1 := w64_in (by omega) (by omega)
    have e1 : w64 ((n : Int) + 1) = ((n + 1 : Nat) : Int) := by rw [w64_in (by omega) (by omega)]; omega
    obtain ⟨e0, he0, -⟩ := idx_some (l := y.1.Network.Fibers) (i := 0) (Int.le_refl _) (by omega)
    have ha : ∀ x : Light, app L [x] = some (L ++ [x]) := fun x => app1 (by omega)
    simp only [g1, Option.bind_some, e, e1, he0, ha]
    split
    · rename_i h
      have h' : (L.length : Int) < 12 + r1 := by simpa using h
      split
      · rename_i h3
        have h3' : (n : Int) < 14 := by simpa using h3
        refine ih (n + 1) _ _ _ _ (k + 2) B k1 (by omega) hB (by omega) (by simp; omega) (fun x hx => ?_) (by omega)
        rcases List.mem_append.1 hx with hx | hx
        · exact hr x hx
        · simp only [List.mem_singleton] at hx; subst hx; simp
      · exact ⟨_, _, _, _, _, rfl, hl, hr, k1.mono (by omega)⟩
    · exact ⟨_, _, _, _, _, rfl, hl, hr, k1.mono (by omega)⟩
theorem anyPlan_ok {fu : Nat} (hfu : 2097153 ≤ fu) {c : L1CurP} {k : Int} (hc : Cur c k) (hk : k ≤ 600000000) : ∃ r c', spec_l1Cur_anyPlan fu c = some (r, c') ∧ PlanD r ∧ Cur c' (k + 3000) := by
  unfold spec_l1Cur_anyPlan
  obtain ⟨p, c1, g1, h1, h2, h3, h4, k1⟩ := plan_ok hfu hc (by omega)
  simp only [g1, Option.bind_some]
  by_cases h : p.Lights.length = 0
  · have h' : ((p.Lights.length : Int) == 0) = true := by simp [h]
    simp only [h', if_true]
    exact ⟨_, _, rfl, h1, k1.mono (by omega)⟩
  have h' : ((p.Lights.length : Int) == 0) = false := by simpa using h
  obtain ⟨r2, c2, g2, p0, p1, k2⟩ := pick_ok (fu := fu) k1 (by omega) (p.Lights.length : Int) (by omega)
  have p2 := p1 (by omega)
  obtain ⟨e, he, hem⟩ := idx_some (l := p.Lights) (i := r2) p0 p2
  obtain ⟨r3, c3, g3, -, -, k3⟩ := pick_ok (fu := fu) k2 (by omega) 24 (by decide)
  obtain ⟨r4, c4, g4, -, k4⟩ := among_ok (fu := fu) k3 (by omega) [0, 999, 1000, 1, 4] (by decide) (by decide)
  obtain ⟨r5, c5, g5, k5⟩ := block_ok (fu := fu) k3 (by omega)
  obtain ⟨r6, c6, g6, h6, k6⟩ := anyRoute_ok hfu k3 (by omega) (n := p.Network) (by have := h1.net.f2; omega) (by have := h1.net.n2; omega)
  obtain ⟨r7, c7, g7, h7, k7⟩ := anyNetwork_ok hfu k3 (by omega)
  obtain ⟨n8, L8, b8, a8, s8, g8, l8, m8, k8⟩ := anyPlan_loop (fu := fu) (p, c1) h3 fu 0 p.Lights c3.code c3.at_ c3.seed (k + 1000 + 2 + 2) (k + 1010) k3 (by omega) (by omega) (by omega) (by omega) (fun x hx => by have := h4 x hx; omega) (by omega)
  rw [Int.ofNat_zero] at g8
  have hr := h4 e hem
  have hset : ∀ (x : Light), x.Route.Fibers.length ≤ 5 → PlanD ⟨p.Network, p.Lights.set r2.toNat x⟩ := fun x hx => ⟨h1.net, by simp only [List.length_set]; omega, fun y hy => by
    rcases List.mem_or_eq_of_mem_set hy with hy | rfl
    · have := h4 y hy; omega
    · omega⟩
  have ha : app p.Lights [e] = some (p.Lights ++ [e]) := app1 (by omega)
  obtain ⟨e9, he9, -⟩ := idx_some (l := p.Lights ++ [e]) (i := r2) p0 (by simp; omega)
  simp only [h', Bool.false_eq_true, if_false, g2, g3, g4, g5, g6, g7, g8, he, ha, he9, Option.bind_some]
  split
  · exact ⟨_, _, rfl, hset _ (by simp only; omega), k4.mono (by omega)⟩
  split
  · exact ⟨_, _, rfl, hset _ (by simp only; omega), k5.mono (by omega)⟩
  split
  · exact ⟨_, _, rfl, hset _ (by simp only; omega), k6.mono (by omega)⟩
  split
  · refine ⟨_, _, rfl, ⟨h1.net, by simp; omega, fun y hy => ?_⟩, k3.mono (by omega)⟩
    rcases List.mem_or_eq_of_mem_set hy with hy | rfl
    · rcases List.mem_append.1 hy with hy | hy
      · have := h4 y hy; omega
      · simp only [List.mem_singleton] at hy; subst hy; omega
    · omega
  split
  · exact ⟨_, _, rfl, ⟨h7, by simp only [List.length_set]; omega, (hset e (by omega)).rs⟩, k7.mono (by omega)⟩
  split
  · exact ⟨_, _, rfl, ⟨h1.net, by simp only; omega, m8⟩, k8.mono (by omega)⟩
  · exact ⟨_, _, rfl, hset _ (by omega), k3.mono (by omega)⟩
end AT
