/- The lowest place of a light, plainly. -/
import Derived.Test.YtlemonjnolciiaaGreatDoorQUsed
import Derived.Test.YtlemonjnolciiaaGreatDoorOk
import Derived.Test.YtlemonjnolciiaaGreatDoorAtL
set_option linter.unusedSimpArgs false
set_option linter.unusedVariables false
namespace AT
theorem app_nil {α : Type} {l : List α} (h : l.length ≤ 1099511627776) : app ([] : List α) l = some l := by rw [app_ok (by simpa using h)]; rfl
theorem l9Copy_eq (fu : Nat) (x : Light) (h : x.Route.Fibers.length ≤ 2097152) : spec_l9Copy fu x = some x := by
  unfold spec_l9Copy spec_l4Own spec_l1Own
  rw [app_nil (by omega)]
  rfl
theorem own_loop {fu : Nat} (p : Plan) (hl : p.Lights.length ≤ 2097152) (hr : ∀ x ∈ p.Lights, x.Route.Fibers.length ≤ 2097152) : ∀ (fk i : Nat) (m : List Light), i ≤ p.Lights.length → p.Lights.length - i < fk → m.length ≤ i → ∃ z, spec_l9Own_L1 fu p fk i m = some (z, m ++ p.Lights.drop i) := by
  intro fk
  induction fk with
  | zero => intro i _ _ h; omega
  | succ fk ih =>
    intro i m hi hk hm
    rw [spec_l9Own_L1]
    by_cases h : i < p.Lights.length
    · have h' : (i : Int) < (p.Lights.length : Int) := by omega
      simp only [h', decide_true, if_true, idx_in h, Option.bind_some, l9Copy_eq fu _ (hr _ (List.getElem_mem h))]
      rw [app_ok (by simp; omega), Option.bind_some, w64_inc h (by omega)]
      obtain ⟨z, hz⟩ := ih (i + 1) (m ++ [p.Lights[i]]) h (by omega) (by simp; omega)
      refine ⟨z, ?_⟩
      rw [hz, List.append_assoc, ← List.getElem_cons_drop h]
      rfl
    · obtain rfl : i = p.Lights.length := by omega
      rw [if_neg (by simp), List.drop_length, List.append_nil]
      exact ⟨_, rfl⟩
theorem l9Own_eq {fu : Nat} (hfu : 2097153 ≤ fu) (p : Plan) (hB : PlanB p) : spec_l9Own fu p = some p := by
  obtain ⟨hN, hL, hR⟩ := hB
  unfold spec_l9Own spec_l2Own
  have h1 := hN.1.1
  have h2 := hN.2
  rw [app_nil (by omega), Option.bind_some, app_nil (by omega)]
  obtain ⟨z, hz⟩ := own_loop (fu := fu) p hL hR fu 0 [] (by omega) (by omega) (by simp)
  rw [show ((0 : Nat) : Int) = 0 from rfl] at hz
  simp only [Option.bind_some, hz, List.nil_append, List.drop_zero]
theorem along_loop {fu : Nat} (hfu : 2097153 ≤ fu) (p : Plan) (r : Route) (hl : p.Lights.length ≤ 2097152) (hb : ∀ y ∈ p.Lights, blkOk y.Block = true) (hr : ∀ x ∈ p.Lights, x.Route.Fibers.length ≤ 2097152) (hrl : r.Fibers.length ≤ 2097152) : ∀ (fk i : Nat) (o : Int), i ≤ r.Fibers.length → r.Fibers.length - i < fk →
    ∃ z, spec_l9Along_L1 fu p r fk o i = some ((r.Fibers.drop i).foldl (fun o f => bor o (used p.Lights f)) o, z) := by
  intro fk
  induction fk with
  | zero => intro i _ _ h; omega
  | succ fk ih =>
    intro i o hi hk
    rw [spec_l9Along_L1]
    by_cases h : i < r.Fibers.length
    · have h' : (i : Int) < (r.Fibers.length : Int) := by omega
      simp only [h', decide_true, if_true, idx_in h, Option.bind_some, l9Used_eq hfu p _ hl hb hr]
      rw [← List.getElem_cons_drop h, List.foldl_cons, w64_inc h (by omega)]
      exact ih (i + 1) _ h (by omega)
    · obtain rfl : i = r.Fibers.length := by omega
      rw [if_neg (by simp), List.drop_length]
      exact ⟨_, rfl⟩
theorem l9Along_eq {fu : Nat} (hfu : 2097153 ≤ fu) (p : Plan) (r : Route) (hl : p.Lights.length ≤ 2097152) (hb : ∀ y ∈ p.Lights, blkOk y.Block = true) (hr : ∀ x ∈ p.Lights, x.Route.Fibers.length ≤ 2097152) (hrl : r.Fibers.length ≤ 2097152) : spec_l9Along fu p r = some (along p.Lights r.Fibers) := by
  unfold spec_l9Along
  obtain ⟨z, hz⟩ := along_loop hfu p r hl hb hr hrl fu 0 0 (by omega) (by omega)
  rw [show ((0 : Nat) : Int) = 0 from rfl, List.drop_zero] at hz
  rw [hz]
  rfl
def fits (m C : Int) : List Int := ((List.range' 0 (25 - C.toNat)).filter fun t : Nat => apart m (bits ⟨(t : Int), C⟩)).map fun t : Nat => (t : Int)
theorem fits_loop {fu : Nat} (m C : Int) (N : Nat) (hN : (N : Int) + C = 25) (h1 : 1 ≤ C) : ∀ (fk k s : Nat) (out : List Int), N = s + k → k < fk → out.length ≤ s →
    ∃ z, spec_l8Fits_L1 fu m C fk out s = some (out ++ (((List.range' s k).filter fun t : Nat => apart m (bits ⟨(t : Int), C⟩)).map fun t : Nat => (t : Int)), z) := by
  intro fk
  induction fk with
  | zero => intro k s _ _ h; omega
  | succ fk ih =>
    intro k s out hs hk ho
    have hw0 : w64 ((s : Int) + C) = (s : Int) + C := w64_in (by omega) (by omega)
    rw [spec_l8Fits_L1, hw0]
    clear hw0
    cases k with
    | zero =>
      have h' : ¬ (s : Int) + C ≤ 24 := by omega
      simp only [h', decide_false, Bool.false_eq_true, if_false, List.range'_zero, List.filter_nil, List.map_nil, List.append_nil]
      exact ⟨_, rfl⟩
    | succ k =>
      have h' : (s : Int) + C ≤ 24 := by omega
      have hb : blkOk ⟨(s : Int), C⟩ = true := by simp only [blkOk, Bool.and_eq_true, decide_eq_true_eq]; omega
      obtain ⟨c, hc⟩ : ∃ c, apart m (bits ⟨(s : Int), C⟩) = c := ⟨_, rfl⟩
      obtain ⟨b, hb1, hb2⟩ : ∃ b, spec_l8Bits fu ⟨(s : Int), C⟩ = some b ∧ (band m b == 0) = c := ⟨_, l8Bits_eq hb, hc⟩
      have hw : w64 ((s : Int) + 1) = ((s + 1 : Nat) : Int) := by rw [w64_in (by omega) (by omega)]; omega
      rw [List.range'_succ, List.filter_cons, hc, hb1]
      clear hb1 hc hb
      rw [if_pos (by simpa using h'), Option.bind_some, hb2, hw]
      clear hw hb2
      cases c
      · rw [if_neg (by decide), if_neg (by decide)]
        exact ih k (s + 1) out (by omega) (by omega) (by omega)
      · have ha : app out [(s : Int)] = some (out ++ [(s : Int)]) := app_ok (by simp; omega)
        rw [if_pos rfl, if_pos rfl, ha, Option.bind_some]
        obtain ⟨z, hz⟩ := ih k (s + 1) (out ++ [(s : Int)]) (by omega) (by omega) (by simp; omega)
        exact ⟨z, by rw [hz, List.map_cons, List.append_assoc, List.singleton_append]⟩
theorem l8Fits_eq {fu : Nat} (hfu : 2097153 ≤ fu) (m C : Int) (h1 : 1 ≤ C) (h2 : C ≤ 24) : spec_l8Fits fu m C = some (fits m C) := by
  unfold spec_l8Fits fits
  obtain ⟨N, hN⟩ : ∃ N, N = 25 - C.toNat := ⟨_, rfl⟩
  rw [← hN]
  obtain ⟨z, hz⟩ := fits_loop (fu := fu) m C N (by omega) h1 fu N 0 [] (by omega) (by omega) (by simp)
  rw [show ((0 : Nat) : Int) = 0 from rfl] at hz
  rw [hz]
  rfl
theorem fits_mem {m C : Int} {s : Int} (h1 : 1 ≤ C) (h2 : C ≤ 24) : s ∈ fits m C ↔ 0 ≤ s ∧ s + C ≤ 24 ∧ apart m (bits ⟨s, C⟩) = true := by
  unfold fits
  simp only [List.mem_map, List.mem_filter, List.mem_range'_1]
  constructor
  · rintro ⟨t, ⟨⟨-, ht⟩, ha⟩, rfl⟩
    exact ⟨by omega, by omega, ha⟩
  · rintro ⟨h0, h3, ha⟩
    refine ⟨s.toNat, ⟨⟨by omega, by omega⟩, ?_⟩, by omega⟩
    rw [Int.toNat_of_nonneg h0]
    exact ha
theorem fits_len (m C : Int) : (fits m C).length ≤ 25 := by
  unfold fits
  rw [List.length_map]
  refine Nat.le_trans (List.length_filter_le _ _) ?_
  rw [List.length_range']
  omega
structure PlanI (p : Plan) : Prop where
  ids : ∀ i j, i < j → j < p.Lights.length → (gd p.Lights i l0).Id < (gd p.Lights j l0).Id
end AT

namespace AT
end AT

namespace AT
open Go.Lib (index occAt itoa)
def lineL (n : Network) (x : Light) : List UInt8 := [108, 105, 103, 104, 116] ++ tailsOf 32 [itoa x.Id, fmtRt n x.Route, fmtB x.Block]
def fmtP (p : Plan) : List UInt8 := fmtN p.Network ++ textOf (p.Lights.map (lineL p.Network))
structure LgF (n : Network) (x : Light) : Prop where
  i : NumB x.Id
  r : rtOk n x.Route = true
  b : blkOk x.Block = true
  k : x.Route.Fibers.length ≤ 7
theorem lgF {n : Network} (hn : netOk n = true) {x : Light} (h : LightF n x) : LgF n x := by
  obtain ⟨o, ho⟩ := h.route
  have := h.id
  exact ⟨⟨by omega, by omega⟩, by unfold rtOk; rw [hn, ho]; rfl, h.blk, h.short⟩
theorem LgF.len {n : Network} {x : Light} (h : LgF n x) : (fmtRt n x.Route).length ≤ 150 ∧ (lineL n x).length ≤ 177 := by
  obtain ⟨hn, o, ho, e⟩ := rtOk_some h.r
  have h1 := fmtR_len (netN hn) (rtF hn ho)
  have h2 := (itoa_facts h.i).2.1
  have h3 := fmtB_len h.b
  rw [← e] at h1
  refine ⟨h1, ?_⟩
  unfold lineL tailsOf
  simp
  omega
theorem formatP_loop {fu : Nat} (hfu : 2097153 ≤ fu) {p : Plan} (hn : netOk p.Network = true) (hL : ∀ x ∈ p.Lights, LgF p.Network x) (hl : p.Lights.length ≤ 1000) : ∀ (fk i : Nat) (a : List UInt8), i ≤ p.Lights.length → p.Lights.length - i < fk → a.length ≤ 10000 + 1000 * i → ∃ z, impl_FormatPlan_L1 fu p fk (mkB a) i = some (mkB (a ++ textOf ((p.Lights.drop i).map (lineL p.Network))), z)
  | 0, i, a, hi, hf, ha => by omega
  | fk + 1, i, a, hi, hf, ha => by
    rw [impl_FormatPlan_L1]
    by_cases h : i < p.Lights.length
    · have hx := hL _ (List.getElem_mem h)
      obtain ⟨hlr, hll⟩ := hx.len
      have h2 := (itoa_facts hx.i).2.1
      have h3 := fmtB_len hx.b
      obtain ⟨-, o, ho, e⟩ := rtOk_some hx.r
      have g32 : (⟨#[32]⟩ : ByteArray) = mkB [32] := rfl
      have g10 : (⟨#[10]⟩ : ByteArray) = mkB [10] := rfl
      have gl : (⟨#[108, 105, 103, 104, 116, 32]⟩ : ByteArray) = mkB [108, 105, 103, 104, 116, 32] := rfl
      have er : impl_routeText fu p.Network p.Lights[i].Route = some (mkB (fmtRt p.Network p.Lights[i].Route)) := by rw [routeText_eq hfu hn ho, e]
      rw [if_pos (by simpa using h), idx_in h, Option.bind_some]
      unfold strconv_Itoa
      rw [itoaO_mk hx.i, Option.bind_some, gl, scat_mk (by simp; omega), Option.bind_some, g32, scat_mk (by simp; omega), Option.bind_some, er, Option.bind_some, scat_mk (by simp; omega), Option.bind_some, scat_mk (by simp; omega), Option.bind_some, blockText_eq hx.b, Option.bind_some, scat_mk (by simp; omega), Option.bind_some, g10, scat_mk (by simp; omega), Option.bind_some, scat_mk (by simp; omega), Option.bind_some, w64_inc h (by omega)]
      obtain ⟨z, hz⟩ := formatP_loop hfu hn hL hl fk (i + 1) (a ++ (lineL p.Network p.Lights[i] ++ [10])) h (by omega) (by simp; omega)
      refine ⟨z, ?_⟩
      have e2 : a ++ (lineL p.Network p.Lights[i] ++ [10]) ++ textOf ((p.Lights.drop (i + 1)).map (lineL p.Network)) = a ++ textOf ((p.Lights.drop i).map (lineL p.Network)) := by
        rw [← List.getElem_cons_drop h, List.map_cons, textOf_cons]
        simp
      rw [← e2, ← hz]
      congr 2
      unfold lineL tailsOf
      simp
    · have e : i = p.Lights.length := by omega
      subst e
      rw [if_neg (by simp), List.drop_length, List.map_nil]
      exact ⟨_, by rw [show textOf [] = [] from rfl, List.append_nil]⟩
theorem fmtP_len {p : Plan} (h : planOk p = true) : (fmtP p).length ≤ 4000 := by
  have hF := planF h
  have h1 := fmtN_len hF.net
  have h2 := text_len (n := p.Network) 177 (p.Lights.map (lineL p.Network)) fun x hx => by
    obtain ⟨y, hy, rfl⟩ := List.mem_map.1 hx
    exact (lgF hF.net (hF.light y hy)).len.2
  have h3 := hF.short
  unfold fmtP
  simp only [List.length_append, List.length_map] at h2 ⊢
  omega
theorem formatP_eq {fu : Nat} (hfu : 2097153 ≤ fu) (p : Plan) (hB : PlanB p) : impl_FormatPlan fu p = some (if planOk p = true then (mkB (fmtP p), true) else (ByteArray.empty, false)) := by
  unfold impl_FormatPlan
  rw [implPlan_eq hfu p hB, Option.bind_some]
  by_cases h : planOk p = true
  · have hF := planF h
    have h1 := fmtN_len hF.net
    rw [h, if_neg (by decide), if_pos rfl, formatN_eq hfu _ hB.1, if_pos hF.net, Option.bind_some]
    obtain ⟨z, hz⟩ := formatP_loop (fu := fu) hfu hF.net (fun x hx => lgF hF.net (hF.light x hx)) (by have := hF.short; omega) fu 0 (fmtN p.Network) (by omega) (by have := hF.short; omega) (by omega)
    rw [show ((0 : Nat) : Int) = 0 from rfl] at hz
    dsimp only
    rw [hz, Option.bind_some, List.drop_zero]
    rfl
  · rw [Bool.not_eq_true] at h
    rw [h]
    rfl
theorem readL_ex {fu : Nat} (hfu : 2097153 ≤ fu) {n : Network} (hB : NetB n) {l : List UInt8} (h : l.length ≤ 1000000) : ∃ x b, impl_readLight fu n (mkB l) = some (x, b) ∧ x.Route.Fibers.length ≤ 2097152 := by
  unfold impl_readLight strings_Split impl_ParseInt
  rw [show (⟨#[32]⟩ : ByteArray) = mkB [32] from rfl, splitO_mk (by omega), Option.bind_some]
  have hs := splitL_len 32 l
  have hp := parts_mk (c := 32) (l := l) (k := 1000000) h
  generalize (splitL 32 l).map mkB = w at hp
  by_cases h4 : (w.length : Int) = 4
  · have i1 := idx_in (l := w) (i := 1) (by omega)
    have i2 := idx_in (l := w) (i := 2) (by omega)
    have i3 := idx_in (l := w) (i := 3) (by omega)
    obtain ⟨n1, b1, p1, -⟩ := parse_ex w[1]
    obtain ⟨r, b2, p2, hr⟩ := parseR_ex (fu := fu) hfu hB (btl w[2]) (by rw [len_bl]; exact hp _ (List.getElem_mem _))
    obtain ⟨c, b3, p3⟩ := parseB_ex fu (btl w[3]) (by rw [len_bl]; exact hp _ (List.getElem_mem _))
    rw [mk_bl] at p2 p3
    rw [if_neg (by simp [h4]), show (1 : Int) = ((1 : Nat) : Int) from rfl, i1, Option.bind_some, p1, Option.bind_some, show (2 : Int) = ((2 : Nat) : Int) from rfl, i2, Option.bind_some, p2, Option.bind_some, show (3 : Int) = ((3 : Nat) : Int) from rfl, i3, Option.bind_some, p3, Option.bind_some]
    repeat' split
    all_goals exact ⟨_, _, rfl, hr⟩
  · rw [if_pos (by simpa using h4)]
    exact ⟨_, _, rfl, by simp⟩
theorem mem_parts {n : Network} {r : Route} {o : List Int} (hN : NetN n) (h : RtF n r o) {c : UInt8} (hc : c.toNat < 46) : c ∉ fmtR n r o := fun hm => by
  unfold fmtR at hm
  rcases List.mem_append.1 hm with hm | hm
  · exact nm_not hN h.s (by omega) hm
  · rcases tails_mem hm with hm | ⟨x, hx, hm⟩
    · subst hm; revert hc; decide
    · exact partsR_all (p := fun x => c ∉ x) r.Fibers o.tail (fun f hf => itoa_not (h.f f hf) (by omega)) (fun v hv => nm_not hN (h.vt.2 v hv) (by omega)) x hx hm
theorem LgF.nots {n : Network} {x : Light} (h : LgF n x) {c : UInt8} (hc : c.toNat < 43) : c ∉ itoa x.Id ∧ c ∉ fmtRt n x.Route ∧ c ∉ fmtB x.Block := by
  obtain ⟨hn, o, ho, e⟩ := rtOk_some h.r
  obtain ⟨b1, b2⟩ := blkB h.b
  refine ⟨itoa_not h.i (by omega), ?_, fun hm => ?_⟩
  · rw [e]
    exact mem_parts (netN hn) (rtF hn ho) (by omega)
  · unfold fmtB at hm
    rcases List.mem_append.1 hm with hm | hm
    · exact itoa_not b1 (by omega) hm
    · rcases List.mem_cons.1 hm with hm | hm
      · subst hm; revert hc; decide
      · exact itoa_not b2 (by omega) hm
theorem readL_back {fu : Nat} (hfu : 2097153 ≤ fu) {n : Network} {x : Light} (h : LgF n x) : impl_readLight fu n (mkB (lineL n x)) = some (x, true) := by
  have hl := h.len.2
  obtain ⟨q1, q2, q3⟩ := h.nots (c := 32) (by decide)
  unfold impl_readLight strings_Split impl_ParseInt
  have hs : splitL 32 (lineL n x) = [[108, 105, 103, 104, 116], itoa x.Id, fmtRt n x.Route, fmtB x.Block] := by
    unfold lineL
    refine splitL_join (by decide) fun p hp => ?_
    simp only [List.mem_cons, List.not_mem_nil, or_false] at hp
    rcases hp with rfl | rfl | rfl
    · exact q1
    · exact q2
    · exact q3
  rw [show (⟨#[32]⟩ : ByteArray) = mkB [32] from rfl, splitO_mk (by omega), hs, Option.bind_some]
  simp only [List.map_cons, List.map_nil]
  rw [if_neg (by simp), idx1, Option.bind_some, parse_back h.i, Option.bind_some, idx2, Option.bind_some, parseR_back hfu h.r, Option.bind_some, idx3, Option.bind_some, parseB_back h.b, Option.bind_some]
  rfl
theorem parseP_loop_ex {fu : Nat} (hfu : 2097153 ≤ fu) {n : Network} (hB : NetB n) (c : Bool) {w : List ByteArray} (hs : ∀ s ∈ w, s.size ≤ 1000000) (hw : w.length ≤ 100000) (d : Bool) : ∀ (fk i : Nat) (m : List Light), i ≤ w.length → w.length - i < fk → m.length ≤ i → (∀ x ∈ m, x.Route.Fibers.length ≤ 2097152) →
    ∃ out, impl_ParsePlan_L1 fu (n, c) (w, d) fk i m = some out ∧ (out = .ret (⟨⟨[], []⟩, []⟩, false) ∨ ∃ z m', out = .next (z, m') ∧ m'.length ≤ w.length ∧ ∀ x ∈ m', x.Route.Fibers.length ≤ 2097152)
  | 0, i, m, hi, hf, hm, hx => by omega
  | fk + 1, i, m, hi, hf, hm, hx => by
    rw [impl_ParsePlan_L1]
    dsimp only
    by_cases h : i < w.length
    · obtain ⟨x, b, hr, hxr⟩ := readL_ex (fu := fu) hfu hB (l := btl w[i]) (by rw [len_bl]; exact hs _ (List.getElem_mem h))
      rw [mk_bl] at hr
      rw [if_pos (by simpa using h), idx_in h, Option.bind_some, hr, Option.bind_some]
      cases b with
      | false => exact ⟨_, rfl, .inl rfl⟩
      | true =>
        rw [if_neg (by simp), app_ok (by simp; omega), Option.bind_some, w64_inc h (by omega)]
        refine parseP_loop_ex hfu hB c hs hw d fk (i + 1) _ h (by omega) (by simp; omega) fun y hy => ?_
        rcases List.mem_append.1 hy with hy | hy
        · exact hx y hy
        · rw [List.mem_singleton] at hy; subst hy; exact hxr
    · have e : i = w.length := by omega
      subst e
      rw [if_neg (by simp)]
      exact ⟨_, rfl, .inr ⟨_, _, rfl, hm, hx⟩⟩
theorem zero_PB : PlanB ⟨⟨[], []⟩, []⟩ := ⟨zero_NB, by simp, by simp⟩
theorem fmt_end {fu : Nat} (hfu : 2097153 ≤ fu) {q : Plan} (hB : PlanB q) (l : List UInt8) : ∃ w b, ((impl_FormatPlan fu q).bind fun y5 => (if !y5.2 then some true else some (!(y5.1.toList == (mkB l).toList))).bind fun c9 => if c9 then some ((⟨⟨[], []⟩, []⟩ : Plan), false) else some (q, true)) = some (w, b) ∧ PlanB w ∧ (b = true → planOk w = true ∧ fmtP w = l) := by
  rw [formatP_eq hfu q hB, Option.bind_some]
  by_cases h : planOk q = true
  · rw [if_pos h, if_neg (by simp), Option.bind_some, toL_mk, toL_mk]
    by_cases e : fmtP q = l
    · rw [if_neg (by simp [e])]
      exact ⟨_, _, rfl, hB, fun _ => ⟨h, e⟩⟩
    · rw [if_pos (by simp [e])]
      exact ⟨_, _, rfl, zero_PB, fun h => by cases h⟩
  · rw [if_neg h, if_pos (by simp), Option.bind_some, if_pos rfl]
    exact ⟨_, _, rfl, zero_PB, fun h => by cases h⟩
theorem parseP_ex {fu : Nat} (hfu : 2097153 ≤ fu) (l : List UInt8) (h : l.length ≤ 1000000) : ∃ w b, impl_ParsePlan fu (mkB l) = some (w, b) ∧ PlanB w ∧ (b = true → planOk w = true ∧ fmtP w = l) := by
  unfold impl_ParsePlan strings_Cut
  rw [show (⟨#[10, 108, 105, 103, 104, 116, 32]⟩ : ByteArray) = mkB [10, 108, 105, 103, 104, 116, 32] from rfl, cutO_mk (by omega), Option.bind_some]
  obtain ⟨hc1, hc2⟩ := cut_len l [10, 108, 105, 103, 104, 116, 32]
  generalize Go.Lib.cut l [10, 108, 105, 103, 104, 116, 32] = c at hc1 hc2
  obtain ⟨a, t, f⟩ := c
  dsimp only at hc1 hc2 ⊢
  cases f with
  | true =>
    rw [if_pos rfl, show (⟨#[10]⟩ : ByteArray) = mkB [10] from rfl, scat_mk (by simp; omega), Option.bind_some, show (⟨#[108, 105, 103, 104, 116, 32]⟩ : ByteArray) = mkB [108, 105, 103, 104, 116, 32] from rfl, scat_mk (by simp; omega), Option.bind_some]
    obtain ⟨m, b, hm, -, hB⟩ := parseN_ex (fu := fu) hfu (a ++ [10]) (by simp; omega)
    rw [hm, Option.bind_some, size_mk]
    cases b with
    | false => exact ⟨_, _, rfl, zero_PB, fun h => by cases h⟩
    | true =>
      rw [if_neg (by simp), Option.bind_some]
      by_cases h4 : (l.length : Int) > 4000
      · rw [decide_eq_true h4, if_pos rfl]
        exact ⟨_, _, rfl, zero_PB, fun h => by cases h⟩
      · rw [decide_eq_false h4, if_neg (by decide), if_pos rfl, linesOf_eq _ (by simp; omega), Option.bind_some]
        split
        · rename_i hh
          rw [if_neg (by simp)]
          have hlen := splitL_len 10 ([108, 105, 103, 104, 116, 32] ++ t).dropLast
          have hdl : (([108, 105, 103, 104, 116, 32] ++ t).dropLast).length ≤ 5000 := by rw [List.length_dropLast]; simp; omega
          have hp := parts_mk (c := 10) (l := ([108, 105, 103, 104, 116, 32] ++ t).dropLast) (k := 5000) hdl
          have hwl : ((splitL 10 ([108, 105, 103, 104, 116, 32] ++ t).dropLast).map mkB).length = (splitL 10 ([108, 105, 103, 104, 116, 32] ++ t).dropLast).length := List.length_map ..
          generalize (splitL 10 ([108, 105, 103, 104, 116, 32] ++ t).dropLast).map mkB = w at hp hwl
          obtain ⟨out, ho, hcase⟩ := parseP_loop_ex (fu := fu) hfu hB true (w := w) (fun s hs => by have := hp s hs; omega) (by omega) true fu 0 [] (by omega) (by omega) (by simp) (by simp)
          rw [show ((0 : Nat) : Int) = 0 from rfl] at ho
          rw [ho, Option.bind_some]
          rcases hcase with rfl | ⟨z, m', rfl, hm1, hm2⟩
          · exact ⟨_, _, rfl, zero_PB, fun h => by cases h⟩
          · rw [Out.on]
            exact fmt_end hfu (q := ⟨m, m'⟩) ⟨hB, by simp only; omega, hm2⟩ l
        · rw [if_pos (by simp)]
          exact ⟨_, _, rfl, zero_PB, fun h => by cases h⟩
  | false =>
    rw [if_neg (by decide)]
    obtain ⟨m, b, hm, -, hB⟩ := parseN_ex (fu := fu) hfu a (by omega)
    rw [hm, Option.bind_some, size_mk]
    cases b with
    | false => exact ⟨_, _, rfl, zero_PB, fun h => by cases h⟩
    | true =>
      rw [if_neg (by simp), Option.bind_some]
      by_cases h4 : (l.length : Int) > 4000
      · rw [decide_eq_true h4, if_pos rfl]
        exact ⟨_, _, rfl, zero_PB, fun h => by cases h⟩
      · rw [decide_eq_false h4, if_neg (by decide), if_neg (by decide)]
        exact fmt_end hfu (q := ⟨m, []⟩) ⟨hB, by simp, by simp⟩ l
theorem occ_at {s t : List UInt8} {a b : UInt8} {i : Nat} (h : occAt s (a :: b :: t) i = true) : s[i]? = some a ∧ s[i + 1]? = some b := by
  unfold occAt at h
  rw [List.isPrefixOf_iff_prefix] at h
  obtain ⟨u, hu⟩ := h
  have e0 : s[i]? = (s.drop i)[0]? := by rw [List.getElem?_drop]; rfl
  have e1 : s[i + 1]? = (s.drop i)[1]? := by rw [List.getElem?_drop]
  rw [e0, e1, ← hu]
  exact ⟨rfl, rfl⟩
def NLs (l : List UInt8) : Prop := ∀ i : Nat, l[i]? = some 10 → l[i + 1]? ≠ some 108
theorem nls_text : ∀ (ls : List (List UInt8)), (∀ x ∈ ls, (10 : UInt8) ∉ x ∧ ∃ b t, x = b :: t ∧ b ≠ 108) → NLs (textOf ls)
  | [], _, i, h => by simp [textOf] at h
  | x :: r, hx, i, h => by
    have ih := nls_text r fun y hy => hx y (List.mem_cons_of_mem _ hy)
    obtain ⟨h10, -⟩ := hx x (List.mem_cons_self ..)
    rw [textOf_cons, List.append_assoc] at h ⊢
    by_cases h1 : i < x.length
    · rw [List.getElem?_append_left h1] at h
      exact absurd (List.mem_of_getElem? h) h10
    · by_cases h2 : i = x.length
      · subst h2
        rw [List.getElem?_append_right (by omega), show x.length + 1 - x.length = 1 by omega]
        cases r with
        | nil => simp [textOf]
        | cons y r =>
          obtain ⟨-, b, t, rfl, hb⟩ := hx y (by simp)
          rw [textOf_cons]
          simp [hb]
      · obtain ⟨k, rfl⟩ : ∃ k, i = x.length + 1 + k := ⟨i - x.length - 1, by omega⟩
        rw [List.getElem?_append_right (by omega), show x.length + 1 + k - x.length = k + 1 by omega] at h
        rw [List.getElem?_append_right (by omega), show x.length + 1 + k + 1 - x.length = k + 1 + 1 by omega]
        simp only [List.cons_append, List.nil_append, List.getElem?_cons_succ] at h ⊢
        exact ih k h
theorem nls_N {n : Network} (h : netOk n = true) : NLs (fmtN n) := by
  have hN := netN h
  have hF := netF h
  refine nls_text _ fun x hx => ?_
  rcases List.mem_cons.1 hx with rfl | hx
  · exact ⟨headN_not hN, _, _, rfl, by decide⟩
  · obtain ⟨f, hf, rfl⟩ := List.mem_map.1 hx
    exact ⟨line_not hN (hF.fb hf) (by decide), _, _, rfl, by decide⟩
theorem parseP_loop {fu : Nat} (hfu : 2097153 ≤ fu) {n : Network} {L : List Light} (hL : ∀ x ∈ L, LgF n x) (hl : L.length ≤ 1000) (c d : Bool) : ∀ (fk i : Nat), i ≤ L.length → L.length - i < fk → ∃ z, impl_ParsePlan_L1 fu (n, c) ((L.map (lineL n)).map mkB, d) fk i (L.take i) = some (.next (z, L))
  | 0, i, hi, hf => by omega
  | fk + 1, i, hi, hf => by
    have hm : ((L.map (lineL n)).map mkB).length = L.length := by simp
    rw [impl_ParsePlan_L1]
    dsimp only
    rw [hm]
    by_cases h : i < L.length
    · obtain ⟨z, hz⟩ := parseP_loop hfu hL hl c d fk (i + 1) h (by omega)
      have ht : (L.take i).length = i := by rw [List.length_take]; omega
      rw [if_pos (by simpa using h), idx_in (by omega), Option.bind_some, List.getElem_map, List.getElem_map, readL_back hfu (hL _ (List.getElem_mem h)), Option.bind_some, if_neg (by simp), app_ok (by rw [ht]; simp; omega), Option.bind_some, w64_inc h (by omega)]
      refine ⟨z, ?_⟩
      rw [← hz, List.take_add_one, List.getElem?_eq_getElem h]
      rfl
    · have e : i = L.length := by omega
      subst e
      rw [if_neg (by simp), List.take_length]
      exact ⟨_, rfl⟩
theorem fmt_same {fu : Nat} (hfu : 2097153 ≤ fu) {q : Plan} (h : planOk q = true) (hB : PlanB q) : ((impl_FormatPlan fu q).bind fun y5 => (if !y5.2 then some true else some (!(y5.1.toList == (mkB (fmtP q)).toList))).bind fun c9 => if c9 then some ((⟨⟨[], []⟩, []⟩ : Plan), false) else some (q, true)) = some (q, true) := by
  rw [formatP_eq hfu q hB, Option.bind_some, if_pos h, if_neg (by simp), Option.bind_some, if_neg (by simp)]
theorem planB_of {p : Plan} (h : planOk p = true) : PlanB p := by
  have hF := planF h
  exact ⟨netB_of hF.net, by have := hF.short; omega, fun x hx => by have := (hF.light x hx).short; omega⟩
theorem parseP_back {fu : Nat} (hfu : 2097153 ≤ fu) {p : Plan} (h : planOk p = true) : impl_ParsePlan fu (mkB (fmtP p)) = some (p, true) := by
  have hF := planF h
  have hB := planB_of h
  have hlen := fmtP_len h
  have hnl := nls_N hF.net
  have hL : ∀ x ∈ p.Lights, LgF p.Network x := fun x hx => lgF hF.net (hF.light x hx)
  have h12 := hF.short
  unfold impl_ParsePlan strings_Cut
  rw [show (⟨#[10, 108, 105, 103, 104, 116, 32]⟩ : ByteArray) = mkB [10, 108, 105, 103, 104, 116, 32] from rfl, cutO_mk (by omega), Option.bind_some]
  obtain ⟨n, L⟩ := p
  dsimp only at *
  cases L with
  | nil =>
    have e : fmtP ⟨n, []⟩ = fmtN n := by unfold fmtP textOf; simp
    have hi : index (fmtN n) [10, 108, 105, 103, 104, 116, 32] = -1 := Go.Lib.index_none fun j _ => by
      rw [Bool.eq_false_iff]
      intro ho
      obtain ⟨o1, o2⟩ := occ_at ho
      exact hnl j o1 o2
    rw [e, cut_no hi]
    dsimp only
    rw [if_neg (by decide), parseN_back hfu hF.net, Option.bind_some, if_neg (by simp), size_mk, decide_eq_false (by rw [e] at hlen; omega), Option.bind_some, if_neg (by decide), if_neg (by decide)]
    have := fmt_same (fu := fu) hfu h hB
    rwa [e] at this
  | cons x L =>
    obtain ⟨A, hA⟩ : ∃ A, fmtN n = A ++ [10] := ⟨_, textOf_eq _ _⟩
    obtain ⟨t, ht⟩ : ∃ t, textOf ((x :: L).map (lineL n)) = [108, 105, 103, 104, 116, 32] ++ t := by
      have e1 : lineL n x = [108, 105, 103, 104, 116, 32] ++ (itoa x.Id ++ tailsOf 32 [fmtRt n x.Route, fmtB x.Block]) := by unfold lineL tailsOf; simp
      exact ⟨itoa x.Id ++ tailsOf 32 [fmtRt n x.Route, fmtB x.Block] ++ [10] ++ textOf (L.map (lineL n)), by rw [List.map_cons, textOf_cons, e1]; simp⟩
    have e : fmtP ⟨n, x :: L⟩ = A ++ ([10, 108, 105, 103, 104, 116, 32] ++ t) := by
      unfold fmtP
      rw [hA, ht]
      simp
    have hi : index (A ++ ([10, 108, 105, 103, 104, 116, 32] ++ t)) [10, 108, 105, 103, 104, 116, 32] = (A.length : Int) := Go.Lib.index_first (by simp) (by unfold occAt; rw [List.drop_left, List.isPrefixOf_iff_prefix]; exact ⟨t, rfl⟩) fun j hj => by
      rw [Bool.eq_false_iff]
      intro ho
      obtain ⟨o1, o2⟩ := occ_at ho
      rw [hA] at hnl
      have f1 : (A ++ [10])[j]? = some 10 := by rw [List.getElem?_append_left hj] at o1 ⊢; exact o1
      refine hnl j f1 ?_
      by_cases hj2 : j + 1 < A.length
      · rw [List.getElem?_append_left hj2] at o2 ⊢; exact o2
      · have ej : j + 1 = A.length := by omega
        rw [ej, List.getElem?_append_right (Nat.le_refl _), Nat.sub_self] at o2
        simp at o2
    rw [e, cut_at hi]
    have c1 : (A ++ ([10, 108, 105, 103, 104, 116, 32] ++ t)).take A.length = A := List.take_left
    have c2 : (A ++ ([10, 108, 105, 103, 104, 116, 32] ++ t)).drop (A.length + ([10, 108, 105, 103, 104, 116, 32] : List UInt8).length) = t := by
      rw [← List.drop_drop, List.drop_left, List.drop_left]
    rw [c1, c2]
    dsimp only
    have hA1 : A.length ≤ 4000 := by rw [e] at hlen; simp at hlen; omega
    have ht1 : t.length ≤ 4000 := by rw [e] at hlen; simp at hlen; omega
    rw [if_pos rfl, show (⟨#[10]⟩ : ByteArray) = mkB [10] from rfl, scat_mk (by simp; omega), Option.bind_some, show (⟨#[108, 105, 103, 104, 116, 32]⟩ : ByteArray) = mkB [108, 105, 103, 104, 116, 32] from rfl, scat_mk (by simp; omega), Option.bind_some, ← hA, ← ht, parseN_back hfu hF.net, Option.bind_some, if_neg (by simp), size_mk, decide_eq_false (by rw [e] at hlen; omega), Option.bind_some, if_neg (by decide), if_pos rfl]
    have hlines : impl_linesOf fu (mkB (textOf ((x :: L).map (lineL n)))) = some (((x :: L).map (lineL n)).map mkB, true) := by
      have hlt : (textOf ((x :: L).map (lineL n))).length ≤ 4000 := by
        have : (fmtP ⟨n, x :: L⟩).length = (fmtN n).length + (textOf ((x :: L).map (lineL n))).length := by unfold fmtP; rw [List.length_append]
        omega
      have hno : ∀ y ∈ x :: L, (10 : UInt8) ∉ lineL n y := fun y hy hm => by
        obtain ⟨q1, q2, q3⟩ := (hL y hy).nots (c := 10) (by decide)
        unfold lineL at hm
        rcases List.mem_append.1 hm with hm | hm
        · revert hm; decide
        · rcases tails_mem hm with hm | ⟨z, hz, hm⟩
          · revert hm; decide
          · simp only [List.mem_cons, List.not_mem_nil, or_false] at hz
            rcases hz with rfl | rfl | rfl
            · exact q1 hm
            · exact q2 hm
            · exact q3 hm
      rw [List.map_cons] at hlt ⊢
      exact lines_back hlt (hno x (by simp)) fun p hp => by
        obtain ⟨y, hy, rfl⟩ := List.mem_map.1 hp
        exact hno y (List.mem_cons_of_mem _ hy)
    rw [hlines, Option.bind_some, if_neg (by simp)]
    obtain ⟨z, hz⟩ := parseP_loop (fu := fu) hfu hL (by omega) true true fu 0 (by omega) (by omega)
    rw [show ((0 : Nat) : Int) = 0 from rfl, List.take_zero] at hz
    rw [hz, Option.bind_some, Out.on]
    have := fmt_same (fu := fu) hfu h hB
    rwa [e] at this
end AT

namespace AT
structure Cur (c : L1CurP) (k : Int) : Prop where
  by_ : ∀ e ∈ c.code, 0 ≤ e.n ∧ e.n ≤ 255
  len : c.code.length ≤ 65536
  lo : 0 ≤ c.at_
  hi : c.at_ ≤ k
theorem and255 (q : Int) : 0 ≤ andu64 q 255 ∧ andu64 q 255 ≤ 255 := by
  unfold andu64
  have h : (BitVec.ofInt 64 q &&& BitVec.ofInt 64 255).toNat ≤ 255 := by
    rw [BitVec.toNat_and]
    exact Nat.le_trans Nat.and_le_right (by decide)
  unfold wu64
  omega
theorem next_ok {fu : Nat} {c : L1CurP} {k : Int} (hc : Cur c k) (hk : k ≤ 4611686018427387904) : ∃ r c', spec_l1Cur_next fu c = some (r, c') ∧ 0 ≤ r ∧ r ≤ 255 ∧ Cur c' (k + 1) := by
  have h0 := hc.lo
  have h1 := hc.hi
  have hl := hc.len
  have e1 : w64 (c.at_ + 1) = c.at_ + 1 := w64_in (by omega) (by omega)
  unfold spec_l1Cur_next
  have hsh : ∀ x : Int, shrk 64 x 40 = some (x.fdiv (2 ^ (min (40 : Int).toNat 64))) := fun x => by unfold shrk; rw [if_neg (by omega)]
  simp only [e1, hsh, Option.bind_some]
  have hcur : ∀ s, Cur ⟨c.code, c.at_ + 1, s⟩ (k + 1) := fun s => ⟨hc.by_, hc.len, by simp only; omega, by simp only; omega⟩
  have ha : ∀ q : Int, 0 ≤ w64 (andu64 q 255) ∧ w64 (andu64 q 255) ≤ 255 := fun q => by
    have := and255 q
    rw [w64_in (by omega) (by omega)]; exact this
  by_cases h : c.at_ < c.code.length
  · simp only [h, decide_true, if_true]
    obtain ⟨e, he, hm⟩ := idx_some (l := c.code) (i := c.at_) h0 h
    have hb := hc.by_ e hm
    have e2 : w64 e.n = e.n := w64_in (by omega) (by omega)
    simp only [he, Option.bind_some, e2]
    split
    · exact ⟨_, _, rfl, hb.1, hb.2, hcur _⟩
    · exact ⟨_, _, rfl, (ha _).1, (ha _).2, hcur _⟩
  · simp only [h, decide_false, Bool.false_eq_true, if_false]
    split
    · exact ⟨_, _, rfl, by omega, by omega, hcur _⟩
    · exact ⟨_, _, rfl, (ha _).1, (ha _).2, hcur _⟩
theorem ite_bnd {α β : Type} (c : Prop) [Decidable c] (a b : Option α) (f : α → Option β) : (if c then a else b).bind f = if c then a.bind f else b.bind f := by split <;> rfl
theorem Cur.mono {c : L1CurP} {k k' : Int} (hc : Cur c k) (h : k ≤ k') : Cur c k' := ⟨hc.by_, hc.len, hc.lo, Int.le_trans hc.hi h⟩
theorem pick_ok {fu : Nat} {c : L1CurP} {k : Int} (hc : Cur c k) (hk : k ≤ 4611686018427387000) (n : Int) (hn : n ≤ 1099511627776) : ∃ r c', spec_l1Cur_pick fu c n = some (r, c') ∧ 0 ≤ r ∧ (1 ≤ n → r < n) ∧ Cur c' (k + 2) := by
  unfold spec_l1Cur_pick
  by_cases h : n ≤ 1
  · simp only [h, decide_true, if_true]
    exact ⟨_, _, rfl, by omega, by omega, hc.mono (by omega)⟩
  · simp only [h, decide_false, Bool.false_eq_true, if_false]
    obtain ⟨r, c', g1, g2, g3, g4⟩ := next_ok (fu := fu) hc (by omega)
    simp only [g1, Option.bind_some]
    have hr : ∀ x : Int, 0 ≤ x → ∃ q, rem x n = some q ∧ 0 ≤ q ∧ q < n := fun x hx => by
      unfold rem
      rw [if_neg (by omega), Int.tmod_eq_emod_of_nonneg hx]
      exact ⟨_, rfl, Int.emod_nonneg _ (by omega), Int.emod_lt_of_pos _ (by omega)⟩
    by_cases h2 : n > 200
    · simp only [h2, decide_true, if_true]
      obtain ⟨r2, c2, q1, q2, q3, q4⟩ := next_ok (fu := fu) g4 (by omega)
      simp only [q1, Option.bind_some]
      rw [w64_in (n := r * 256) (by omega) (by omega), w64_in (by omega) (by omega)]
      obtain ⟨q, p1, p2, p3⟩ := hr (r * 256 + r2) (by omega)
      rw [p1]
      exact ⟨_, _, rfl, p2, fun _ => p3, q4.mono (by omega)⟩
    · simp only [h2, decide_false, Bool.false_eq_true, if_false]
      obtain ⟨q, p1, p2, p3⟩ := hr r g2
      rw [p1]
      exact ⟨_, _, rfl, p2, fun _ => p3, g4.mono (by omega)⟩
theorem among_ok {fu : Nat} {c : L1CurP} {k : Int} (hc : Cur c k) (hk : k ≤ 4611686018427387000) (l : List Int) (h1 : 1 ≤ l.length) (hn : l.length ≤ 1099511627776) : ∃ r c', spec_l1Cur_among fu c l = some (r, c') ∧ r ∈ l ∧ Cur c' (k + 2) := by
  unfold spec_l1Cur_among
  obtain ⟨r, c', g1, g2, g3, g4⟩ := pick_ok (fu := fu) hc hk (l.length : Int) (by omega)
  obtain ⟨e, he, hm⟩ := idx_some (l := l) (i := r) g2 (g3 (by omega))
  simp only [g1, Option.bind_some, he]
  exact ⟨_, _, rfl, hm, g4⟩
theorem start_cur {code : List By} (h : ∀ e ∈ code, 0 ≤ e.n ∧ e.n ≤ 255) (hl : code.length ≤ 65536) : Cur ⟨code, 0, ⟨0⟩⟩ 0 := ⟨h, hl, Int.le_refl _, Int.le_refl _⟩
end AT

namespace AT
end AT

namespace AT
theorem find_loop {α : Type} {l : List α} {G : Nat → Int → Option Int} (p : α → Bool) (hn : (l.length : Int) ≤ 9223372036854775807)
    (hG : ∀ fk (i : Nat) (h : i < l.length), G (fk + 1) i = if p l[i] = true then some (i : Int) else G fk (w64 ((i : Int) + 1)))
    (hz : ∀ fk, G (fk + 1) l.length = some (l.length : Int)) : ∀ (fk i : Nat), l.length - i < fk → i ≤ l.length → G fk i = some ((i + (l.drop i).findIdx p : Nat) : Int) := by
  intro fk
  induction fk with
  | zero => intro i h; omega
  | succ fk ih =>
    intro i hk hi
    by_cases h : i < l.length
    · rw [hG fk i h, ← List.getElem_cons_drop h, List.findIdx_cons]
      by_cases hp : p l[i] = true
      · simp [hp]
      · simp only [hp, Bool.false_eq_true, if_false, cond_false]
        rw [w64_inc h hn, ih (i + 1) (by omega) h]
        congr 2
        omega
    · obtain rfl : i = l.length := by omega
      rw [hz, List.drop_length]; rfl
theorem find_all {α : Type} {l : List α} {G : Nat → Int → Option Int} (p : α → Bool) (hn : (l.length : Int) ≤ 9223372036854775807)
    (hG : ∀ fk (i : Nat) (h : i < l.length), G (fk + 1) i = if p l[i] = true then some (i : Int) else G fk (w64 ((i : Int) + 1)))
    (hz : ∀ fk, G (fk + 1) l.length = some (l.length : Int)) (fk : Nat) (hk : l.length < fk) : G fk 0 = some ((l.findIdx p : Nat) : Int) := by
  have := find_loop p hn hG hz fk 0 (by omega) (by omega)
  simpa using this
def insAt (L : List Light) (id : Int) : Nat := L.findIdx fun y => !decide (y.Id < id)
def putL (L : List Light) (x : Light) : List Light := L.take (insAt L x.Id) ++ x :: L.drop (insAt L x.Id)
theorem insAt_le (L : List Light) (id : Int) : insAt L id ≤ L.length := List.findIdx_le_length
theorem putL_len (L : List Light) (x : Light) : (putL L x).length = L.length + 1 := by
  have := insAt_le L x.Id
  unfold putL
  rw [List.length_append, List.length_cons, List.length_take, List.length_drop]
  omega
theorem putL_mem {L : List Light} {x y : Light} : y ∈ putL L x ↔ y = x ∨ y ∈ L := by
  unfold putL
  rw [List.mem_append, List.mem_cons]
  constructor
  · rintro (h | h | h)
    · exact .inr (List.mem_of_mem_take h)
    · exact .inl h
    · exact .inr (List.mem_of_mem_drop h)
  · rintro (h | h)
    · exact .inr (.inl h)
    · rw [← List.take_append_drop (insAt L x.Id) L, List.mem_append] at h
      rcases h with h | h
      · exact .inl h
      · exact .inr (.inr h)
end AT

namespace AT
end AT

namespace AT
def addP (p : Plan) (x : Light) : Plan := { Network := p.Network, Lights := putL p.Lights x }
theorem insAt_loop (L : List Light) (id : Int) (G : Nat → Int → Option Int) (hl : L.length ≤ 2097152) (hG : ∀ fk i, G (fk + 1) i = ((if decide (i < (L.length : Int)) = true then (idx L i).bind fun e => some (decide (e.Id < id)) else some false).bind fun c => if c = true then G fk (w64 (i + 1)) else some i)) (fu : Nat) (hfu : 2097153 ≤ fu) : G fu 0 = some ((insAt L id : Nat) : Int) :=
  find_all (l := L) (G := G) (fun y => !decide (y.Id < id)) (by omega)
    (fun fk i hi => by
      have h' : (i : Int) < (L.length : Int) := by omega
      rw [hG]
      simp only [h', decide_true, if_true, idx_in hi, Option.bind_some]
      by_cases hc : L[i].Id < id <;> simp [hc])
    (fun fk => by rw [hG]; simp) fu (by omega)
theorem l9Put_eq {fu : Nat} (hfu : 2097153 ≤ fu) (p : Plan) (x : Light) (hB : PlanB p) (hx : x.Route.Fibers.length ≤ 2097152) : spec_l9Put fu p x = some (addP p x) := by
  have hl := hB.2.1
  have hi := insAt_le p.Lights x.Id
  unfold spec_l9Put
  rw [l9Own_eq hfu p hB, Option.bind_some, insAt_loop p.Lights x.Id (spec_l9Put_L1 fu x p) hl (fun fk i => by rw [spec_l9Put_L1]) fu hfu, Option.bind_some, sub_take hi, Option.bind_some]
  have hs : sub p.Lights ((insAt p.Lights x.Id : Nat) : Int) (p.Lights.length : Int) = some (p.Lights.drop (insAt p.Lights x.Id)) := by
    unfold sub
    rw [if_pos (by omega)]
    simp
  rw [hs, Option.bind_some, app_nil (by rw [List.length_take]; omega), Option.bind_some, l9Copy_eq fu x hx, Option.bind_some, app_ok (by rw [List.length_take, List.length_singleton]; omega), Option.bind_some, app_ok (by rw [List.length_append, List.length_take, List.length_singleton, List.length_drop]; omega), Option.bind_some, List.append_assoc, List.singleton_append]
  rfl
end AT

namespace AT
structure NetD (n : Network) : Prop where
  n1 : 1 ≤ n.Nodes.length
  n2 : n.Nodes.length ≤ 20
  ns : ∀ e ∈ n.Nodes, e.size ≤ 100
  f2 : n.Fibers.length ≤ 20
theorem NetD.B {n : Network} (h : NetD n) : NetB n := ⟨⟨by have := h.n2; omega, fun e he => by have := h.ns e he; omega⟩, by have := h.f2; omega⟩
theorem rem_ok {a n : Int} (ha : 0 ≤ a) (hn : 0 < n) : ∃ q, rem a n = some q ∧ 0 ≤ q ∧ q < n := by
  unfold rem
  rw [if_neg (by omega), Int.tmod_eq_emod_of_nonneg ha]
  exact ⟨_, rfl, Int.emod_nonneg _ (by omega), Int.emod_lt_of_pos _ hn⟩
theorem app1 {α : Type} {l : List α} {x : α} (h : l.length ≤ 1000000) : app l [x] = some (l ++ [x]) := app_ok (by simp; omega)
theorem least_ex (fu : Nat) (a b : Int) : ∃ r, spec_l1Least fu a b = some r ∧ (r = a ∨ r = b) := by
  unfold spec_l1Least; split <;> exact ⟨_, rfl, by simp⟩
theorem most_ex (fu : Nat) (a b : Int) : ∃ r, spec_l1Most fu a b = some r ∧ (r = a ∨ r = b) := by
  unfold spec_l1Most; split <;> exact ⟨_, rfl, by simp⟩
theorem l2Put_loop {fu : Nat} (l : List Fiber) (f : Fiber) (hl : l.length ≤ 1000000) : ∀ (fk i : Nat), i ≤ l.length → l.length - i < fk → ∃ j : Nat, spec_l2Put_L1 fu l f fk i = some (j : Int) ∧ j ≤ l.length := by
  intro fk
  induction fk with
  | zero => intro i _ h; omega
  | succ fk ih =>
    intro i hi hf
    rw [spec_l2Put_L1]
    by_cases h : i < l.length
    · have hlt : ((i : Int) < (l.length : Int)) = True := by simp; omega
      simp only [hlt, decide_true, if_true, idx_in h, Option.bind_some, l2Before_eq, w64_inc h (show (l.length : Int) ≤ 9223372036854775807 by omega)]
      split
      · exact ih (i + 1) h (by omega)
      · exact ⟨i, rfl, hi⟩
    · have hlt : ((i : Int) < (l.length : Int)) = False := by simp; omega
      simp only [hlt, decide_false, Bool.false_eq_true, if_false, Option.bind_some]
      exact ⟨i, rfl, hi⟩
theorem l2Put_ok {fu : Nat} (hfu : 2097153 ≤ fu) (l : List Fiber) (f : Fiber) (hl : l.length ≤ 1000000) : ∃ r, spec_l2Put fu l f = some r ∧ r.length = l.length + 1 := by
  unfold spec_l2Put
  obtain ⟨j, h1, h2⟩ := l2Put_loop (fu := fu) l f hl fu 0 (by omega) (by omega)
  have hs : sub l (j : Int) (l.length : Int) = some (l.drop j) := by
    unfold sub
    rw [if_pos (by omega)]
    simp
  rw [show ((0 : Nat) : Int) = 0 from rfl] at h1
  rw [h1, Option.bind_some, sub_take h2, Option.bind_some, hs, Option.bind_some, app_nil (by rw [List.length_take]; omega), Option.bind_some, app_ok (by rw [List.length_take, List.length_singleton]; omega), Option.bind_some, app_ok (by rw [List.length_append, List.length_take, List.length_singleton, List.length_drop]; omega), Option.bind_some]
  refine ⟨_, rfl, ?_⟩
  simp only [List.length_append, List.length_take, List.length_singleton, List.length_drop]
  omega
theorem net_loop1 {fu : Nat} (hfu : 2097153 ≤ fu) (y : Int × L1CurP) (K : Nat) (hK : w64 (2 + y.1) = (K : Int)) (h2 : 2 ≤ K) (h6 : K ≤ 6) : ∀ (fk i : Nat) (m : List By) (m2 : Int) (m3 : U64) (l : List Fiber) (k B : Int), Cur ⟨m, m2, m3⟩ k → k ≤ B + 10 * (i : Int) → B ≤ 1000000000 → l.length ≤ i → i ≤ K → K - i < fk →
    ∃ i' m' a' s' l', spec_l1Cur_network_L1 fu y fk i m m2 m3 l = some (i', m', a', s', l') ∧ l'.length ≤ K ∧ Cur ⟨m', a', s'⟩ (B + 10 * (K : Int)) := by
  intro fk
  induction fk with
  | zero => intro i _ _ _ _ _ _ _ _ _ _ _ h; omega
  | succ fk ih =>
    intro i m m2 m3 l k B hc hk hB hl hi hf
    rw [spec_l1Cur_network_L1, hK]
    by_cases h : i < K
    · have hlt : ((i : Int) < (K : Int)) = True := by simp; omega
      have e : w64 ((i : Int) + 1) = ((i + 1 : Nat) : Int) := w64_inc h (by omega)
      obtain ⟨q, hq, q0, q1⟩ := rem_ok (a := ((i + 1 : Nat) : Int)) (n := (K : Int)) (by omega) (by omega)
      obtain ⟨r1, c1, g1, -, -, k1⟩ := pick_ok (fu := fu) hc (by omega) 10 (by decide)
      simp only [hlt, decide_true, if_true, e, hq, Option.bind_some, spec_l1Cur_one, g1]
      have k1' : Cur ⟨c1.code, c1.at_, c1.seed⟩ (k + 2) := k1
      split
      · exact ih (i + 1) _ _ _ _ k B hc (by omega) hB (by omega) h (by omega)
      · split
        · exact ih (i + 1) _ _ _ _ (k + 2) B k1' (by omega) hB (by omega) h (by omega)
        · obtain ⟨r3, g3, -⟩ := least_ex fu (i : Int) q
          obtain ⟨r4, g4, -⟩ := most_ex fu (i : Int) q
          obtain ⟨r5, c5, g5, -, -, k5⟩ := pick_ok (fu := fu) k1 (by omega) 8 (by decide)
          obtain ⟨r6, c6, g6, -, k6⟩ := among_ok (fu := fu) k5 (by omega) [0, 0, 0, 1, 2] (by decide) (by decide)
          obtain ⟨r7, g7, h7⟩ := l2Put_ok hfu l ({ A := r3, B := r4, Length := w64 (100 * (w64 (1 + r5))), Risk := r6 } : Fiber) (by omega)
          simp only [g3, g4, g5, g6, g7, Option.bind_some]
          exact ih (i + 1) _ _ _ _ (k + 2 + 2 + 2) B k6 (by omega) hB (by omega) h (by omega)
    · obtain rfl : i = K := by omega
      have hlt : ((i : Int) < (i : Int)) = False := by simp
      simp only [hlt, decide_false, Bool.false_eq_true, if_false]
      exact ⟨_, _, _, _, _, rfl, hl, hc.mono (by omega)⟩
theorem net_loop2 {fu : Nat} (hfu : 2097153 ≤ fu) (y : Int × L1CurP) (K : Nat) (hK : w64 (2 + y.1) = (K : Int)) (h2 : 2 ≤ K) (h6 : K ≤ 6) : ∀ (fk n : Nat) (l : List Fiber) (m : List By) (m2 : Int) (m3 : U64) (k B : Int), Cur ⟨m, m2, m3⟩ k → k ≤ B - 10 * (n : Int) → B ≤ 1000000000 → l.length + n ≤ 9 → n < fk →
    ∃ i' l' m' a' s', spec_l1Cur_network_L2 fu y fk (n : Int) l m m2 m3 = some (i', l', m', a', s') ∧ l'.length ≤ 9 ∧ l.length ≤ l'.length ∧ Cur ⟨m', a', s'⟩ B := by
  intro fk
  induction fk with
  | zero => intro n _ _ _ _ _ _ _ _ _ _ h; omega
  | succ fk ih =>
    intro n l m m2 m3 k B hc hk hB hl hf
    rw [spec_l1Cur_network_L2, hK]
    by_cases h : 0 < n
    · have hlt : ((n : Int) > 0) = True := by simp; omega
      have e : w64 ((n : Int) - 1) = ((n - 1 : Nat) : Int) := w64_dec h (by omega)
      obtain ⟨r1, c1, g1, -, -, k1⟩ := pick_ok (fu := fu) hc (by omega) (K : Int) (by omega)
      obtain ⟨r2, c2, g2, -, -, k2⟩ := pick_ok (fu := fu) k1 (by omega) (K : Int) (by omega)
      simp only [hlt, decide_true, if_true, e, g1, g2, Option.bind_some]
      split
      · obtain ⟨r3, g3, -⟩ := least_ex fu r1 r2
        obtain ⟨r4, g4, -⟩ := most_ex fu r1 r2
        obtain ⟨r5, c5, g5, -, -, k5⟩ := pick_ok (fu := fu) k2 (by omega) 8 (by decide)
        obtain ⟨r6, c6, g6, -, k6⟩ := among_ok (fu := fu) k5 (by omega) [0, 0, 0, 1, 2] (by decide) (by decide)
        obtain ⟨r7, g7, h7⟩ := l2Put_ok hfu l ({ A := r3, B := r4, Length := w64 (100 * (w64 (1 + r5))), Risk := r6 } : Fiber) (by omega)
        simp only [g3, g4, g5, g6, g7, Option.bind_some]
        obtain ⟨i', l', m', a', s', q1, q2, q3, q4⟩ := ih (n - 1) r7 _ _ _ (k + 2 + 2 + 2 + 2) B k6 (by omega) hB (by omega) (by omega)
        exact ⟨i', l', m', a', s', q1, q2, by omega, q4⟩
      · exact ih (n - 1) _ _ _ _ (k + 2 + 2) B k2 (by omega) hB (by omega) (by omega)
    · obtain rfl : n = 0 := by omega
      rw [if_neg (by simp)]
      exact ⟨_, _, _, _, _, rfl, by omega, Nat.le_refl _, hc.mono (by omega)⟩
theorem network_ok {fu : Nat} (hfu : 2097153 ≤ fu) {c : L1CurP} {k : Int} (hc : Cur c k) (hk : k ≤ 900000000) : ∃ r c', spec_l1Cur_network fu c = some (r, c') ∧ NetD r ∧ r.Nodes.length ≤ 6 ∧ r.Fibers.length ≤ 9 ∧ Cur c' (k + 200) := by
  unfold spec_l1Cur_network
  obtain ⟨r1, c1, g1, p0, p1, k1⟩ := pick_ok (fu := fu) hc (by omega) 5 (by decide)
  have p2 := p1 (by decide)
  have hK : w64 (2 + r1) = (((2 + r1).toNat : Nat) : Int) := by rw [w64_in (by omega) (by omega)]; omega
  have hK2 : 2 ≤ (2 + r1).toNat := by omega
  have hK6 : (2 + r1).toNat ≤ 6 := by omega
  obtain ⟨i2, m2, a2, s2, l2, g2, h2, k2⟩ := net_loop1 hfu (r1, c1) (2 + r1).toNat hK hK2 hK6 fu 0 c1.code c1.at_ c1.seed [] (k + 2) (k + 2) k1 (by omega) (by omega) (by simp) (by omega) (by omega)
  obtain ⟨r3, c3, g3, q0, q1, k3⟩ := pick_ok (fu := fu) k2 (by omega) 4 (by decide)
  have q2 := q1 (by decide)
  obtain ⟨i4, l4, m4, a4, s4, g4, h4, -, k4⟩ := net_loop2 hfu (r1, c1) (2 + r1).toNat hK hK2 hK6 fu r3.toNat l2 c3.code c3.at_ c3.seed (k + 2 + 10 * ((2 + r1).toNat : Int) + 2) (k + 200) k3 (by omega) (by omega) (by omega) (by omega)
  rw [Int.ofNat_zero] at g2
  rw [Int.toNat_of_nonneg q0] at g4
  simp only [g1, Option.bind_some, hK]
  rw [sub_take (by simp; omega)]
  simp only [g2, g3, g4, Option.bind_some]
  refine ⟨_, _, rfl, ⟨by simp; omega, by simp; omega, fun e he => ?_, by simp only; omega⟩, by simp; omega, h4, k4⟩
  have he' := List.mem_of_mem_take he
  simp only [List.mem_cons, List.not_mem_nil, or_false] at he'
  rcases he' with rfl | rfl | rfl | rfl | rfl | rfl <;> decide
theorem linked_ok {fu : Nat} (hfu : 2097153 ≤ fu) {c : L1CurP} {k : Int} (hc : Cur c k) (hk : k ≤ 900000000) : ∃ r c', spec_l1Cur_linked fu c = some (r, c') ∧ NetD r ∧ 1 ≤ r.Fibers.length ∧ Cur c' (k + 200) := by
  unfold spec_l1Cur_linked
  obtain ⟨r, c', g1, h1, h2, h3, k1⟩ := network_ok hfu hc hk
  simp only [g1, Option.bind_some]
  split
  · rename_i h
    have h0 : r.Fibers.length = 0 := by simpa using h
    rw [app1 (by omega)]
    exact ⟨_, _, rfl, ⟨h1.n1, h1.n2, h1.ns, by simp; omega⟩, by simp, k1⟩
  · rename_i h
    have h0 : r.Fibers.length ≠ 0 := by simpa using h
    exact ⟨_, _, rfl, h1, by omega, k1⟩
theorem route_loop2 {fu : Nat} (hfu : 2097153 ≤ fu) (n : Network) (y : Int × L1CurP) (seen : List Int) (hn : n.Fibers.length ≤ 1000000) (h1 : 1 ≤ seen.length) (h2 : seen.length ≤ 1000000) : ∀ (fk i : Nat) (o : List Int), i ≤ n.Fibers.length → n.Fibers.length - i < fk → o.length ≤ i → (∀ e ∈ o, 0 ≤ e ∧ e < (n.Fibers.length : Int)) →
    ∃ l i', spec_l1Cur_route_L2 fu n y seen fk o i = some (l, i') ∧ l.length ≤ n.Fibers.length ∧ ∀ e ∈ l, 0 ≤ e ∧ e < (n.Fibers.length : Int) := by
  intro fk
  induction fk with
  | zero => intro i _ _ h; omega
  | succ fk ih =>
    intro i o hi hf ho hr
    rw [spec_l1Cur_route_L2]
    by_cases h : i < n.Fibers.length
    · have hlt : ((i : Int) < (n.Fibers.length : Int)) = True := by simp; omega
      have e1 : w64 ((seen.length : Int) - 1) = ((seen.length - 1 : Nat) : Int) := by rw [w64_in (by omega) (by omega)]; omega
      have hh : ∀ v, spec_l1Has fu seen v = some (seen.any fun x => x == v) := fun v => l1Has_eq seen v (by omega) (by omega)
      have ha : app o [(i : Int)] = some (o ++ [(i : Int)]) := app1 (by omega)
      simp only [hlt, decide_true, if_true, e1, idx_in (show seen.length - 1 < seen.length by omega), Option.bind_some, l2Other_eq fu n i _ h, hh, ha, w64_inc h (show (n.Fibers.length : Int) ≤ 9223372036854775807 by omega)]
      have two : ∀ b : Bool, ∃ l i', (if b = true then spec_l1Cur_route_L2 fu n y seen fk (o ++ [(i : Int)]) ((i + 1 : Nat) : Int) else spec_l1Cur_route_L2 fu n y seen fk o ((i + 1 : Nat) : Int)) = some (l, i') ∧ l.length ≤ n.Fibers.length ∧ ∀ e ∈ l, 0 ≤ e ∧ e < (n.Fibers.length : Int) := by
        intro b
        cases b
        · exact ih (i + 1) o h (by omega) (by omega) hr
        · refine ih (i + 1) _ h (by omega) (by simp; omega) fun e he => ?_
          rcases List.mem_append.1 he with he | he
          · exact hr e he
          · simp only [List.mem_singleton] at he
            omega
      split
      · exact two _
      · exact two false
    · obtain rfl : i = n.Fibers.length := by omega
      rw [if_neg (by simp)]
      exact ⟨_, _, rfl, ho, hr⟩
theorem route_loop1 {fu : Nat} (hfu : 2097153 ≤ fu) (n : Network) (y : Int × L1CurP) (hn : n.Fibers.length ≤ 1000) : ∀ (fk m : Nat) (seen l : List Int) (b : List By) (a : Int) (s : U64) (k B : Int), Cur ⟨b, a, s⟩ k → k ≤ B - 2 * (m : Int) → B ≤ 1000000000 → 1 ≤ seen.length → seen.length + m ≤ 1000 → l.length + m ≤ 4 → (∀ e ∈ l, 0 ≤ e ∧ e < (n.Fibers.length : Int)) → m < fk →
    ∃ s2 m2 l' b' a' s', spec_l1Cur_route_L1 fu n y fk seen (m : Int) l b a s = some (s2, m2, l', b', a', s') ∧ l'.length ≤ 4 ∧ (∀ e ∈ l', 0 ≤ e ∧ e < (n.Fibers.length : Int)) ∧ Cur ⟨b', a', s'⟩ B := by
  intro fk
  induction fk with
  | zero => intro m _ _ _ _ _ _ _ _ _ _ _ _ _ _ h; omega
  | succ fk ih =>
    intro m seen l b a s k B hc hk hB hs1 hs2 hl hr hf
    rw [spec_l1Cur_route_L1]
    by_cases h : 0 < m
    · have hlt : ((m : Int) > 0) = True := by simp; omega
      have e : w64 ((m : Int) - 1) = ((m - 1 : Nat) : Int) := w64_dec h (by omega)
      obtain ⟨z, zi, g1, z1, z2⟩ := route_loop2 hfu n y seen (by omega) hs1 (by omega) fu 0 [] (by omega) (by omega) (by simp) (by simp)
      rw [Int.ofNat_zero] at g1
      have e1 : w64 ((seen.length : Int) - 1) = ((seen.length - 1 : Nat) : Int) := by rw [w64_in (by omega) (by omega)]; omega
      simp only [hlt, decide_true, if_true, e, g1, Option.bind_some]
      by_cases hz : z.length = 0
      · have hz' : ((z.length : Int) == 0) = true := by simp [hz]
        simp only [hz', if_true]
        exact ⟨_, _, _, _, _, _, rfl, by omega, hr, hc.mono (by omega)⟩
      · have hz' : ((z.length : Int) == 0) = false := by simpa using hz
        obtain ⟨r1, c1, g2, p0, p1, k1⟩ := pick_ok (fu := fu) hc (by omega) (z.length : Int) (by omega)
        obtain ⟨x, hx, hxm⟩ := idx_some (l := z) (i := r1) p0 (p1 (by omega))
        obtain ⟨x0, x1⟩ := z2 x hxm
        have hxn : x = ((x.toNat : Nat) : Int) := by omega
        have ho : ∀ v, spec_l2Other fu n x v = some (oth (gd n.Fibers x.toNat f0) v) := fun v => by
          have := l2Other_eq fu n x.toNat v (by omega)
          rwa [← hxn] at this
        simp only [hz', Bool.false_eq_true, if_false, g2, Option.bind_some, hx, e1, idx_in (show seen.length - 1 < seen.length by omega), ho, app1 (show l.length ≤ 1000000 by omega), app1 (show seen.length ≤ 1000000 by omega)]
        refine ih (m - 1) _ _ _ _ _ (k + 2) B k1 (by omega) hB (by simp) (by simp; omega) (by simp; omega) (fun q hq => ?_) (by omega)
        rcases List.mem_append.1 hq with hq | hq
        · exact hr q hq
        · simp only [List.mem_singleton] at hq
          omega
    · obtain rfl : m = 0 := by omega
      rw [if_neg (by simp)]
      exact ⟨_, _, _, _, _, _, rfl, by omega, hr, hc.mono (by omega)⟩
theorem route_ok {fu : Nat} (hfu : 2097153 ≤ fu) {c : L1CurP} {k : Int} (hc : Cur c k) (hk : k ≤ 900000000) {n : Network} (hn : n.Fibers.length ≤ 1000) (hm : n.Nodes.length ≤ 1000) : ∃ r c', spec_l1Cur_route fu c n = some (r, c') ∧ r.Fibers.length ≤ 4 ∧ (∀ e ∈ r.Fibers, 0 ≤ e ∧ e < (n.Fibers.length : Int)) ∧ Cur c' (k + 20) := by
  unfold spec_l1Cur_route
  obtain ⟨r1, c1, g1, -, -, k1⟩ := pick_ok (fu := fu) hc (by omega) (n.Nodes.length : Int) (by omega)
  obtain ⟨r2, c2, g2, p0, p1, k2⟩ := pick_ok (fu := fu) k1 (by omega) 4 (by decide)
  have p2 := p1 (by decide)
  have e : w64 (1 + r2) = (((1 + r2).toNat : Nat) : Int) := by rw [w64_in (by omega) (by omega)]; omega
  obtain ⟨s3, m3, l3, b3, a3, t3, g3, h3, h4, k3⟩ := route_loop1 hfu n (r1, c1) hn fu (1 + r2).toNat [r1] [] c2.code c2.at_ c2.seed (k + 2 + 2) (k + 20) k2 (by omega) (by omega) (by simp) (by simp; omega) (by simp; omega) (by simp) (by omega)
  simp only [g1, g2, Option.bind_some, e, g3]
  exact ⟨_, _, rfl, h3, h4, k3⟩
theorem routed_ok {fu : Nat} (hfu : 2097153 ≤ fu) {c : L1CurP} {k : Int} (hc : Cur c k) (hk : k ≤ 900000000) {n : Network} (h1 : 1 ≤ n.Fibers.length) (hn : n.Fibers.length ≤ 1000) (hm : n.Nodes.length ≤ 1000) : ∃ r c', spec_l1Cur_routed fu c n = some (r, c') ∧ 1 ≤ r.Fibers.length ∧ r.Fibers.length ≤ 4 ∧ (∀ e ∈ r.Fibers, 0 ≤ e ∧ e < (n.Fibers.length : Int)) ∧ Cur c' (k + 20) := by
  unfold spec_l1Cur_routed
  obtain ⟨r, c', g1, h2, h3, k1⟩ := route_ok hfu hc hk hn hm
  simp only [g1, Option.bind_some]
  split
  · obtain ⟨e, he, -⟩ := idx_some (l := n.Fibers) (i := 0) (Int.le_refl _) (by omega)
    rw [he]
    exact ⟨_, _, rfl, by simp, by simp, by simp; omega, k1⟩
  · rename_i h
    have h0 : r.Fibers.length ≠ 0 := by simpa using h
    exact ⟨_, _, rfl, by omega, h2, h3, k1⟩
theorem anyRoute_ok {fu : Nat} (hfu : 2097153 ≤ fu) {c : L1CurP} {k : Int} (hc : Cur c k) (hk : k ≤ 900000000) {n : Network} (hn : n.Fibers.length ≤ 1000) (hm : n.Nodes.length ≤ 1000) : ∃ r c', spec_l1Cur_anyRoute fu c n = some (r, c') ∧ r.Fibers.length ≤ 5 ∧ Cur c' (k + 30) := by
  unfold spec_l1Cur_anyRoute
  obtain ⟨r, c1, g1, h1, -, k1⟩ := route_ok hfu hc hk hn hm
  obtain ⟨r2, c2, g2, -, -, k2⟩ := pick_ok (fu := fu) k1 (by omega) 16 (by decide)
  obtain ⟨r3, c3, g3, -, -, k3⟩ := pick_ok (fu := fu) k2 (by omega) 8 (by decide)
  simp only [g1, g2, g3, Option.bind_some, app1 (show r.Fibers.length ≤ 1000000 by omega)]
  split
  · exact ⟨_, _, rfl, by simp only; omega, k3.mono (by omega)⟩
  split
  · exact ⟨_, _, rfl, by simp; omega, k3.mono (by omega)⟩
  split
  · exact ⟨_, _, rfl, by simp, k2.mono (by omega)⟩
  split
  · split
    · rename_i h
      have h0 : (1 : Int) < r.Fibers.length := by simpa using h
      have e1 : w64 ((r.Fibers.length : Int) - 1) = ((r.Fibers.length - 1 : Nat) : Int) := by rw [w64_in (by omega) (by omega)]; omega
      simp only [e1, idx_in (show r.Fibers.length - 1 < r.Fibers.length by omega), Option.bind_some, app1 (show r.Fibers.length ≤ 1000000 by omega)]
      exact ⟨_, _, rfl, by simp; omega, k2.mono (by omega)⟩
    · exact ⟨_, _, rfl, by omega, k2.mono (by omega)⟩
  · exact ⟨_, _, rfl, by omega, k2.mono (by omega)⟩
theorem block_ok {fu : Nat} {c : L1CurP} {k : Int} (hc : Cur c k) (hk : k ≤ 900000000) : ∃ r c', spec_l1Cur_block fu c = some (r, c') ∧ Cur c' (k + 10) := by
  unfold spec_l1Cur_block spec_l1Cur_one
  obtain ⟨r1, c1, g1, -, -, k1⟩ := pick_ok (fu := fu) hc (by omega) 12 (by decide)
  obtain ⟨r2, c2, g2, -, -, k2⟩ := pick_ok (fu := fu) k1 (by omega) 26 (by decide)
  obtain ⟨r3, c3, g3, -, -, k3⟩ := pick_ok (fu := fu) k2 (by omega) 27 (by decide)
  obtain ⟨r4, c4, g4, p0, p1, k4⟩ := pick_ok (fu := fu) k1 (by omega) 6 (by decide)
  have p2 := p1 (by decide)
  obtain ⟨r5, c5, g5, -, -, k5⟩ := pick_ok (fu := fu) k4 (by omega) (w64 ((w64 (24 - (w64 (1 + r4)))) + 1)) (by
    rw [w64_in (n := 1 + r4) (by omega) (by omega), w64_in (n := 24 - (1 + r4)) (by omega) (by omega), w64_in (by omega) (by omega)]; omega)
  simp only [g1, g2, g3, g4, g5, Option.bind_some]
  split
  · exact ⟨_, _, rfl, k3.mono (by omega)⟩
  · exact ⟨_, _, rfl, k5.mono (by omega)⟩
theorem of_ok {fu : Nat} {c : L1CurP} {k : Int} (hc : Cur c k) (hk : k ≤ 4611686018427387000) (l : List ByteArray) (h1 : 1 ≤ l.length) (hn : l.length ≤ 1099511627776) : ∃ r c', spec_l1Cur_of fu c l = some (r, c') ∧ r ∈ l ∧ Cur c' (k + 2) := by
  unfold spec_l1Cur_of
  obtain ⟨r, c', g1, g2, g3, g4⟩ := pick_ok (fu := fu) hc hk (l.length : Int) (by omega)
  obtain ⟨e, he, hm⟩ := idx_some (l := l) (i := r) g2 (g3 (by omega))
  simp only [g1, Option.bind_some, he]
  exact ⟨_, _, rfl, hm, g4⟩
theorem anyNet_loop {fu : Nat} : ∀ (fk : Nat) (l : List Fiber) (b : List By) (a : Int) (s : U64) (k B : Int), Cur ⟨b, a, s⟩ k → k ≤ B + 2 * (l.length : Int) → B ≤ 1000000000 → 1 ≤ l.length → l.length ≤ 15 → 15 - l.length < fk →
    ∃ l' b' a' s', spec_l1Cur_anyNetwork_L1 fu fk l b a s = some (l', b', a', s') ∧ l'.length ≤ 15 ∧ Cur ⟨b', a', s'⟩ (B + 50) := by
  intro fk
  induction fk with
  | zero => intro l _ _ _ _ _ _ _ _ _ _ h; omega
  | succ fk ih =>
    intro l b a s k B hc hk hB h1 h2 hf
    rw [spec_l1Cur_anyNetwork_L1]
    obtain ⟨r1, c1, g1, p0, p1, k1⟩ := pick_ok (fu := fu) hc (by omega) 2 (by decide)
    have p2 := p1 (by decide)
    have e : w64 (14 + r1) = 14 + r1 := w64_in (by omega) (by omega)
    have e1 : w64 ((l.length : Int) - 1) = ((l.length - 1 : Nat) : Int) := by rw [w64_in (by omega) (by omega)]; omega
    simp only [g1, Option.bind_some, e, e1, idx_in (show l.length - 1 < l.length by omega), app1 (show l.length ≤ 1000000 by omega)]
    split
    · rename_i h
      have h' : (l.length : Int) < 14 + r1 := by simpa using h
      exact ih _ _ _ _ (k + 2) B k1 (by simp; omega) hB (by simp) (by simp; omega) (by simp; omega)
    · exact ⟨_, _, _, _, rfl, h2, k1.mono (by omega)⟩
theorem anyNetwork_ok {fu : Nat} (hfu : 2097153 ≤ fu) {c : L1CurP} {k : Int} (hc : Cur c k) (hk : k ≤ 800000000) : ∃ r c', spec_l1Cur_anyNetwork fu c = some (r, c') ∧ NetD r ∧ Cur c' (k + 500) := by
  unfold spec_l1Cur_anyNetwork
  obtain ⟨n, c1, g1, h1, h2, h3, k1⟩ := network_ok hfu hc (by omega)
  simp only [g1, Option.bind_some]
  by_cases h : n.Fibers.length = 0
  · have h' : ((n.Fibers.length : Int) == 0) = true := by simp [h]
    simp only [h', if_true]
    exact ⟨_, _, rfl, h1, k1.mono (by omega)⟩
  have h' : ((n.Fibers.length : Int) == 0) = false := by simpa using h
  obtain ⟨r2, c2, g2, p0, p1, k2⟩ := pick_ok (fu := fu) k1 (by omega) (n.Fibers.length : Int) (by omega)
  have p2 := p1 (by omega)
  obtain ⟨e, he, -⟩ := idx_some (l := n.Fibers) (i := r2) p0 p2
  obtain ⟨r3, c3, g3, -, -, k3⟩ := pick_ok (fu := fu) k2 (by omega) 24 (by decide)
  obtain ⟨r4, c4, g4, m4, k4⟩ := of_ok (fu := fu) k3 (by omega) [(⟨#[98]⟩ : ByteArray), ByteArray.empty, (⟨#[65]⟩ : ByteArray), (⟨#[97, 98, 99, 100, 101, 102, 103, 104]⟩ : ByteArray), (⟨#[97, 98, 99, 100, 101, 102, 103, 104, 105]⟩ : ByteArray), (⟨#[120, 49]⟩ : ByteArray)] (by simp) (by simp)
  obtain ⟨r5, c5, g5, -, -, k5⟩ := pick_ok (fu := fu) k3 (by omega) 8 (by decide)
  obtain ⟨r6, c6, g6, -, -, k6⟩ := pick_ok (fu := fu) k3 (by omega) 10 (by decide)
  obtain ⟨r7, c7, g7, -, k7⟩ := among_ok (fu := fu) k3 (by omega) [0, 1, 5000, 5001] (by decide) (by decide)
  obtain ⟨r8, c8, g8, -, k8⟩ := among_ok (fu := fu) k3 (by omega) [(-1), 9, 10] (by decide) (by decide)
  obtain ⟨e0, he0, -⟩ := idx_some (l := n.Fibers) (i := 0) (Int.le_refl _) (by omega)
  obtain ⟨v0, hv0, -⟩ := idx_some (l := n.Nodes) (i := 0) (Int.le_refl _) (by have := h1.n1; omega)
  obtain ⟨l9, b9, a9, s9, g9, h9, k9⟩ := anyNet_loop (fu := fu) fu n.Fibers c3.code c3.at_ c3.seed (k + 200 + 2 + 2) (k + 204) k3 (by omega) (by omega) (by omega) (by omega) (by omega)
  have hfs : ∀ f : Fiber, NetD ⟨n.Nodes, n.Fibers.set r2.toNat f⟩ := fun f => ⟨h1.n1, h1.n2, h1.ns, by simp only [List.length_set]; exact h1.f2⟩
  have ha := app1 (x := e0) (show n.Fibers.length ≤ 1000000 by omega)
  obtain ⟨e9, he9, -⟩ := idx_some (l := n.Fibers ++ [e0]) (i := r2) p0 (by simp; omega)
  have hn4 : app n.Nodes [(⟨#[112]⟩ : ByteArray), (⟨#[113]⟩ : ByteArray), (⟨#[114]⟩ : ByteArray), (⟨#[115]⟩ : ByteArray)] = some (n.Nodes ++ [(⟨#[112]⟩ : ByteArray), (⟨#[113]⟩ : ByteArray), (⟨#[114]⟩ : ByteArray), (⟨#[115]⟩ : ByteArray)]) := app_ok (by simp; omega)
  simp only [h', Bool.false_eq_true, if_false, g2, g3, g4, g5, g6, g7, g8, g9, he, he0, hv0, ha, he9, hn4, ite_bnd, Out.on, Option.bind_some]
  split
  · refine ⟨_, _, rfl, ⟨by simp only [List.length_set]; exact h1.n1, by simp only [List.length_set]; exact h1.n2, fun z hz => ?_, by simp only [List.length_set]; exact h1.f2⟩, k4.mono (by omega)⟩
    rcases List.mem_or_eq_of_mem_set hz with hz | rfl
    · exact h1.ns z hz
    · simp only [List.mem_cons, List.not_mem_nil, or_false] at m4
      rcases m4 with rfl | rfl | rfl | rfl | rfl | rfl <;> decide
  split
  · exact ⟨_, _, rfl, hfs _, k5.mono (by omega)⟩
  split
  · exact ⟨_, _, rfl, hfs _, k6.mono (by omega)⟩
  split
  · exact ⟨_, _, rfl, hfs _, k7.mono (by omega)⟩
  split
  · exact ⟨_, _, rfl, hfs _, k8.mono (by omega)⟩
  split
  · exact ⟨_, _, rfl, ⟨h1.n1, h1.n2, h1.ns, by simp; omega⟩, k3.mono (by omega)⟩
  split
  · exact ⟨_, _, rfl, ⟨h1.n1, h1.n2, h1.ns, by simp only; omega⟩, k9.mono (by omega)⟩
  split
  · refine ⟨_, _, rfl, ⟨by simp, by simp; omega, fun z hz => ?_, by simp only [List.length_set]; exact h1.f2⟩, k3.mono (by omega)⟩
    rcases List.mem_append.1 hz with hz | hz
    · exact h1.ns z hz
    · simp only [List.mem_cons, List.not_mem_nil, or_false] at hz
      rcases hz with rfl | rfl | rfl | rfl <;> decide
  · exact ⟨_, _, rfl, hfs _, k3.mono (by omega)⟩
end AT

namespace AT
structure PlanD (p : Plan) : Prop where
  net : NetD p.Network
  ls : p.Lights.length ≤ 20
  rs : ∀ x ∈ p.Lights, x.Route.Fibers.length ≤ 20
theorem PlanD.B {p : Plan} (h : PlanD p) : PlanB p := ⟨h.net.B, by have := h.ls; omega, fun x hx => by have := h.rs x hx; omega⟩
theorem plan_loop {fu : Nat} (hfu : 2097153 ≤ fu) (ns : List ByteArray) (fs : List Fiber) (hn : NetD ⟨ns, fs⟩) (h1 : 1 ≤ fs.length) : ∀ (fk n : Nat) (L : List Light) (b : List By) (a : Int) (s : U64) (k B : Int), Cur ⟨b, a, s⟩ k → k ≤ B - 50 * (n : Int) → B ≤ 800000000 → L.length + n ≤ 8 → (∀ y ∈ L, blkOk y.Block = true) → (∀ y ∈ L, y.Route.Fibers.length ≤ 4) → n < fk →
    ∃ n' L' b' a' s', spec_l1Cur_plan_L1 fu fk (n : Int) ns fs L b a s = some (n', ns, fs, L', b', a', s') ∧ L'.length ≤ 8 ∧ (∀ y ∈ L', y.Route.Fibers.length ≤ 4) ∧ Cur ⟨b', a', s'⟩ B := by
  intro fk
  induction fk with
  | zero => intro n _ _ _ _ _ _ _ _ _ _ _ _ h; omega
  | succ fk ih =>
    intro n L b a s k B hc hk hB hl hb hr hf
    rw [spec_l1Cur_plan_L1]
    have f2 := hn.f2
    have n2 := hn.n2
    simp only at f2 n2
    by_cases h : 0 < n
    · have hlt : ((n : Int) > 0) = True := eq_true (by omega)
      have e : w64 ((n : Int) - 1) = ((n - 1 : Nat) : Int) := w64_dec h (by omega)
      obtain ⟨r3, c3, g3, q1, q2, q3, k3⟩ := routed_ok hfu hc (by omega) (n := ⟨ns, fs⟩) h1 (by simp only; omega) (by simp only; omega)
      obtain ⟨r4, c4, g4, p0, p1, k4⟩ := pick_ok (fu := fu) k3 (by omega) 5 (by decide)
      have p2 := p1 (by decide)
      have e4 : w64 (1 + r4) = 1 + r4 := w64_in (by omega) (by omega)
      have hal := l9Along_eq hfu (⟨⟨ns, fs⟩, L⟩ : Plan) r3 (by simp only; omega) hb (fun x hx => by have := hr x hx; omega) (by omega)
      have hfi := fun m => l8Fits_eq hfu m (1 + r4) (by omega) (by omega)
      simp only [hlt, decide_true, if_true, e, g3, g4, Option.bind_some, hal, e4, hfi]
      obtain ⟨F, hF⟩ : ∃ F, F = fits (along L r3.Fibers) (1 + r4) := ⟨_, rfl⟩
      simp only [← hF]
      have hm : ∀ t ∈ F, blkOk ⟨t, 1 + r4⟩ = true := fun t ht => by
        rw [hF, fits_mem (by omega) (by omega)] at ht
        unfold blkOk
        simp only [Bool.and_eq_true, decide_eq_true_eq]
        omega
      by_cases hz : F.length = 0
      · have hz' : ((F.length : Int) > 0) = False := eq_false (by omega)
        simp only [hz', decide_false, Bool.false_eq_true, if_false]
        exact ih (n - 1) L _ _ _ (k + 20 + 2) B k4 (by omega) hB (by omega) hb hr (by omega)
      · have hz' : ((F.length : Int) > 0) = True := eq_true (by omega)
        obtain ⟨e0, he0, hm0⟩ := idx_some (l := F) (i := 0) (Int.le_refl _) (by omega)
        obtain ⟨r5, c5, g5, -, -, k5⟩ := pick_ok (fu := fu) k4 (by omega) 2 (by decide)
        have hFl : F.length ≤ 25 := by rw [hF]; exact fits_len _ _
        obtain ⟨r6, c6, g6, p6, p7, k6⟩ := pick_ok (fu := fu) k5 (by omega) (F.length : Int) (by omega)
        obtain ⟨e1, he1, hm1⟩ := idx_some (l := F) (i := r6) p6 (p7 (by omega))
        obtain ⟨r7, c7, g7, -, -, k7⟩ := pick_ok (fu := fu) k6 (by omega) 3 (by decide)
        obtain ⟨r8, c8, g8, -, -, k8⟩ := pick_ok (fu := fu) k5 (by omega) 3 (by decide)
        have hput : ∀ x : Light, x.Route = r3 → spec_l9Put fu (⟨⟨ns, fs⟩, L⟩ : Plan) x = some (addP ⟨⟨ns, fs⟩, L⟩ x) := fun x hx => l9Put_eq hfu _ x ⟨hn.B, by simp only; omega, fun y hy => by have := hr y hy; omega⟩ (by rw [hx]; omega)
        simp only [hz', decide_true, if_true, he0, spec_l1Cur_one, g5, g6, he1, g7, g8, Option.bind_some]
        have step : ∀ (x : Light) (c : L1CurP) (k' : Int), x.Route = r3 → blkOk x.Block = true → Cur c k' → k' ≤ k + 30 → ∃ n' L' b' a' s', ((spec_l9Put fu (⟨⟨ns, fs⟩, L⟩ : Plan) x).bind fun y => spec_l1Cur_plan_L1 fu fk ((n - 1 : Nat) : Int) y.Network.Nodes y.Network.Fibers y.Lights c.code c.at_ c.seed) = some (n', ns, fs, L', b', a', s') ∧ L'.length ≤ 8 ∧ (∀ y ∈ L', y.Route.Fibers.length ≤ 4) ∧ Cur ⟨b', a', s'⟩ B := by
          intro x c k' hx hb' hc' hk'
          rw [hput x hx, Option.bind_some]
          refine ih (n - 1) (putL L x) _ _ _ k' B hc' (by omega) hB (by rw [putL_len]; omega) (fun y hy => ?_) (fun y hy => ?_) (by omega)
          · rcases putL_mem.1 hy with rfl | hy
            · exact hb'
            · exact hb y hy
          · rcases putL_mem.1 hy with rfl | hy
            · rw [hx]; omega
            · exact hr y hy
        split
        · exact step _ c7 _ rfl (hm _ hm1) k7 (by omega)
        · exact step _ c8 _ rfl (hm _ hm0) k8 (by omega)
    · obtain rfl : n = 0 := by omega
      rw [if_neg (by simp)]
      exact ⟨_, _, _, _, _, rfl, by omega, hr, hc.mono (by omega)⟩
theorem plan_ok {fu : Nat} (hfu : 2097153 ≤ fu) {c : L1CurP} {k : Int} (hc : Cur c k) (hk : k ≤ 700000000) : ∃ r c', spec_l1Cur_plan fu c = some (r, c') ∧ PlanD r ∧ r.Lights.length ≤ 8 ∧ 1 ≤ r.Network.Fibers.length ∧ (∀ x ∈ r.Lights, x.Route.Fibers.length ≤ 4) ∧ Cur c' (k + 1000) := by
  unfold spec_l1Cur_plan
  obtain ⟨n, c1, g1, h1, h2, k1⟩ := linked_ok hfu hc (by omega)
  obtain ⟨r2, c2, g2, p0, p1, k2⟩ := pick_ok (fu := fu) k1 (by omega) 9 (by decide)
  have p2 := p1 (by decide)
  obtain ⟨n', L', b', a', s', g3, h3, h4, k3⟩ := plan_loop hfu n.Nodes n.Fibers h1 h2 fu r2.toNat [] c2.code c2.at_ c2.seed (k + 200 + 2) (k + 1000) k2 (by omega) (by omega) (by simp; omega) (by simp) (by simp) (by omega)
  rw [Int.toNat_of_nonneg p0] at g3
  simp only [g1, g2, g3, Option.bind_some]
  exact ⟨_, _, rfl, ⟨h1, by simp only; omega, fun x hx => by have := h4 x hx; omega⟩, h3, h2, h4, k3⟩
theorem anyPlan_loop {fu : Nat} (y : Plan × L1CurP) (h1 : 1 ≤ y.1.Network.Fibers.length) : ∀ (fk n : Nat) (L : List Light) (b : List By) (a : Int) (s : U64) (k B : Int), Cur ⟨b, a, s⟩ k → k ≤ B + 2 * (n : Int) → B ≤ 800000000 → n ≤ 14 → L.length ≤ 13 → (∀ y ∈ L, y.Route.Fibers.length ≤ 20) → 15 - n < fk →
    ∃ n' L' b' a' s', spec_l1Cur_anyPlan_L1 fu y fk (n : Int) L b a s = some (n', L', b', a', s') ∧ L'.length ≤ 13 ∧ (∀ y ∈ L', y.Route.Fibers.length ≤ 20) ∧ Cur ⟨b', a', s'⟩ (B + 60) := by
  intro fk
  induction fk with
  | zero => intro n _ _ _ _ _ _ _ _ _ _ _ _ h; omega
  | succ fk ih =>
    intro n L b a s k B hc hk hB hn hl hr hf
    rw [spec_l1Cur_anyPlan_L1]
    obtain ⟨r1, c1, g1, p0, p1, k1⟩ := pick_ok (fu := fu) hc (by omega) 2 (by decide)
    have p2 := p1 (by decide)
    have e : w64 (12 + r1) = 12 + r1 := w64_in (by omega) (by omega)
    have e1 : w64 ((n : Int) + 1) = ((n + 1 : Nat) : Int) := by rw [w64_in (by omega) (by omega)]; omega
    obtain ⟨e0, he0, -⟩ := idx_some (l := y.1.Network.Fibers) (i := 0) (Int.le_refl _) (by omega)
    have ha : ∀ x : Light, app L [x] = some (L ++ [x]) := fun x => app1 (by omega)
    simp only [g1, Option.bind_some, e, e1, he0, ha]
    split
    · rename_i h
      have h' : (L.length : Int) < 12 + r1 := by simpa using h
      split
      · rename_i h3
        have h3' : (n : Int) < 14 := by simpa using h3
        refine ih (n + 1) _ _ _ _ (k + 2) B k1 (by omega) hB (by omega) (by simp; omega) (fun x hx => ?_) (by omega)
        rcases List.mem_append.1 hx with hx | hx
        · exact hr x hx
        · simp only [List.mem_singleton] at hx; subst hx; simp
      · exact ⟨_, _, _, _, _, rfl, hl, hr, k1.mono (by omega)⟩
    · exact ⟨_, _, _, _, _, rfl, hl, hr, k1.mono (by omega)⟩
theorem anyPlan_ok {fu : Nat} (hfu : 2097153 ≤ fu) {c : L1CurP} {k : Int} (hc : Cur c k) (hk : k ≤ 600000000) : ∃ r c', spec_l1Cur_anyPlan fu c = some (r, c') ∧ PlanD r ∧ Cur c' (k + 3000) := by
  unfold spec_l1Cur_anyPlan
  obtain ⟨p, c1, g1, h1, h2, h3, h4, k1⟩ := plan_ok hfu hc (by omega)
  simp only [g1, Option.bind_some]
  by_cases h : p.Lights.length = 0
  · have h' : ((p.Lights.length : Int) == 0) = true := by simp [h]
    simp only [h', if_true]
    exact ⟨_, _, rfl, h1, k1.mono (by omega)⟩
  have h' : ((p.Lights.length : Int) == 0) = false := by simpa using h
  obtain ⟨r2, c2, g2, p0, p1, k2⟩ := pick_ok (fu := fu) k1 (by omega) (p.Lights.length : Int) (by omega)
  have p2 := p1 (by omega)
  obtain ⟨e, he, hem⟩ := idx_some (l := p.Lights) (i := r2) p0 p2
  obtain ⟨r3, c3, g3, -, -, k3⟩ := pick_ok (fu := fu) k2 (by omega) 24 (by decide)
  obtain ⟨r4, c4, g4, -, k4⟩ := among_ok (fu := fu) k3 (by omega) [0, 999, 1000, 1, 4] (by decide) (by decide)
  obtain ⟨r5, c5, g5, k5⟩ := block_ok (fu := fu) k3 (by omega)
  obtain ⟨r6, c6, g6, h6, k6⟩ := anyRoute_ok hfu k3 (by omega) (n := p.Network) (by have := h1.net.f2; omega) (by have := h1.net.n2; omega)
  obtain ⟨r7, c7, g7, h7, k7⟩ := anyNetwork_ok hfu k3 (by omega)
  obtain ⟨n8, L8, b8, a8, s8, g8, l8, m8, k8⟩ := anyPlan_loop (fu := fu) (p, c1) h3 fu 0 p.Lights c3.code c3.at_ c3.seed (k + 1000 + 2 + 2) (k + 1010) k3 (by omega) (by omega) (by omega) (by omega) (fun x hx => by have := h4 x hx; omega) (by omega)
  rw [Int.ofNat_zero] at g8
  have hr := h4 e hem
  have hset : ∀ (x : Light), x.Route.Fibers.length ≤ 5 → PlanD ⟨p.Network, p.Lights.set r2.toNat x⟩ := fun x hx => ⟨h1.net, by simp only [List.length_set]; omega, fun y hy => by
    rcases List.mem_or_eq_of_mem_set hy with hy | rfl
    · have := h4 y hy; omega
    · omega⟩
  have ha : app p.Lights [e] = some (p.Lights ++ [e]) := app1 (by omega)
  obtain ⟨e9, he9, -⟩ := idx_some (l := p.Lights ++ [e]) (i := r2) p0 (by simp; omega)
  simp only [h', Bool.false_eq_true, if_false, g2, g3, g4, g5, g6, g7, g8, he, ha, he9, ite_bnd, Out.on, Option.bind_some]
  split
  · exact ⟨_, _, rfl, hset _ (by simp only; omega), k4.mono (by omega)⟩
  split
  · exact ⟨_, _, rfl, hset _ (by simp only; omega), k5.mono (by omega)⟩
  split
  · exact ⟨_, _, rfl, hset _ (by simp only; omega), k6.mono (by omega)⟩
  split
  · refine ⟨_, _, rfl, ⟨h1.net, by simp; omega, fun y hy => ?_⟩, k3.mono (by omega)⟩
    rcases List.mem_or_eq_of_mem_set hy with hy | rfl
    · rcases List.mem_append.1 hy with hy | hy
      · have := h4 y hy; omega
      · simp only [List.mem_singleton] at hy; subst hy; omega
    · show e.Route.Fibers.length ≤ 20; omega
  split
  · exact ⟨_, _, rfl, ⟨h7, by simp only [List.length_set]; omega, (hset ⟨_, ⟨_, e.Route.Fibers⟩, _⟩ (by show e.Route.Fibers.length ≤ 5; omega)).rs⟩, k7.mono (by omega)⟩
  split
  · exact ⟨_, _, rfl, ⟨h1.net, by simp only; omega, m8⟩, k8.mono (by omega)⟩
  · exact ⟨_, _, rfl, hset _ (by show e.Route.Fibers.length ≤ 5; omega), k3.mono (by omega)⟩
end AT

namespace AT
theorem l4Nodes_eq {fu : Nat} (hfu : 2097153 ≤ fu) (n : Network) (r : Route) (hB : NetB n) (hr : r.Fibers.length ≤ 2097152) {o : List Int} (ho : rnodes n r = some o) : spec_l4Nodes fu n r = some o := by
  unfold spec_l4Nodes
  obtain ⟨o', h⟩ := walk_eq hfu n r hB.2 hB.1.1 hr
  rw [h, ho]; rfl
end AT

namespace AT
structure FibD (K : Nat) (f : Fiber) : Prop where
  a : 0 ≤ f.A ∧ f.A < (K : Int)
  b : 0 ≤ f.B ∧ f.B < (K : Int)
  ne : f.A ≠ f.B
  l : NumB f.Length
  r : NumB f.Risk
theorem lm_ex (fu : Nat) {a b : Int} (h : a ≠ b) : ∃ r s, spec_l1Least fu a b = some r ∧ spec_l1Most fu a b = some s ∧ r ≠ s ∧ (r = a ∨ r = b) ∧ (s = a ∨ s = b) := by
  unfold spec_l1Least spec_l1Most
  by_cases h1 : a < b
  · rw [if_pos (by simpa using h1), if_neg (by simp; omega)]
    exact ⟨_, _, rfl, rfl, h, .inl rfl, .inr rfl⟩
  · rw [if_neg (by simpa using h1), if_pos (by simp; omega)]
    exact ⟨_, _, rfl, rfl, fun e => h e.symm, .inr rfl, .inl rfl⟩
theorem put_in {fu : Nat} (hfu : 2097153 ≤ fu) (l : List Fiber) (f : Fiber) (hl : l.length ≤ 1000000) : ∃ r, spec_l2Put fu l f = some r ∧ r.length = l.length + 1 ∧ ∀ e ∈ r, e ∈ l ∨ e = f := by
  unfold spec_l2Put
  obtain ⟨j, h1, h2⟩ := l2Put_loop (fu := fu) l f hl fu 0 (by omega) (by omega)
  have hs : sub l (j : Int) (l.length : Int) = some (l.drop j) := by
    unfold sub
    rw [if_pos (by omega)]
    simp
  rw [show ((0 : Nat) : Int) = 0 from rfl] at h1
  rw [h1, Option.bind_some, sub_take h2, Option.bind_some, hs, Option.bind_some, app_nil (by rw [List.length_take]; omega), Option.bind_some, app_ok (by rw [List.length_take, List.length_singleton]; omega), Option.bind_some, app_ok (by rw [List.length_append, List.length_take, List.length_singleton, List.length_drop]; omega), Option.bind_some]
  refine ⟨_, rfl, ?_, fun e he => ?_⟩
  · simp only [List.length_append, List.length_take, List.length_singleton, List.length_drop]
    omega
  · simp only [List.mem_append, List.mem_singleton] at he
    rcases he with (he | he) | he
    · exact .inl (List.mem_of_mem_take he)
    · exact .inr he
    · exact .inl (List.mem_of_mem_drop he)
theorem fib_new {K : Nat} {a b r s p q : Int} (ha : 0 ≤ a ∧ a < (K : Int)) (hb : 0 ≤ b ∧ b < (K : Int)) (hne : r ≠ s) (hr : r = a ∨ r = b) (hs : s = a ∨ s = b) (p0 : 0 ≤ p) (p1 : p < 8) (hq : q ∈ ([0, 0, 0, 1, 2] : List Int)) : FibD K ({ A := r, B := s, Length := w64 (100 * (w64 (1 + p))), Risk := q } : Fiber) := by
  have e : w64 (100 * (w64 (1 + p))) = 100 * (1 + p) := by rw [w64_in (n := 1 + p) (by omega) (by omega), w64_in (by omega) (by omega)]
  simp only [List.mem_cons, List.not_mem_nil, or_false] at hq
  refine ⟨by simp only; omega, by simp only; omega, hne, ?_, ?_⟩
  · simp only [e]; exact ⟨by omega, by omega⟩
  · exact ⟨by simp only; omega, by simp only; omega⟩
theorem net1 {fu : Nat} (hfu : 2097153 ≤ fu) (y : Int × L1CurP) (K : Nat) (hK : w64 (2 + y.1) = (K : Int)) (h2 : 2 ≤ K) (h6 : K ≤ 6) : ∀ (fk i : Nat) (m : List By) (m2 : Int) (m3 : U64) (l : List Fiber) (k B : Int), Cur ⟨m, m2, m3⟩ k → k ≤ B + 10 * (i : Int) → B ≤ 1000000000 → l.length ≤ i → (∀ f ∈ l, FibD K f) → i ≤ K → K - i < fk →
    ∃ i' m' a' s' l', spec_l1Cur_network_L1 fu y fk i m m2 m3 l = some (i', m', a', s', l') ∧ l'.length ≤ K ∧ (∀ f ∈ l', FibD K f) ∧ Cur ⟨m', a', s'⟩ (B + 10 * (K : Int)) := by
  intro fk
  induction fk with
  | zero => intro i _ _ _ _ _ _ _ _ _ _ _ _ h; omega
  | succ fk ih =>
    intro i m m2 m3 l k B hc hk hB hl hL hi hf
    rw [spec_l1Cur_network_L1, hK]
    by_cases h : i < K
    · have hlt : ((i : Int) < (K : Int)) = True := by simp; omega
      have e : w64 ((i : Int) + 1) = ((i + 1 : Nat) : Int) := w64_inc h (by omega)
      obtain ⟨q, hq, q0, q1⟩ := rem_ok (a := ((i + 1 : Nat) : Int)) (n := (K : Int)) (by omega) (by omega)
      obtain ⟨r1, c1, g1, -, -, k1⟩ := pick_ok (fu := fu) hc (by omega) 10 (by decide)
      simp only [hlt, decide_true, if_true, e, hq, Option.bind_some, spec_l1Cur_one, g1]
      have k1' : Cur ⟨c1.code, c1.at_, c1.seed⟩ (k + 2) := k1
      split
      · exact ih (i + 1) _ _ _ _ k B hc (by omega) hB (by omega) hL h (by omega)
      · rename_i hne
        split
        · exact ih (i + 1) _ _ _ _ (k + 2) B k1' (by omega) hB (by omega) hL h (by omega)
        · obtain ⟨r3, r4, g3, g4, n1, n2, n3⟩ := lm_ex fu (a := (i : Int)) (b := q) (by simpa using hne)
          obtain ⟨r5, c5, g5, p0, p1, k5⟩ := pick_ok (fu := fu) k1 (by omega) 8 (by decide)
          obtain ⟨r6, c6, g6, m6, k6⟩ := among_ok (fu := fu) k5 (by omega) [0, 0, 0, 1, 2] (by decide) (by decide)
          obtain ⟨r7, g7, h7, h8⟩ := put_in hfu l ({ A := r3, B := r4, Length := w64 (100 * (w64 (1 + r5))), Risk := r6 } : Fiber) (by omega)
          simp only [g3, g4, g5, g6, g7, Option.bind_some]
          refine ih (i + 1) _ _ _ _ (k + 2 + 2 + 2) B k6 (by omega) hB (by omega) (fun f hf => ?_) h (by omega)
          rcases h8 f hf with hf | rfl
          · exact hL f hf
          · exact fib_new ⟨by omega, by omega⟩ ⟨q0, q1⟩ n1 n2 n3 p0 (p1 (by decide)) m6
    · obtain rfl : i = K := by omega
      have hlt : ((i : Int) < (i : Int)) = False := by simp
      simp only [hlt, decide_false, Bool.false_eq_true, if_false]
      exact ⟨_, _, _, _, _, rfl, hl, hL, hc.mono (by omega)⟩
theorem net2 {fu : Nat} (hfu : 2097153 ≤ fu) (y : Int × L1CurP) (K : Nat) (hK : w64 (2 + y.1) = (K : Int)) (h2 : 2 ≤ K) (h6 : K ≤ 6) : ∀ (fk n : Nat) (l : List Fiber) (m : List By) (m2 : Int) (m3 : U64) (k B : Int), Cur ⟨m, m2, m3⟩ k → k ≤ B - 10 * (n : Int) → B ≤ 1000000000 → l.length + n ≤ 9 → (∀ f ∈ l, FibD K f) → n < fk →
    ∃ i' l' m' a' s', spec_l1Cur_network_L2 fu y fk (n : Int) l m m2 m3 = some (i', l', m', a', s') ∧ l'.length ≤ 9 ∧ (∀ f ∈ l', FibD K f) ∧ Cur ⟨m', a', s'⟩ B := by
  intro fk
  induction fk with
  | zero => intro n _ _ _ _ _ _ _ _ _ _ _ h; omega
  | succ fk ih =>
    intro n l m m2 m3 k B hc hk hB hl hL hf
    rw [spec_l1Cur_network_L2, hK]
    by_cases h : 0 < n
    · have hlt : ((n : Int) > 0) = True := by simp; omega
      have e : w64 ((n : Int) - 1) = ((n - 1 : Nat) : Int) := w64_dec h (by omega)
      obtain ⟨r1, c1, g1, a0, a1, k1⟩ := pick_ok (fu := fu) hc (by omega) (K : Int) (by omega)
      obtain ⟨r2, c2, g2, b0, b1, k2⟩ := pick_ok (fu := fu) k1 (by omega) (K : Int) (by omega)
      simp only [hlt, decide_true, if_true, e, g1, g2, Option.bind_some]
      split
      · rename_i hne
        obtain ⟨r3, r4, g3, g4, n1, n2, n3⟩ := lm_ex fu (a := r1) (b := r2) (by simpa using hne)
        obtain ⟨r5, c5, g5, p0, p1, k5⟩ := pick_ok (fu := fu) k2 (by omega) 8 (by decide)
        obtain ⟨r6, c6, g6, m6, k6⟩ := among_ok (fu := fu) k5 (by omega) [0, 0, 0, 1, 2] (by decide) (by decide)
        obtain ⟨r7, g7, h7, h8⟩ := put_in hfu l ({ A := r3, B := r4, Length := w64 (100 * (w64 (1 + r5))), Risk := r6 } : Fiber) (by omega)
        simp only [g3, g4, g5, g6, g7, Option.bind_some]
        refine ih (n - 1) r7 _ _ _ (k + 2 + 2 + 2 + 2) B k6 (by omega) hB (by omega) (fun f hf => ?_) (by omega)
        rcases h8 f hf with hf | rfl
        · exact hL f hf
        · exact fib_new ⟨a0, a1 (by omega)⟩ ⟨b0, b1 (by omega)⟩ n1 n2 n3 p0 (p1 (by decide)) m6
      · exact ih (n - 1) _ _ _ _ (k + 2 + 2) B k2 (by omega) hB (by omega) hL (by omega)
    · obtain rfl : n = 0 := by omega
      rw [if_neg (by simp)]
      exact ⟨_, _, _, _, _, rfl, by omega, hL, hc.mono (by omega)⟩
structure NetG (n : Network) : Prop where
  D : NetD n
  n2 : 2 ≤ n.Nodes.length
  f : ∀ f ∈ n.Fibers, FibD n.Nodes.length f
  k : n.Fibers.length ≤ 10
theorem network_g {fu : Nat} (hfu : 2097153 ≤ fu) {c : L1CurP} {k : Int} (hc : Cur c k) (hk : k ≤ 900000000) : ∃ r c', spec_l1Cur_network fu c = some (r, c') ∧ NetG r ∧ r.Fibers.length ≤ 9 ∧ Cur c' (k + 200) := by
  unfold spec_l1Cur_network
  obtain ⟨r1, c1, g1, p0, p1, k1⟩ := pick_ok (fu := fu) hc (by omega) 5 (by decide)
  have p2 := p1 (by decide)
  have hK : w64 (2 + r1) = (((2 + r1).toNat : Nat) : Int) := by rw [w64_in (by omega) (by omega)]; omega
  have hK2 : 2 ≤ (2 + r1).toNat := by omega
  have hK6 : (2 + r1).toNat ≤ 6 := by omega
  obtain ⟨i2, m2, a2, s2, l2, g2, h2, f2, k2⟩ := net1 hfu (r1, c1) (2 + r1).toNat hK hK2 hK6 fu 0 c1.code c1.at_ c1.seed [] (k + 2) (k + 2) k1 (by omega) (by omega) (by simp) (by simp) (by omega) (by omega)
  obtain ⟨r3, c3, g3, q0, q1, k3⟩ := pick_ok (fu := fu) k2 (by omega) 4 (by decide)
  have q2 := q1 (by decide)
  obtain ⟨i4, l4, m4, a4, s4, g4, h4, f4, k4⟩ := net2 hfu (r1, c1) (2 + r1).toNat hK hK2 hK6 fu r3.toNat l2 c3.code c3.at_ c3.seed (k + 2 + 10 * ((2 + r1).toNat : Int) + 2) (k + 200) k3 (by omega) (by omega) (by omega) f2 (by omega)
  rw [Int.ofNat_zero] at g2
  rw [Int.toNat_of_nonneg q0] at g4
  simp only [g1, Option.bind_some, hK]
  have hlen : (([(⟨#[97]⟩ : ByteArray), (⟨#[98]⟩ : ByteArray), (⟨#[99]⟩ : ByteArray), (⟨#[100]⟩ : ByteArray), (⟨#[101]⟩ : ByteArray), (⟨#[102]⟩ : ByteArray)].take (2 + r1).toNat)).length = (2 + r1).toNat := by rw [List.length_take]; simp; omega
  rw [sub_take (by simp; omega)]
  simp only [g2, g3, g4, Option.bind_some]
  refine ⟨_, _, rfl, ⟨⟨by rw [hlen]; omega, by rw [hlen]; omega, fun e he => ?_, by simp only; omega⟩, by rw [hlen]; omega, by rw [hlen]; exact f4, by simp only; omega⟩, h4, k4⟩
  have he' := List.mem_of_mem_take he
  simp only [List.mem_cons, List.not_mem_nil, or_false] at he'
  rcases he' with rfl | rfl | rfl | rfl | rfl | rfl <;> decide
theorem linked_g {fu : Nat} (hfu : 2097153 ≤ fu) {c : L1CurP} {k : Int} (hc : Cur c k) (hk : k ≤ 900000000) : ∃ r c', spec_l1Cur_linked fu c = some (r, c') ∧ NetG r ∧ 1 ≤ r.Fibers.length ∧ Cur c' (k + 200) := by
  unfold spec_l1Cur_linked
  obtain ⟨r, c', g1, h1, h3, k1⟩ := network_g hfu hc hk
  simp only [g1, Option.bind_some]
  split
  · rename_i h
    have h0 : r.Fibers.length = 0 := by simpa using h
    have h2 := h1.n2
    rw [app1 (by omega)]
    refine ⟨_, _, rfl, ⟨⟨h1.D.n1, h1.D.n2, h1.D.ns, by simp; omega⟩, h2, fun f hf => ?_, by simp; omega⟩, by simp, k1⟩
    rcases List.mem_append.1 hf with hf | hf
    · exact h1.f f hf
    · rw [List.mem_singleton] at hf
      subst hf
      exact ⟨⟨by simp only; omega, by simp only; omega⟩, ⟨by simp only; omega, by simp only; omega⟩, by simp, ⟨by simp, by simp⟩, ⟨by simp, by simp⟩⟩
  · rename_i h
    have h0 : r.Fibers.length ≠ 0 := by simpa using h
    exact ⟨_, _, rfl, h1, by omega, k1⟩
theorem rw_snoc {F : List Fiber} {i : Nat} (hi : i < F.length) : ∀ (fs out : List Int) (v : Int) {o : List Int}, v = gl out → rwalk F fs out v = some o → 0 ≤ oth (gd F i f0) (gl o) → (o.any fun x => x == oth (gd F i f0) (gl o)) = false → rwalk F (fs ++ [(i : Int)]) out v = some (o ++ [oth (gd F i f0) (gl o)])
  | [], out, v, o, hv, h, h0, hn => by
    simp only [rwalk, Option.some.injEq] at h
    subst h
    rw [List.nil_append, rwalk, if_pos ⟨Int.natCast_nonneg i, by omega⟩, Int.toNat_natCast, hv, if_neg (fun h => by
      rcases h with h | h
      · omega
      · rw [hn] at h; cases h)]
    rfl
  | j :: fs, out, v, o, hv, h, h0, hn => by
    rw [List.cons_append]
    unfold rwalk at h ⊢
    split at h
    · rename_i hj
      rw [if_pos hj]
      split at h
      · cases h
      · rename_i hc
        rw [if_neg hc]
        exact rw_snoc hi fs _ _ (by rw [gl_snoc]) h h0 hn
    · cases h
theorem rw_in {F : List Fiber} {K : Nat} (hF : ∀ f ∈ F, FibD K f) : ∀ {fs out : List Int} {v : Int} {o : List Int}, rwalk F fs out v = some o → (∀ x ∈ out, 0 ≤ x ∧ x < (K : Int)) → ∀ x ∈ o, 0 ≤ x ∧ x < (K : Int)
  | [], out, v, o, h, ho => by
    simp only [rwalk, Option.some.injEq] at h
    subst h; exact ho
  | j :: fs, out, v, o, h, ho => by
    unfold rwalk at h
    split at h
    · rename_i hj
      split at h
      · cases h
      · rename_i hc
        refine rw_in hF h fun x hx => ?_
        rcases List.mem_append.1 hx with hx | hx
        · exact ho x hx
        · rw [List.mem_singleton] at hx
          have hf := hF _ (gd_mem (l := F) (i := j.toNat) f0 (by omega))
          have h0 : ¬ oth (gd F j.toNat f0) v < 0 := fun h => hc (.inl h)
          rw [← hx] at h0
          unfold oth at hx
          have ha := hf.a
          have hb := hf.b
          split at hx
          · omega
          · split at hx <;> omega
    · cases h
def okSt (n : Network) (s : List Int) (e : Int) : Prop := (0 ≤ e ∧ e < (n.Fibers.length : Int)) ∧ 0 ≤ oth (gd n.Fibers e.toNat f0) (gl s) ∧ (s.any fun x => x == oth (gd n.Fibers e.toNat f0) (gl s)) = false
theorem route2 {fu : Nat} (hfu : 2097153 ≤ fu) (n : Network) (y : Int × L1CurP) (seen : List Int) (hn : n.Fibers.length ≤ 1000000) (h1 : 1 ≤ seen.length) (h2 : seen.length ≤ 1000000) : ∀ (fk i : Nat) (o : List Int), i ≤ n.Fibers.length → n.Fibers.length - i < fk → o.length ≤ i → (∀ e ∈ o, okSt n seen e) →
    ∃ l i', spec_l1Cur_route_L2 fu n y seen fk o i = some (l, i') ∧ l.length ≤ n.Fibers.length ∧ ∀ e ∈ l, okSt n seen e := by
  intro fk
  induction fk with
  | zero => intro i _ _ h; omega
  | succ fk ih =>
    intro i o hi hf ho hr
    rw [spec_l1Cur_route_L2]
    by_cases h : i < n.Fibers.length
    · have hlt : ((i : Int) < (n.Fibers.length : Int)) = True := by simp; omega
      have e1 : w64 ((seen.length : Int) - 1) = ((seen.length - 1 : Nat) : Int) := by rw [w64_in (by omega) (by omega)]; omega
      have eg : seen[seen.length - 1] = gl seen := by unfold gl; rw [gd_in 0 (by omega)]
      have hh : ∀ v, spec_l1Has fu seen v = some (seen.any fun x => x == v) := fun v => l1Has_eq seen v (by omega) (by omega)
      have ha : app o [(i : Int)] = some (o ++ [(i : Int)]) := app1 (by omega)
      simp only [hlt, decide_true, if_true, e1, idx_in (show seen.length - 1 < seen.length by omega), Option.bind_some, eg, l2Other_eq fu n i _ h, hh, ha, w64_inc h (show (n.Fibers.length : Int) ≤ 9223372036854775807 by omega)]
      obtain ⟨v, hv⟩ : ∃ v, v = oth (gd n.Fibers i f0) (gl seen) := ⟨_, rfl⟩
      rw [← hv]
      by_cases h0 : 0 ≤ v
      · rw [if_pos (by simpa using h0), Option.bind_some]
        cases ht : seen.any fun x => x == v with
        | false =>
          rw [if_pos (by rfl)]
          refine ih (i + 1) _ h (by omega) (by simp; omega) fun e he => ?_
          rcases List.mem_append.1 he with he | he
          · exact hr e he
          · rw [List.mem_singleton] at he
            subst he
            unfold okSt
            rw [Int.toNat_natCast, ← hv]
            exact ⟨⟨by omega, by omega⟩, h0, ht⟩
        | true =>
          rw [if_neg (by decide)]
          exact ih (i + 1) o h (by omega) (by omega) hr
      · rw [if_neg (by simpa using h0), Option.bind_some, if_neg (by decide)]
        exact ih (i + 1) o h (by omega) (by omega) hr
    · obtain rfl : i = n.Fibers.length := by omega
      rw [if_neg (by simp)]
      exact ⟨_, _, rfl, ho, hr⟩
theorem route1 {fu : Nat} (hfu : 2097153 ≤ fu) (n : Network) (y : Int × L1CurP) (hn : n.Fibers.length ≤ 1000) (s0 : Int) : ∀ (fk m : Nat) (seen l : List Int) (b : List By) (a : Int) (s : U64) (k B : Int), Cur ⟨b, a, s⟩ k → k ≤ B - 2 * (m : Int) → B ≤ 1000000000 → 1 ≤ seen.length → seen.length + m ≤ 1000 → l.length + m ≤ 4 → rwalk n.Fibers l [s0] s0 = some seen → m < fk →
    ∃ s2 m2 l' b' a' s', spec_l1Cur_route_L1 fu n y fk seen (m : Int) l b a s = some (s2, m2, l', b', a', s') ∧ l'.length ≤ 4 ∧ rwalk n.Fibers l' [s0] s0 = some s2 ∧ Cur ⟨b', a', s'⟩ B := by
  intro fk
  induction fk with
  | zero => intro m _ _ _ _ _ _ _ _ _ _ _ _ _ _ h; omega
  | succ fk ih =>
    intro m seen l b a s k B hc hk hB hs1 hs2 hl hr hf
    rw [spec_l1Cur_route_L1]
    by_cases h : 0 < m
    · have hlt : ((m : Int) > 0) = True := by simp; omega
      have e : w64 ((m : Int) - 1) = ((m - 1 : Nat) : Int) := w64_dec h (by omega)
      obtain ⟨z, zi, g1, z1, z2⟩ := route2 hfu n y seen (by omega) hs1 (by omega) fu 0 [] (by omega) (by omega) (by simp) (by simp)
      rw [Int.ofNat_zero] at g1
      have e1 : w64 ((seen.length : Int) - 1) = ((seen.length - 1 : Nat) : Int) := by rw [w64_in (by omega) (by omega)]; omega
      have eg : seen[seen.length - 1] = gl seen := by unfold gl; rw [gd_in 0 (by omega)]
      simp only [hlt, decide_true, if_true, e, g1, Option.bind_some]
      by_cases hz : z.length = 0
      · have hz' : ((z.length : Int) == 0) = true := by simp [hz]
        simp only [hz', if_true]
        exact ⟨_, _, _, _, _, _, rfl, by omega, hr, hc.mono (by omega)⟩
      · have hz' : ((z.length : Int) == 0) = false := by simpa using hz
        obtain ⟨r1, c1, g2, p0, p1, k1⟩ := pick_ok (fu := fu) hc (by omega) (z.length : Int) (by omega)
        obtain ⟨x, hx, hxm⟩ := idx_some (l := z) (i := r1) p0 (p1 (by omega))
        obtain ⟨⟨x0, x1⟩, x2, x3⟩ := z2 x hxm
        have hxn : x = ((x.toNat : Nat) : Int) := by omega
        have ho : ∀ v, spec_l2Other fu n x v = some (oth (gd n.Fibers x.toNat f0) v) := fun v => by
          have := l2Other_eq fu n x.toNat v (by omega)
          rwa [← hxn] at this
        simp only [hz', Bool.false_eq_true, if_false, g2, Option.bind_some, hx, e1, idx_in (show seen.length - 1 < seen.length by omega), eg, ho, app1 (show l.length ≤ 1000000 by omega), app1 (show seen.length ≤ 1000000 by omega)]
        have hr2 := rw_snoc (F := n.Fibers) (i := x.toNat) (by omega) l [s0] s0 rfl hr x2 x3
        rw [← hxn] at hr2
        exact ih (m - 1) _ _ _ _ _ (k + 2) B k1 (by omega) hB (by simp) (by simp; omega) (by simp; omega) hr2 (by omega)
    · obtain rfl : m = 0 := by omega
      rw [if_neg (by simp)]
      exact ⟨_, _, _, _, _, _, rfl, by omega, hr, hc.mono (by omega)⟩
theorem routed_g {fu : Nat} (hfu : 2097153 ≤ fu) {c : L1CurP} {k : Int} (hc : Cur c k) (hk : k ≤ 900000000) {n : Network} (hG : NetG n) (h1 : 1 ≤ n.Fibers.length) : ∃ r c', spec_l1Cur_routed fu c n = some (r, c') ∧ r.Fibers.length ≤ 4 ∧ (∃ o, rnodes n r = some o) ∧ Cur c' (k + 20) := by
  unfold spec_l1Cur_routed spec_l1Cur_route
  have n1 := hG.D.n1
  have n2 := hG.D.n2
  have hn := hG.k
  obtain ⟨r1, c1, g1, s0, s1, k1⟩ := pick_ok (fu := fu) hc (by omega) (n.Nodes.length : Int) (by omega)
  obtain ⟨r2, c2, g2, p0, p1, k2⟩ := pick_ok (fu := fu) k1 (by omega) 4 (by decide)
  have p2 := p1 (by decide)
  have e : w64 (1 + r2) = (((1 + r2).toNat : Nat) : Int) := by rw [w64_in (by omega) (by omega)]; omega
  obtain ⟨s3, m3, l3, b3, a3, t3, g3, h3, h4, k3⟩ := route1 hfu n (r1, c1) (by omega) r1 fu (1 + r2).toNat [r1] [] c2.code c2.at_ c2.seed (k + 2 + 2) (k + 20) k2 (by omega) (by omega) (by simp) (by simp; omega) (by simp; omega) rfl (by omega)
  simp only [g1, g2, Option.bind_some, e, g3]
  by_cases h : l3 = []
  · subst h
    rw [if_pos (by rfl), show (0 : Int) = ((0 : Nat) : Int) from rfl, idx_in (show 0 < n.Fibers.length by omega)]
    obtain ⟨fa, fb, fne, -, -⟩ := hG.f _ (List.getElem_mem (show 0 < n.Fibers.length by omega))
    have eo : oth (gd n.Fibers 0 f0) (n.Fibers[0]).A = (n.Fibers[0]).B := by
      rw [gd_in f0 (show 0 < n.Fibers.length by omega)]
      unfold oth; rw [if_pos rfl]
    refine ⟨_, _, rfl, by simp, ⟨[n.Fibers[0].A] ++ [n.Fibers[0].B], ?_⟩, k3⟩
    · unfold rnodes
      rw [if_pos ⟨fa, by simp⟩, rwalk, if_pos ⟨by simp, by simp; omega⟩]
      have e0 : (((0 : Nat) : Int)).toNat = 0 := rfl
      rw [e0, eo, if_neg (fun h => by
        rcases h with h | h
        · omega
        · simp at h; exact fne h)]
      rfl
  · rw [if_neg (by cases l3 with
      | nil => exact absurd rfl h
      | cons x t => simp; omega)]
    refine ⟨_, _, rfl, h3, ⟨s3, ?_⟩, k3⟩
    unfold rnodes
    rw [if_pos ⟨⟨s0, s1 (by omega)⟩, h⟩]
    exact h4
structure LgG (n : Network) (x : Light) : Prop where
  i : NumB x.Id
  o : ∃ o, rnodes n x.Route = some o
  b : blkOk x.Block = true
  k : x.Route.Fibers.length ≤ 4
theorem planL {fu : Nat} (hfu : 2097153 ≤ fu) (ns : List ByteArray) (fs : List Fiber) (hn : NetG ⟨ns, fs⟩) (h1 : 1 ≤ fs.length) : ∀ (fk n : Nat) (L : List Light) (b : List By) (a : Int) (s : U64) (k B : Int), Cur ⟨b, a, s⟩ k → k ≤ B - 50 * (n : Int) → B ≤ 800000000 → L.length + n ≤ 8 → (∀ y ∈ L, LgG ⟨ns, fs⟩ y) → n < fk →
    ∃ n' L' b' a' s', spec_l1Cur_plan_L1 fu fk (n : Int) ns fs L b a s = some (n', ns, fs, L', b', a', s') ∧ L'.length ≤ 8 ∧ (∀ y ∈ L', LgG ⟨ns, fs⟩ y) ∧ Cur ⟨b', a', s'⟩ B := by
  intro fk
  induction fk with
  | zero => intro n _ _ _ _ _ _ _ _ _ _ _ h; omega
  | succ fk ih =>
    intro n L b a s k B hc hk hB hl hb hf
    rw [spec_l1Cur_plan_L1]
    have f2 := hn.k
    have n2 := hn.D.n2
    simp only at f2 n2
    by_cases h : 0 < n
    · have hlt : ((n : Int) > 0) = True := eq_true (by omega)
      have e : w64 ((n : Int) - 1) = ((n - 1 : Nat) : Int) := w64_dec h (by omega)
      obtain ⟨r3, c3, g3, q2, q3, k3⟩ := routed_g hfu hc (by omega) (n := ⟨ns, fs⟩) hn h1
      obtain ⟨r4, c4, g4, p0, p1, k4⟩ := pick_ok (fu := fu) k3 (by omega) 5 (by decide)
      have p2 := p1 (by decide)
      have e4 : w64 (1 + r4) = 1 + r4 := w64_in (by omega) (by omega)
      have hal := l9Along_eq hfu (⟨⟨ns, fs⟩, L⟩ : Plan) r3 (by simp only; omega) (fun x hx => (hb x hx).b) (fun x hx => by have := (hb x hx).k; omega) (by omega)
      have hfi := fun m => l8Fits_eq hfu m (1 + r4) (by omega) (by omega)
      simp only [hlt, decide_true, if_true, e, g3, g4, Option.bind_some, hal, e4, hfi]
      obtain ⟨F, hF⟩ : ∃ F, F = fits (along L r3.Fibers) (1 + r4) := ⟨_, rfl⟩
      simp only [← hF]
      have hm : ∀ t ∈ F, blkOk ⟨t, 1 + r4⟩ = true := fun t ht => by
        rw [hF, fits_mem (by omega) (by omega)] at ht
        unfold blkOk
        simp only [Bool.and_eq_true, decide_eq_true_eq]
        omega
      by_cases hz : F.length = 0
      · have hz' : ((F.length : Int) > 0) = False := eq_false (by omega)
        simp only [hz', decide_false, Bool.false_eq_true, if_false]
        exact ih (n - 1) L _ _ _ (k + 20 + 2) B k4 (by omega) hB (by omega) hb (by omega)
      · have hz' : ((F.length : Int) > 0) = True := eq_true (by omega)
        obtain ⟨e0, he0, hm0⟩ := idx_some (l := F) (i := 0) (Int.le_refl _) (by omega)
        obtain ⟨r5, c5, g5, -, -, k5⟩ := pick_ok (fu := fu) k4 (by omega) 2 (by decide)
        have hFl : F.length ≤ 25 := by rw [hF]; exact fits_len _ _
        obtain ⟨r6, c6, g6, p6, p7, k6⟩ := pick_ok (fu := fu) k5 (by omega) (F.length : Int) (by omega)
        obtain ⟨e1, he1, hm1⟩ := idx_some (l := F) (i := r6) p6 (p7 (by omega))
        obtain ⟨r7, c7, g7, d0, d1, k7⟩ := pick_ok (fu := fu) k6 (by omega) 3 (by decide)
        obtain ⟨r8, c8, g8, d2, d3, k8⟩ := pick_ok (fu := fu) k5 (by omega) 3 (by decide)
        have d1 := d1 (by decide)
        have d3 := d3 (by decide)
        have hput : ∀ x : Light, x.Route = r3 → spec_l9Put fu (⟨⟨ns, fs⟩, L⟩ : Plan) x = some (addP ⟨⟨ns, fs⟩, L⟩ x) := fun x hx => l9Put_eq hfu _ x ⟨hn.D.B, by simp only; omega, fun y hy => by have := (hb y hy).k; omega⟩ (by rw [hx]; omega)
        have hid : ∀ r : Int, 0 ≤ r → r < 3 → NumB (w64 ((w64 ((w64 ((L.length : Int) * 3)) + 1)) + r)) := fun r r0 r1 => by
          rw [w64_in (n := (L.length : Int) * 3) (by omega) (by omega), w64_in (n := (L.length : Int) * 3 + 1) (by omega) (by omega), w64_in (by omega) (by omega)]
          exact ⟨by omega, by omega⟩
        have i7 := hid r7 d0 d1
        have i8 := hid r8 d2 d3
        simp only [hz', decide_true, if_true, he0, spec_l1Cur_one, g5, g6, he1, g7, g8, Option.bind_some]
        have step : ∀ (x : Light) (c : L1CurP) (k' : Int), x.Route = r3 → blkOk x.Block = true → NumB x.Id → Cur c k' → k' ≤ k + 30 → ∃ n' L' b' a' s', ((spec_l9Put fu (⟨⟨ns, fs⟩, L⟩ : Plan) x).bind fun y => spec_l1Cur_plan_L1 fu fk ((n - 1 : Nat) : Int) y.Network.Nodes y.Network.Fibers y.Lights c.code c.at_ c.seed) = some (n', ns, fs, L', b', a', s') ∧ L'.length ≤ 8 ∧ (∀ y ∈ L', LgG ⟨ns, fs⟩ y) ∧ Cur ⟨b', a', s'⟩ B := by
          intro x c k' hx hb' hi' hc' hk'
          rw [hput x hx, Option.bind_some]
          refine ih (n - 1) (putL L x) _ _ _ k' B hc' (by omega) hB (by rw [putL_len]; omega) (fun y hy => ?_) (by omega)
          rcases putL_mem.1 hy with rfl | hy
          · exact ⟨hi', by rw [hx]; exact q3, hb', by rw [hx]; exact q2⟩
          · exact hb y hy
        split
        · exact step _ c7 _ rfl (hm _ hm1) i7 k7 (by omega)
        · exact step _ c8 _ rfl (hm _ hm0) i8 k8 (by omega)
    · obtain rfl : n = 0 := by omega
      rw [if_neg (by simp)]
      exact ⟨_, _, _, _, _, rfl, by omega, hb, hc.mono (by omega)⟩
theorem plan_g {fu : Nat} (hfu : 2097153 ≤ fu) {c : L1CurP} {k : Int} (hc : Cur c k) (hk : k ≤ 700000000) : ∃ r c', spec_l1Cur_plan fu c = some (r, c') ∧ NetG r.Network ∧ r.Lights.length ≤ 8 ∧ (∀ x ∈ r.Lights, LgG r.Network x) ∧ Cur c' (k + 1000) := by
  unfold spec_l1Cur_plan
  obtain ⟨n, c1, g1, h1, h2, k1⟩ := linked_g hfu hc (by omega)
  obtain ⟨r2, c2, g2, p0, p1, k2⟩ := pick_ok (fu := fu) k1 (by omega) 9 (by decide)
  have p2 := p1 (by decide)
  obtain ⟨n', L', b', a', s', g3, h3, h4, k3⟩ := planL hfu n.Nodes n.Fibers h1 h2 fu r2.toNat [] c2.code c2.at_ c2.seed (k + 200 + 2) (k + 1000) k2 (by omega) (by omega) (by simp; omega) (by simp) (by omega)
  rw [Int.toNat_of_nonneg p0] at g3
  simp only [g1, g2, g3, Option.bind_some]
  exact ⟨_, _, rfl, h1, h3, h4, k3⟩
end AT

namespace AT
theorem sub1 {l : List UInt8} {a b : Nat} (h : a ≤ b) (hb : b ≤ l.length) : ∃ r, ssub (mkB l) (a : Int) (b : Int) = some (mkB r) ∧ r.length = b - a := by
  refine ⟨_, ssub_mk h hb, ?_⟩
  rw [List.length_drop, List.length_take]
  omega
theorem num_ex : ∀ (k : Nat) {n : Int}, k ≤ 100 → 0 ≤ n → n < 10 ^ (k + 1) → n ≤ 999999 → ∀ {fu : Nat}, k < fu → ∃ l, spec_l1Num fu n = some (mkB l) ∧ l.length ≤ k + 1
  | k, n, hk, h0, h1, h2, 0, hf => by omega
  | 0, n, hk, h0, h1, h2, fu + 1, hf => by
    rw [spec_l1Num, spec_l1Num_B, if_neg (by simpa using h0), if_pos (by simp; omega), w64_in (by omega) (by omega)]
    obtain ⟨r, hr, hl⟩ := sub1 (l := [48, 49, 50, 51, 52, 53, 54, 55, 56, 57]) (a := n.toNat) (b := n.toNat + 1) (by omega) (by simp; omega)
    rw [show ((n.toNat : Nat) : Int) = n by omega, show ((n.toNat + 1 : Nat) : Int) = n + 1 by omega] at hr
    rw [show (⟨#[48, 49, 50, 51, 52, 53, 54, 55, 56, 57]⟩ : ByteArray) = mkB [48, 49, 50, 51, 52, 53, 54, 55, 56, 57] from rfl, hr]
    exact ⟨_, rfl, by omega⟩
  | k + 1, n, hk, h0, h1, h2, fu + 1, hf => by
    by_cases h : n < 10
    · rw [spec_l1Num, spec_l1Num_B, if_neg (by simpa using h0), if_pos (by simpa using h), w64_in (by omega) (by omega)]
      obtain ⟨r, hr, hl⟩ := sub1 (l := [48, 49, 50, 51, 52, 53, 54, 55, 56, 57]) (a := n.toNat) (b := n.toNat + 1) (by omega) (by simp; omega)
      rw [show ((n.toNat : Nat) : Int) = n by omega, show ((n.toNat + 1 : Nat) : Int) = n + 1 by omega] at hr
      rw [show (⟨#[48, 49, 50, 51, 52, 53, 54, 55, 56, 57]⟩ : ByteArray) = mkB [48, 49, 50, 51, 52, 53, 54, 55, 56, 57] from rfl, hr]
      exact ⟨_, rfl, by omega⟩
    · have hp : (10 : Int) ^ (k + 1 + 1) = 10 ^ (k + 1) * 10 := Int.pow_succ ..
      rw [hp] at h1
      have hq : quo n 10 = some (n / 10) := by
        unfold quo
        rw [if_neg (by omega), Int.tdiv_eq_ediv_of_nonneg h0, w64_in (by omega) (by omega)]
      have hr : rem n 10 = some (n % 10) := by
        unfold rem
        rw [if_neg (by omega), Int.tmod_eq_emod_of_nonneg h0]
      obtain ⟨m, hm, hml⟩ := num_ex k (n := n / 10) (by omega) (by omega) (by omega) (by omega) (fu := fu) (by omega)
      obtain ⟨r, hr1, hl⟩ := sub1 (l := [48, 49, 50, 51, 52, 53, 54, 55, 56, 57]) (a := (n % 10).toNat) (b := (n % 10).toNat + 1) (by omega) (by simp; omega)
      rw [show (((n % 10).toNat : Nat) : Int) = n % 10 by omega, show (((n % 10).toNat + 1 : Nat) : Int) = n % 10 + 1 by omega] at hr1
      rw [spec_l1Num, spec_l1Num_B, if_neg (by simpa using h0), if_neg (by simpa using h), hq, Option.bind_some, hr, Option.bind_some, Option.bind_some, w64_in (by omega) (by omega), show (⟨#[48, 49, 50, 51, 52, 53, 54, 55, 56, 57]⟩ : ByteArray) = mkB [48, 49, 50, 51, 52, 53, 54, 55, 56, 57] from rfl, hr1, Option.bind_some]
      rw [hm, Option.bind_some, scat_mk (by
        omega), Option.bind_some]
      exact ⟨_, rfl, by rw [List.length_append]; omega⟩
theorem num6 {fu : Nat} (hfu : 2097153 ≤ fu) {n : Int} (h : NumB n) : ∃ l, spec_l1Num fu n = some (mkB l) ∧ l.length ≤ 6 := by
  obtain ⟨h0, h1⟩ := h
  exact num_ex 5 (by decide) h0 (by omega) h1 (by omega)
theorem nodeB {n : Network} (h : NetD n) {i : Nat} (hi : i < n.Nodes.length) : ∃ l, n.Nodes[i] = mkB l ∧ l.length ≤ 100 := ⟨btl n.Nodes[i], (mk_bl _).symm, by rw [len_bl]; exact h.ns _ (List.getElem_mem hi)⟩
theorem nodeI {n : Network} (h : NetD n) {i : Int} (hi : 0 ≤ i ∧ i < (n.Nodes.length : Int)) : ∃ l, idx n.Nodes i = some (mkB l) ∧ l.length ≤ 100 := by
  obtain ⟨l, h1, h2⟩ := nodeB h (i := i.toNat) (by omega)
  have := idx_in (l := n.Nodes) (i := i.toNat) (by omega)
  rw [Int.toNat_of_nonneg hi.1, h1] at this
  exact ⟨l, this, h2⟩
theorem l3N1 {fu : Nat} {n : Network} (h : NetD n) : ∀ (fk i : Nat) (a : List UInt8), i ≤ n.Nodes.length → n.Nodes.length - i < fk → a.length ≤ 1000 + 200 * i → ∃ l z, spec_l3Network_L1 fu n fk (mkB a) i = some (mkB l, z) ∧ l.length ≤ 1000 + 200 * n.Nodes.length
  | 0, i, a, hi, hf, ha => by omega
  | fk + 1, i, a, hi, hf, ha => by
    have n2 := h.n2
    rw [spec_l3Network_L1]
    by_cases hl : i < n.Nodes.length
    · obtain ⟨m, hm, hm2⟩ := nodeB h hl
      rw [if_pos (by simpa using hl), show (⟨#[32]⟩ : ByteArray) = mkB [32] from rfl, scat_mk (by simp; omega), Option.bind_some, idx_in hl, Option.bind_some, hm, scat_mk (by simp; omega), Option.bind_some, w64_inc hl (by omega)]
      exact l3N1 h fk (i + 1) _ hl (by omega) (by simp; omega)
    · obtain rfl : i = n.Nodes.length := by omega
      rw [if_neg (by simp)]
      exact ⟨_, _, rfl, ha⟩
theorem l3N2 {fu : Nat} (hfu : 2097153 ≤ fu) {n : Network} (h : NetG n) : ∀ (fk i : Nat) (a : List UInt8), i ≤ n.Fibers.length → n.Fibers.length - i < fk → a.length ≤ 10000 + 300 * i → ∃ l z, spec_l3Network_L2 fu n fk (mkB a) i = some (mkB l, z) ∧ l.length ≤ 10000 + 300 * n.Fibers.length
  | 0, i, a, hi, hf, ha => by omega
  | fk + 1, i, a, hi, hf, ha => by
    have n2 := h.k
    rw [spec_l3Network_L2]
    by_cases hl : i < n.Fibers.length
    · have hF := h.f _ (List.getElem_mem hl)
      obtain ⟨x, hx, hx2⟩ := nodeI h.D hF.a
      obtain ⟨y, hy, hy2⟩ := nodeI h.D hF.b
      obtain ⟨u, hu, hu2⟩ := num6 hfu hF.l
      obtain ⟨v, hv, hv2⟩ := num6 hfu hF.r
      have g32 : (⟨#[32]⟩ : ByteArray) = mkB [32] := rfl
      have g10 : (⟨#[10]⟩ : ByteArray) = mkB [10] := rfl
      have gf : (⟨#[102, 105, 98, 101, 114, 32]⟩ : ByteArray) = mkB [102, 105, 98, 101, 114, 32] := rfl
      have gr : (⟨#[32, 114, 105, 115, 107, 32]⟩ : ByteArray) = mkB [32, 114, 105, 115, 107, 32] := rfl
      rw [if_pos (by simpa using hl), idx_in hl, Option.bind_some, gf, scat_mk (by simp; omega), Option.bind_some, hx, Option.bind_some, scat_mk (by simp; omega), Option.bind_some, g32, scat_mk (by simp; omega), Option.bind_some, hy, Option.bind_some, scat_mk (by simp; omega), Option.bind_some, scat_mk (by simp; omega), Option.bind_some, hu, Option.bind_some, scat_mk (by simp; omega), Option.bind_some, w64_inc hl (by omega), gr, g10]
      split
      · rw [scat_mk (by simp; omega), Option.bind_some, hv, Option.bind_some, scat_mk (by simp; omega), Option.bind_some, scat_mk (by simp; omega), Option.bind_some]
        exact l3N2 hfu h fk (i + 1) _ hl (by omega) (by simp; omega)
      · rw [scat_mk (by simp; omega), Option.bind_some]
        exact l3N2 hfu h fk (i + 1) _ hl (by omega) (by simp; omega)
    · obtain rfl : i = n.Fibers.length := by omega
      rw [if_neg (by simp)]
      exact ⟨_, _, rfl, ha⟩
theorem l3N {fu : Nat} (hfu : 2097153 ≤ fu) {n : Network} (h : NetG n) : ∃ l, spec_l3Network fu n = some (mkB l) ∧ l.length ≤ 20000 := by
  have n2 := h.D.n2
  have k2 := h.k
  unfold spec_l3Network
  obtain ⟨l, z, h1, h2⟩ := l3N1 (fu := fu) h.D fu 0 [110, 111, 100, 101, 115] (by omega) (by omega) (by simp)
  rw [show ((0 : Nat) : Int) = 0 from rfl] at h1
  obtain ⟨m, w, h3, h4⟩ := l3N2 hfu h fu 0 (l ++ [10]) (by omega) (by omega) (by simp; omega)
  rw [show ((0 : Nat) : Int) = 0 from rfl] at h3
  rw [show (⟨#[110, 111, 100, 101, 115]⟩ : ByteArray) = mkB [110, 111, 100, 101, 115] from rfl, h1, Option.bind_some, show (⟨#[10]⟩ : ByteArray) = mkB [10] from rfl, scat_mk (by simp; omega), Option.bind_some, h3]
  exact ⟨_, rfl, by omega⟩
theorem l3R1 {fu : Nat} (hfu : 2097153 ≤ fu) {n : Network} (h : NetG n) {r : Route} {o : List Int} (hk : r.Fibers.length ≤ 4) (ho : o.length = r.Fibers.length + 1) (hv : ∀ x ∈ o, 0 ≤ x ∧ x < (n.Nodes.length : Int)) (hF : ∀ x ∈ r.Fibers, NumB x) : ∀ (fk i : Nat) (a : List UInt8), i ≤ r.Fibers.length → r.Fibers.length - i < fk → a.length ≤ 100 + 110 * i → ∃ l z, spec_l3Route_L1 fu n r o fk (mkB a) i = some (mkB l, z) ∧ l.length ≤ 100 + 110 * r.Fibers.length
  | 0, i, a, hi, hf, ha => by omega
  | fk + 1, i, a, hi, hf, ha => by
    rw [spec_l3Route_L1]
    by_cases hl : i < r.Fibers.length
    · obtain ⟨x, hx, hx2⟩ := nodeI h.D (hv _ (List.getElem_mem (show i + 1 < o.length by omega)))
      obtain ⟨u, hu, hu2⟩ := num6 hfu (hF _ (List.getElem_mem hl))
      rw [if_pos (by simpa using hl), show (⟨#[46]⟩ : ByteArray) = mkB [46] from rfl, scat_mk (by simp; omega), Option.bind_some, idx_in hl, Option.bind_some, w64_inc hl (by omega), idx_in (show i + 1 < o.length by omega), Option.bind_some, hx, Option.bind_some, hu, Option.bind_some, scat_mk (by simp; omega), Option.bind_some, scat_mk (by simp; omega), Option.bind_some, scat_mk (by simp; omega), Option.bind_some]
      exact l3R1 hfu h hk ho hv hF fk (i + 1) _ hl (by omega) (by simp; omega)
    · obtain rfl : i = r.Fibers.length := by omega
      rw [if_neg (by simp)]
      exact ⟨_, _, rfl, ha⟩
theorem l3R {fu : Nat} (hfu : 2097153 ≤ fu) {n : Network} (h : NetG n) {r : Route} (hk : r.Fibers.length ≤ 4) {o : List Int} (ho : rnodes n r = some o) : ∃ l, spec_l3Route fu n r = some (mkB l) ∧ l.length ≤ 600 := by
  have k2 := h.k
  unfold spec_l3Route
  rw [l4Nodes_eq hfu n r h.D.B (by omega) ho, Option.bind_some]
  unfold rnodes at ho
  split at ho
  · rename_i hc
    obtain ⟨x, hx, hx2⟩ := nodeI h.D hc.1
    have hF := rwalk_in ho
    obtain ⟨l, z, h1, h2⟩ := l3R1 (fu := fu) hfu h (r := r) (o := o) hk (by have := rwalk_len ho; simpa [Nat.add_comm] using this) (rw_in h.f ho (fun x hx => by rw [List.mem_singleton] at hx; subst hx; exact hc.1)) (fun x hx => by have := hF x hx; exact ⟨by omega, by omega⟩) fu 0 x (by omega) (by omega) (by omega)
    rw [show ((0 : Nat) : Int) = 0 from rfl] at h1
    rw [hx, Option.bind_some, h1]
    exact ⟨_, rfl, by omega⟩
  · cases ho
theorem l3L {fu : Nat} (hfu : 2097153 ≤ fu) {n : Network} (h : NetG n) {x : Light} (hx : LgG n x) : ∃ l, spec_l3Light fu n x = some (mkB l) ∧ l.length ≤ 700 := by
  obtain ⟨o, ho⟩ := hx.o
  obtain ⟨b1, b2⟩ := blkB hx.b
  obtain ⟨u, hu, hu2⟩ := num6 hfu hx.i
  obtain ⟨v, hv, hv2⟩ := num6 hfu b1
  obtain ⟨w, hw, hw2⟩ := num6 hfu b2
  obtain ⟨r, hr, hr2⟩ := l3R hfu h hx.k ho
  unfold spec_l3Light spec_l3Block
  rw [hu, Option.bind_some, show (⟨#[32]⟩ : ByteArray) = mkB [32] from rfl, scat_mk (by simp; omega), Option.bind_some, hr, Option.bind_some, scat_mk (by simp; omega), Option.bind_some, scat_mk (by simp; omega), Option.bind_some, hv, Option.bind_some, show (⟨#[43]⟩ : ByteArray) = mkB [43] from rfl, scat_mk (by simp; omega), Option.bind_some, hw, Option.bind_some, scat_mk (by simp; omega), Option.bind_some, Option.bind_some, scat_mk (by simp; omega), Option.bind_some]
  exact ⟨_, rfl, by simp; omega⟩
theorem l3P1 {fu : Nat} (hfu : 2097153 ≤ fu) {p : Plan} (h : NetG p.Network) (hL : ∀ x ∈ p.Lights, LgG p.Network x) (hk : p.Lights.length ≤ 8) : ∀ (fk i : Nat) (a : List UInt8), i ≤ p.Lights.length → p.Lights.length - i < fk → a.length ≤ 20000 + 1000 * i → ∃ l z, spec_l3Plan_L1 fu p fk (mkB a) i = some (mkB l, z) ∧ l.length ≤ 20000 + 1000 * p.Lights.length
  | 0, i, a, hi, hf, ha => by omega
  | fk + 1, i, a, hi, hf, ha => by
    rw [spec_l3Plan_L1]
    by_cases hl : i < p.Lights.length
    · obtain ⟨u, hu, hu2⟩ := l3L hfu h (hL _ (List.getElem_mem hl))
      rw [if_pos (by simpa using hl), show (⟨#[108, 105, 103, 104, 116, 32]⟩ : ByteArray) = mkB [108, 105, 103, 104, 116, 32] from rfl, scat_mk (by simp; omega), Option.bind_some, idx_in hl, Option.bind_some, hu, Option.bind_some, scat_mk (by simp; omega), Option.bind_some, show (⟨#[10]⟩ : ByteArray) = mkB [10] from rfl, scat_mk (by simp; omega), Option.bind_some, w64_inc hl (by omega)]
      exact l3P1 hfu h hL hk fk (i + 1) _ hl (by omega) (by simp; omega)
    · obtain rfl : i = p.Lights.length := by omega
      rw [if_neg (by simp)]
      exact ⟨_, _, rfl, ha⟩
theorem l3P {fu : Nat} (hfu : 2097153 ≤ fu) {p : Plan} (h : NetG p.Network) (hL : ∀ x ∈ p.Lights, LgG p.Network x) (hk : p.Lights.length ≤ 8) : ∃ l, spec_l3Plan fu p = some (mkB l) ∧ l.length ≤ 30000 := by
  unfold spec_l3Plan
  obtain ⟨a, ha, ha2⟩ := l3N hfu h
  obtain ⟨l, z, h1, h2⟩ := l3P1 hfu h hL hk fu 0 a (by omega) (by omega) (by omega)
  rw [show ((0 : Nat) : Int) = 0 from rfl] at h1
  rw [ha, Option.bind_some, h1]
  exact ⟨_, rfl, by omega⟩
theorem spoilt_ex {fu : Nat} {c : L1CurP} {k : Int} (hc : Cur c k) (hk : k ≤ 900000000) {t : List UInt8} (ht : t.length ≤ 30000) : ∃ l c', spec_l1Cur_spoilt fu c (mkB t) (mkB [97, 98, 32, 49, 48, 46, 43, 108, 10]) = some (mkB l, c') ∧ l.length ≤ 40000 := by
  unfold spec_l1Cur_spoilt
  rw [toL_mk]
  split
  · obtain ⟨r, hr, hl⟩ := sub1 (l := [97, 98, 32, 49, 48, 46, 43, 108, 10]) (a := 0) (b := 1) (by omega) (by simp)
    rw [show ((0 : Nat) : Int) = 0 from rfl, show ((1 : Nat) : Int) = 1 from rfl] at hr
    rw [hr, Option.bind_some]
    exact ⟨_, _, rfl, by omega⟩
  · rename_i hne
    have h1 : 1 ≤ t.length := by
      cases t with
      | nil => exact absurd (by rw [toL]; rfl) hne
      | cons => simp
    rw [size_mk, size_mk]
    obtain ⟨r1, c1, g1, a0, a1, k1⟩ := pick_ok (fu := fu) hc (by omega) (t.length : Int) (by omega)
    obtain ⟨r2, c2, g2, b0, b1, k2⟩ := pick_ok (fu := fu) k1 (by omega) (9 : Int) (by omega)
    obtain ⟨r3, c3, g3, -, -, k3⟩ := pick_ok (fu := fu) k2 (by omega) (3 : Int) (by omega)
    have a1 := a1 (by omega)
    have b1 := b1 (by decide)
    obtain ⟨u, hu, hu2⟩ := sub1 (l := [97, 98, 32, 49, 48, 46, 43, 108, 10]) (a := r2.toNat) (b := 9) (by omega) (by simp)
    obtain ⟨v, hv, hv2⟩ := sub1 (l := u) (a := 0) (b := 1) (by omega) (by omega)
    obtain ⟨x, hx, hx2⟩ := sub1 (l := t) (a := 0) (b := r1.toNat) (by omega) (by omega)
    obtain ⟨y, hy, hy2⟩ := sub1 (l := t) (a := r1.toNat) (b := t.length) (by omega) (by omega)
    obtain ⟨z, hz, hz2⟩ := sub1 (l := t) (a := r1.toNat + 1) (b := t.length) (by omega) (by omega)
    have e1 : ((r1.toNat : Nat) : Int) = r1 := by omega
    have e2 : ((r2.toNat : Nat) : Int) = r2 := by omega
    have e3 : ((r1.toNat + 1 : Nat) : Int) = w64 (r1 + 1) := by rw [w64_in (by omega) (by omega)]; omega
    have z0 : ((0 : Nat) : Int) = 0 := rfl
    rw [z0] at hv hx
    rw [e1] at hx hy
    rw [e2] at hu
    rw [e3] at hz
    rw [show ((1 : Nat) : Int) = 1 from rfl] at hv
    rw [g1, Option.bind_some, show (([97, 98, 32, 49, 48, 46, 43, 108, 10] : List UInt8).length : Int) = 9 from rfl, g2, Option.bind_some]
    rw [show ((9 : Nat) : Int) = 9 from rfl] at hu
    rw [hu, Option.bind_some, hv, Option.bind_some, g3, Option.bind_some]
    split
    · rw [hx, Option.bind_some, scat_mk (by omega), Option.bind_some, hy, Option.bind_some, scat_mk (by simp; omega), Option.bind_some]
      exact ⟨_, _, rfl, by simp; omega⟩
    split
    · rw [hx, Option.bind_some, scat_mk (by omega), Option.bind_some, hz, Option.bind_some, scat_mk (by simp; omega), Option.bind_some]
      exact ⟨_, _, rfl, by simp; omega⟩
    · rw [hx, Option.bind_some, hz, Option.bind_some, scat_mk (by omega), Option.bind_some]
      exact ⟨_, _, rfl, by simp; omega⟩
theorem drawText {fu : Nat} (hfu : 2097153 ≤ fu) {code : List By} (h : ∀ e ∈ code, 0 ≤ e.n ∧ e.n ≤ 255) (hl : code.length ≤ 65536) : ∃ l, spec_DrawParsePlan fu code = some (mkB l) ∧ l.length ≤ 1000000 := by
  unfold spec_DrawParsePlan
  obtain ⟨p, c1, g1, h1, h2, h3, k1⟩ := plan_g hfu (start_cur h hl) (by omega)
  obtain ⟨t, ht, ht2⟩ := l3P hfu h1 h3 h2
  obtain ⟨r2, c2, g2, -, -, k2⟩ := pick_ok (fu := fu) k1 (by omega) (3 : Int) (by omega)
  obtain ⟨s, c3, g3, hs⟩ := spoilt_ex (fu := fu) k2 (by omega) ht2
  simp only [g1, ht, spec_l1Cur_one, g2, Option.bind_some, show (⟨#[97, 98, 32, 49, 48, 46, 43, 108, 10]⟩ : ByteArray) = mkB [97, 98, 32, 49, 48, 46, 43, 108, 10] from rfl, g3]
  split
  · exact ⟨_, rfl, by omega⟩
  · exact ⟨_, rfl, by omega⟩
end AT
