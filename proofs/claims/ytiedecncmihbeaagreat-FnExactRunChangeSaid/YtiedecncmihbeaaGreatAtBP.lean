/- From the readings of a row's arguments to what the walks ask. -/
import Derived.Test.YtiedecncmihbeaaGreatAtV
import Derived.Deep.Slices
import Derived.ProofKit
import Derived.OpenShut
import Derived.Test.YtiedecncmihbeaaGreatAtR
import Derived.Laws.BytesString
import Derived.Lib.AppendZerosOnto
import Derived.Lib.Overlaps
set_option linter.unusedSimpArgs false
set_option linter.unusedVariables false
namespace AT
open Go Go.RowKit
def Rd (P : Program) (t : TypeId) (α : Type) [GoTy α] (ok : α → Prop) : Prop :=
  ∀ (H : Type) (enc : TypeId × Value → H) (w : World) (base : Nat) (spare : Nat → Bool) (held : Bool) (fuel : Nat) (cs : List Value) (x : DataW H × List MemPlace),
    DataW.trod enc P w base spare held fuel t cs = some x → ∃ y : α, GoTy.rep w (fun _ => True) cs y ∧ ok y
theorem rd_int {P : Program} {t : TypeId} (ht : P.underlying t = some (.int .i64)) : Rd P t Int (fun x => -9223372036854775808 ≤ x ∧ x ≤ 9223372036854775807) := by
  intro H enc w base spare held fuel cs x h
  obtain ⟨n, rfl, -, hw⟩ := DataW.trod_int ht h
  have h2 := bounds_i64 hw
  exact ⟨n, rfl, by omega⟩
theorem rd_bool {P : Program} {t : TypeId} (ht : P.underlying t = some .bool) : Rd P t Bool (fun _ => True) := by
  intro H enc w base spare held fuel cs x h
  obtain ⟨n, rfl, -⟩ := DataW.trod_bool ht h
  exact ⟨n, rfl, trivial⟩
theorem rd_str {P : Program} {t : TypeId} (ht : P.underlying t = some .string) : Rd P t ByteArray (fun s => s.size ≤ 9223372036854775807) := by
  intro H enc w base spare held fuel cs x h
  obtain ⟨s, rfl, -, hs⟩ := DataW.trod_string ht h
  exact ⟨s, rfl, by simp only [maxLen] at hs; omega⟩
theorem choose_list {α : Type} (P : Nat → α → Prop) : ∀ n, (∀ i, i < n → ∃ x, P i x) → ∃ l : List α, l.length = n ∧ ∀ i x, l[i]? = some x → P i x
  | 0, _ => ⟨[], rfl, by simp⟩
  | n + 1, h => by
    obtain ⟨l, hl, hp⟩ := choose_list P n (fun i hi => h i (by omega))
    obtain ⟨x, hx⟩ := h n (by omega)
    refine ⟨l ++ [x], by simp [hl], fun i y hy => ?_⟩
    rw [List.getElem?_append] at hy
    split at hy
    · exact hp i y hy
    · rename_i hi
      have : i = n := by
        have h1 := (List.getElem?_eq_some_iff.1 hy).1
        simp at h1; omega
      subst this
      rw [hl, Nat.sub_self] at hy
      simp at hy
      subst hy; exact hx
theorem rd_list {P : Program} {t e : TypeId} {α : Type} [GoTy α] {ok : α → Prop} (ht : P.underlying t = some (.slice e)) (hn : P.cellsOf e = GoTy.n α) (he : Rd P e α ok) :
    Rd P t (List α) (fun l => (∀ x ∈ l, ok x) ∧ l.length ≤ 9223372036854775807) := by
  intro H enc w base spare held fuel cs x h
  rcases Go.Deep.open_slice ht h with ⟨rfl, -⟩ | ⟨a, len, cap, m, n, D, Pl, rfl, -, hl, hm, hmm, -, hi⟩
  · exact ⟨[], lrep_nil, by simp⟩
  · have hel : ∀ i, i < len → ∃ y : α, (ElemAt α w (fun _ => True) a i y) ∧ ok y := by
      intro i hlt
      obtain ⟨cs', hc, ht'⟩ := hi i (by rw [hmm]; split <;> omega)
      obtain ⟨y, hr, ho⟩ := he H enc w base spare held n cs' _ ht'
      refine ⟨y, ⟨cs', fun j c hj => ?_, hr⟩, ho⟩
      obtain ⟨_, hcl, hat⟩ := World.cells?_some hc
      have hj' : j < P.cellsOf e := by
        have := (List.getElem?_eq_some_iff.1 hj).1
        rw [GoTy.len hr, ← hn] at this; exact this
      have h1 := hat j hj'
      rw [hj, add_add, hn] at h1
      exact h1
    obtain ⟨l, hll, hp⟩ := choose_list _ len hel
    subst hll
    refine ⟨l, ⟨some a, cap, rfl, hl, hm, fun i x hx => ⟨a, rfl, trivial, (hp i x hx).1⟩⟩, fun x hx => ?_, by simp only [maxLen] at hm; omega⟩
    obtain ⟨i, hi'⟩ := List.mem_iff_getElem?.1 hx
    exact (hp i x hi').2
theorem sp_more {l : List Value} (o k : Nat) : l.drop o = (l.drop o).take k ++ l.drop (o + k) := by
  rw [← List.drop_drop, List.take_append_drop]
theorem sp_last {l : List Value} (o k : Nat) (h : l.length = o + k) : l.drop o = (l.drop o).take k := by
  rw [List.take_of_length_le]; simp; omega
theorem rdv_agg {P : Program} {t : TypeId} {α : Type} [GoTy α] {ok : α → Prop} (hr : Rd P t α ok) (ha : GoTy.agg α = true) {H : Type} {enc : TypeId × Value → H} {w : World} {base : Nat} {spare : Nat → Bool} {held : Bool} {v : Value} {d : DataW H} {p : List MemPlace} {n : Nat}
    (hv : ∃ cs, v = .agg cs ∧ cs.size = n) (h : DataW.Trod enc P w base spare held t v d p) : ∃ y : α, VR w (fun _ => True) v y ∧ ok y := by
  obtain ⟨cs, rfl, -⟩ := hv
  obtain ⟨fuel, hf⟩ := h
  obtain ⟨y, hy, ho⟩ := hr H enc w base spare held fuel _ _ hf
  exact ⟨y, ⟨_, hy, by rw [ha]; simp [Value.cells]⟩, ho⟩
theorem rdv_one {P : Program} {t : TypeId} {α : Type} [GoTy α] {ok : α → Prop} (hr : Rd P t α ok) (ha : GoTy.agg α = false) {H : Type} {enc : TypeId × Value → H} {w : World} {base : Nat} {spare : Nat → Bool} {held : Bool} {v : Value} {d : DataW H} {p : List MemPlace}
    (hv : v.cells = #[v]) (h : DataW.Trod enc P w base spare held t v d p) : ∃ y : α, VR w (fun _ => True) v y ∧ ok y := by
  obtain ⟨fuel, hf⟩ := h
  obtain ⟨y, hy, ho⟩ := hr H enc w base spare held fuel _ _ hf
  exact ⟨y, ⟨_, hy, by rw [ha, hv]; rfl⟩, ho⟩
theorem cells_int {P : Program} {w : World} {r : Reach} {base : Nat} {t : TypeId} {v : Value} {k : IntKind} (ht : P.underlying t = some (.int k)) (h : Value.okWide P w r base t v) : v.cells = #[v] := by
  obtain ⟨n, rfl⟩ := Go.WideShapes.okWide_int ht h; rfl
theorem ai {a b : Bool} (h : a = true) (k : b = true) : (a && b) = true := by rw [h, k]; rfl
theorem wordsSigns_app : ∀ (p : List Char) (_ : p.all (· != (Char.ofNat (nat_lit 32))) = true) (r : List Char), wordsSigns (p ++ (Char.ofNat (nat_lit 32)) :: r) = p :: wordsSigns r
  | [], _, _ => rfl
  | c :: p, h, r => by
    simp only [List.all_cons, Bool.and_eq_true, bne_iff_ne] at h
    have ih := wordsSigns_app p h.2 r
    rw [List.cons_append, wordsSigns, ih]
    exact h.1
theorem head_of (P : Program) (sum r : List Char) (h : P.initOrder = String.ofList ("harness".toList ++ (Char.ofNat (nat_lit 32)) :: (sum ++ (Char.ofNat (nat_lit 32)) :: ("cut".toList ++ (Char.ofNat (nat_lit 32)) :: r))))
    (h1 : isSumSigns sum = true) (h2 : sum.all (· != (Char.ofNat (nat_lit 32))) = true) : behindMainWord (wordsSigns P.initOrder.toList) = "cut".toList :: wordsSigns r := by
  rw [h, String.toList_ofList, wordsSigns_app _ (by decide +kernel), wordsSigns_app _ h2, wordsSigns_app _ (by decide +kernel)]
  show (if (("harness".toList == "harness".toList || _) && isSumSigns sum) = true then _ else _) = _
  rw [h1]; simp
theorem make_of {P : Program} {R} (h : behindMainWord (wordsSigns P.initOrder.toList) = "cut".toList :: R) : P.make = some .cut := by
  unfold Program.make; rw [h]; rfl
theorem lifts_of {P : Program} {R} (h : behindMainWord (wordsSigns P.initOrder.toList) = "cut".toList :: R) : P.liftsFinal = false := by
  unfold Program.liftsFinal Program.headLifts; rw [h]; rfl
theorem enter_of {P : Program} {R} (h : behindMainWord (wordsSigns P.initOrder.toList) = "cut".toList :: R) (a : P.laysLater = false) (b : P.bearsReflect = false) (c : P.doorRows.isEmpty = true) : P.mayEnter = true := by
  have e : stripLifts liftWords ("cut".toList :: R) = ([], "cut".toList :: R) := rfl
  have c' : P.doorRows = [] := List.isEmpty_iff.mp c
  unfold Program.mayEnter; rw [h]; simp only [e, a, b, Program.doorFits, c']
  cases R <;> rfl
end AT

namespace AT
open Go Go.RowKit
section
variable {P : Program} {md : Region.Mode} {ops : Array Oper} {Q : Exit → Act → World → Prop} {S : World → Prop} {B : List Nat}
def nb (B : List Nat) (listed : Array Bool) : Bool := B.all fun b => !listed.getD b true
def wpL (P : Program) (md : Region.Mode) (ops : Array Oper) (Q : Exit → Act → World → Prop) (S : World → Prop) (B : List Nat) : Nat → Array Bool → Act → World → Prop
  | 0, listed, a, w => Region.ready md ops listed = [] ∧ Q .normal a w
  | fuel + 1, listed, a, w => (Region.ready md ops listed = [] → Q .normal a w) ∧
    ∀ i ∈ Region.ready md ops listed, wpOp P ops Q i (fun a' w' => (nb B (listed.setIfInBounds i true) = true → S w') ∧ wpL P md ops Q S B fuel (listed.setIfInBounds i true) a' w') a w
theorem wpAny_of_wpL : ∀ (fuel : Nat) (listed : Array Bool) (a : Act) (w : World), wpL P md ops Q S B fuel listed a w → wpAny P md ops Q fuel listed a w
  | 0, _, _, _, h => h
  | fuel + 1, _, _, _, h => ⟨h.1, fun i hi => wpOp_mono (fun a' w' h' => wpAny_of_wpL fuel _ a' w' h'.2) (h.2 i hi)⟩
theorem getD_other {l : Array Bool} {i j : Nat} (h : j ≠ i) : (l.setIfInBounds j true).getD i true = l.getD i true := getD_set_ne true h
theorem nb_set {i : Nat} (hi : i ∉ B) (l : Array Bool) : nb B (l.setIfInBounds i true) = nb B l := by
  have h : ∀ b ∈ B, (l.setIfInBounds i true).getD b true = l.getD b true := fun b hb => getD_other fun e => hi (e ▸ hb)
  rw [Bool.eq_iff_iff]
  unfold nb
  simp only [List.all_eq_true]
  exact ⟨fun g b hb => by rw [← h b hb]; exact g b hb, fun g b hb => by rw [h b hb]; exact g b hb⟩
theorem wpL_first {i : Nat} {oi : Oper} {v : Value} (S0 : World → Prop) (X : List Nat) (hi : ops[i]? = some oi) (hsel : ∀ (j : Nat) (o : Oper) cs b, ops[j]? = some o → o.op ≠ .select cs b)
    (hQ : ∀ c a w, Q (.panic c) (a.put oi.dst v) w → Q (.panic c) a w)
    (hX : ∀ j oj, j ∈ X → j ≠ i → ops[j]? = some oj → ∃ e ∈ oj.after, Region.binds md e = true ∧ e.on ∈ X) (hiB : i ∉ B) (hBX : (∀ w, S0 w) ∨ ((∀ b ∈ B, b ∈ X) ∧ ∀ w, S w → S0 w)) :
    ∀ (fuel : Nat) (listed : Array Bool) (a : Act) (w : World),
      (∀ j oj, ops[j]? = some oj → j ≠ i → listed.getD j true = false → (∀ e ∈ oj.after, Region.binds md e = true → e.on ≠ i) → oi.apart ops oj = true) →
      (∀ x ∈ X, listed.getD x true = false) → i ∈ Region.ready md ops listed → YieldsIf P ops S0 oi v a → S0 w → (nb B listed = true → S w) →
      wpL P md ops Q S B fuel (listed.setIfInBounds i true) (a.put oi.dst v) w → wpL P md ops Q S B (fuel + 1) listed a w := by
  intro fuel
  have hnb : ∀ (listed : Array Bool), nb B (listed.setIfInBounds i true) = true → nb B listed = true := fun listed h => by rwa [nb_set hiB] at h
  induction fuel with
  | zero =>
    intro listed a w _ _ hr hy hS0 hS H
    refine ⟨fun h => (by rw [h] at hr; cases hr), fun j hj => ?_⟩
    by_cases hji : j = i
    · subst hji; exact hy.wpOp hi hS0 ⟨fun h => hS (hnb _ h), H⟩
    · have := ready_mono hj hji
      rw [H.1] at this
      cases this
  | succ fuel ih =>
    intro listed a w hfree hXu hr hy hS0 hS H
    refine ⟨fun h => (by rw [h] at hr; cases hr), fun j hj => ?_⟩
    by_cases hji : j = i
    · subst hji; exact hy.wpOp hi hS0 ⟨fun h => hS (hnb _ h), H⟩
    · have h1 := H.2 j (ready_mono hj hji)
      obtain ⟨hjun, oj, hoj, hall⟩ := mem_ready.1 hj
      have hlisted : ∀ k, k < listed.size ∨ True := fun _ => .inr trivial
      have hnot : ∀ e ∈ oj.after, Region.binds md e = true → listed.getD e.on true = false → False := fun e he hb h0 => by
        have h1 := hall e he hb
        rcases Nat.lt_or_ge e.on listed.size with h' | h'
        · simp [h'] at h0 h1; rw [h0] at h1; cases h1
        · simp [Array.getElem?_eq_none h'] at h1
      have hnoti : ∀ e ∈ oj.after, Region.binds md e = true → e.on ≠ i := fun e he hb heq => hnot e he hb (by rw [heq]; exact (mem_ready.1 hr).1)
      have hjX : j ∉ X := fun h => by
        obtain ⟨e, he, hb, heX⟩ := hX j oj h hji hoj
        exact hnot e he hb (hXu _ heX)
      have h2 := wpOp_putIf hoj (hfree j oj hoj hji hjun hnoti) (fun cs b => hsel i oi cs b hi) (fun cs b => hsel j oj cs b hoj) hQ hy h1
      have hfree' : ∀ k ok, ops[k]? = some ok → k ≠ i → (listed.setIfInBounds j true).getD k true = false →
          (∀ e ∈ ok.after, Region.binds md e = true → e.on ≠ i) → oi.apart ops ok = true := fun k ok hk hki hun hno => by
        refine hfree k ok hk hki ?_ hno
        by_cases hjk : j = k
        · subst hjk; exact hjun
        · rw [getD_set_ne true hjk] at hun; exact hun
      refine wpOp_mono (fun a' w' h3 => ?_) h2
      obtain ⟨h4, h5, h6⟩ := h3
      have hS' : nb B (listed.setIfInBounds j true) = true → S w' := fun h => h5 (by rw [Array.setIfInBounds_comm _ _ (Ne.symm hji), nb_set hiB]; exact h)
      refine ⟨hS', ih (listed.setIfInBounds j true) a' w' hfree' (fun x hx => ?_) (ready_mono hr (Ne.symm hji)) h4 ?_ hS' ?_⟩
      · rw [getD_other (fun e => hjX (by rw [e]; exact hx))]; exact hXu x hx
      · rcases hBX with hall0 | ⟨hBX, hSS⟩
        · exact hall0 w'
        · refine hSS w' (hS' ?_)
          unfold nb
          rw [List.all_eq_true]
          intro b hb
          rw [getD_other (fun e => hjX (by rw [e]; exact hBX b hb))]
          rcases Nat.lt_or_ge b listed.size with h' | h'
          · have := hXu b (hBX b hb); simp [h'] at this ⊢; exact this
          · have := hXu b (hBX b hb); simp [h'] at this
      · rw [Array.setIfInBounds_comm _ _ hji]
        exact h6
end
section
variable {P : Program} {S : World → Prop} {B : List Nat} {l : List Oper} {bs bs' : List Bool} {a : Act} {w : World} {n fuel d i : Nat} {L : List (Nat × Value)} {Mid : Act → World → Prop} {Q : Exit → Act → World → Prop} {o : Oper} {v : Value}
def only (Mid : Act → World → Prop) : Exit → Act → World → Prop := fun e a w => e = .normal ∧ Mid a w
abbrev DL (P : Program) (l : List Oper) (Mid : Act → World → Prop) (S : World → Prop) (B : List Nat) (fuel : Nat) (bs : List Bool) (a : Act) (w : World) : Prop := wpL P .any l.toArray (only Mid) S B fuel bs.toArray a w
theorem drawn {id : Nat} (B : List Nat) (hm : P.follows .mixedOrders = true) (hb : List.replicate l.length false = bs) (hn : l.length = fuel) (h : ∀ w1, Below w.heap.size w w1 → DL P l (fun a w => Q .normal a w) (fun _ => True) B fuel bs a w1) : (Code.region id l.toArray true).wp P Q a w := by
  have h1 : (Code.region id l.toArray true).wp P (only fun a w => Q .normal a w) a w := wp_region_any hm (wpAny_of_wpL (S := fun _ => True) (B := B) _ _ _ _ (by
    have e1 : l.toArray.size = fuel := by simpa using hn
    have e2 : Array.replicate l.toArray.size false = bs.toArray := by rw [← hb]; simp
    rw [e2, e1]; exact h _ ((Below.refl _ _).drew)))
  exact Code.wp_mono (fun e a w q => by obtain ⟨rfl, q⟩ := q; exact q) h1
theorem wpL_str {md : Region.Mode} {ops : Array Oper} {S S' : World → Prop} (hs : ∀ w, S' w → S w) : ∀ (fuel : Nat) (listed : Array Bool) (a : Act) (w : World), wpL P md ops Q S' B fuel listed a w → wpL P md ops Q S B fuel listed a w
  | 0, _, _, _, h => h
  | fuel + 1, _, _, _, h => ⟨h.1, fun i hi => wpOp_mono (fun a' w' h' => ⟨fun hn => hs _ (h'.1 hn), wpL_str hs fuel _ a' w' h'.2⟩) (h.2 i hi)⟩
theorem str (S' : World → Prop) (hs : ∀ w, S' w → S w) (h : DL P l Mid S' B fuel bs a w) : DL P l Mid S B fuel bs a w := wpL_str hs _ _ _ _ h
def takeB (l : List Oper) (bs : List Bool) (i : Nat) (X B : List Nat) : Bool :=
  Region.noSelect l.toArray && (Region.free .any l.toArray bs.toArray i && ((Region.ready .any l.toArray bs.toArray).contains i && (X.all (fun x => !bs.getD x true) && (X.all (fun j => j == i || (match l[j]? with | some oj => oj.after.any (fun e => Region.binds .any e && X.contains e.on) | none => true)) && !B.contains i))))
theorem set_bs (hb : bs.set i true = bs') : bs.toArray.setIfInBounds i true = bs'.toArray := by subst hb; simp
theorem take_ {S0 : World → Prop} (X : List Nat) (hi : l[i]? = some o) (hd : o.dst = some d) (hdn : d < n) (hf : Fr a n L) (hc : takeB l bs i X B = true) (hBX : (∀ w, S0 w) ∨ ((∀ b ∈ B, b ∈ X) ∧ ∀ w, S w → S0 w)) (hS0 : S0 w) (hS : nb B bs.toArray = true → S w)
    (hy : YieldsIf P l.toArray S0 o v a) (hb : bs.set i true = bs') (h : ∀ a', Fr a' n ((d, v) :: L) → DL P l Mid S B fuel bs' a' w) : DL P l Mid S B (fuel + 1) bs a w := by
  unfold takeB at hc
  simp only [Bool.and_eq_true] at hc
  obtain ⟨h1, h2, h3, h4, h5, h6⟩ := hc
  have hi' : l.toArray[i]? = some o := by simpa using hi
  refine wpL_first S0 X hi' (Region.noSelect_spec h1) (fun c a w q => by cases q.1) (fun j oj hj hji hoj => ?_) (by simpa using h6) hBX fuel bs.toArray a w (Region.free_spec hi' h2) (fun x hx => ?_) (by simpa using h3) hy hS0 hS ?_
  · have := List.all_eq_true.1 h5 j hj
    have hoj' : l[j]? = some oj := by simpa using hoj
    rw [hoj'] at this
    simp only [Bool.or_eq_true, beq_iff_eq, hji, false_or, Array.any_eq_true, Bool.and_eq_true] at this
    obtain ⟨q, hq, h7, h8⟩ := this
    exact ⟨_, Array.getElem_mem hq, h7, by simpa using h8⟩
  · have := List.all_eq_true.1 h4 x hx
    simp only [Bool.not_eq_true', List.getD_eq_getElem?_getD] at this
    simpa using this
  · rw [set_bs hb, hd]
    exact h _ (hf.put hdn v)
theorem tkP (hi : l[i]? = some o) (hd : o.dst = some d) (hg : o.guard = none) (hdn : d < n) (hf : Fr a n L) (hc : takeB l bs i [] B = true) (hS : nb B bs.toArray = true → S w) (hy : ∀ w, (execOp a.eval o).run P w = .ok (.value v) w) (hb : bs.set i true = bs')
    (h : ∀ a', Fr a' n ((d, v) :: L) → DL P l Mid S B fuel bs' a' w) : DL P l Mid S B (fuel + 1) bs a w :=
  take_ (S0 := fun _ => True) [] hi hd hdn hf hc (.inl fun _ => trivial) trivial hS (.inl ⟨by simp [Region.wanted, hg], fun w _ => hy w⟩) hb h
theorem tkS (X : List Nat) (hi : l[i]? = some o) (hd : o.dst = some d) (hg : o.guard = none) (hdn : d < n) (hf : Fr a n L) (hc : takeB l bs i X B = true) (hBX : (B.all (X.contains ·)) = true) (hS : S w) (hy : ∀ w, S w → (execOp a.eval o).run P w = .ok (.value v) w) (hb : bs.set i true = bs')
    (h : ∀ a', Fr a' n ((d, v) :: L) → DL P l Mid S B fuel bs' a' w) : DL P l Mid S B (fuel + 1) bs a w :=
  take_ (S0 := S) X hi hd hdn hf hc (.inr ⟨fun b hb => by simpa using List.all_eq_true.1 hBX b hb, fun _ h => h⟩) hS (fun _ => hS) (.inl ⟨by simp [Region.wanted, hg], hy⟩) hb h
theorem tkPg {j e : Nat} {b : Bool} (hi : l[i]? = some o) (hd : o.dst = some d) (hg : o.guard = some (j, b)) (hj : (l[j]?).bind (·.dst) = some e) (hv : lk L e = some (.bool b)) (hdn : d < n) (hf : Fr a n L) (hc : takeB l bs i [] B = true) (hS : nb B bs.toArray = true → S w) (hy : ∀ w, (execOp a.eval o).run P w = .ok (.value v) w) (hb : bs.set i true = bs')
    (h : ∀ a', Fr a' n ((d, v) :: L) → DL P l Mid S B fuel bs' a' w) : DL P l Mid S B (fuel + 1) bs a w :=
  take_ (S0 := fun _ => True) [] hi hd hdn hf hc (.inl fun _ => trivial) trivial hS (.inl ⟨by simp [Region.wanted, hg, yielded_of (ops := l.toArray) hf (by simpa using hj) hv], fun w _ => hy w⟩) hb h
theorem tkSg {j e : Nat} {b : Bool} (X : List Nat) (hi : l[i]? = some o) (hd : o.dst = some d) (hg : o.guard = some (j, b)) (hj : (l[j]?).bind (·.dst) = some e) (hv : lk L e = some (.bool b)) (hdn : d < n) (hf : Fr a n L) (hc : takeB l bs i X B = true) (hBX : (B.all (X.contains ·)) = true) (hS : S w) (hy : ∀ w, S w → (execOp a.eval o).run P w = .ok (.value v) w) (hb : bs.set i true = bs')
    (h : ∀ a', Fr a' n ((d, v) :: L) → DL P l Mid S B fuel bs' a' w) : DL P l Mid S B (fuel + 1) bs a w :=
  take_ (S0 := S) X hi hd hdn hf hc (.inr ⟨fun b hb => by simpa using List.all_eq_true.1 hBX b hb, fun _ h => h⟩) hS (fun _ => hS) (.inl ⟨by simp [Region.wanted, hg, yielded_of (ops := l.toArray) hf (by simpa using hj) hv], hy⟩) hb h
theorem yielded_undef {ops : Array Oper} (hf : Fr a n L) {j d : Nat} (hj : (ops[j]?).bind (·.dst) = some d) (hb : lk L d = some undef) : yielded ops a.tmps j = none := by
  unfold yielded
  simp [hj, hf.get d _ hb, undef]
theorem wlsu {Q : Exit → Act → World → Prop} {ops : Array Oper} {rest : List Oper} {j d e : Nat} {b : Bool} (hf : Fr a n L) (hg : o.guard = some (j, b)) (hj : (ops[j]?).bind (·.dst) = some d) (hb : lk L d = some undef)
    (hd : o.dst = some e) (hdn : e < n) (h : ∀ a', Fr a' n ((e, undef) :: L) → wpList P ops Q rest a' w) : wpList P ops Q (o :: rest) a w := by
  unfold wpList
  rw [if_neg (by simp [Region.wanted, hg, yielded_undef hf hj hb])]
  rw [hd]
  exact h _ (hf.put hdn undef)
theorem tkUU {j e : Nat} {b : Bool} (hi : l[i]? = some o) (hd : o.dst = some d) (hg : o.guard = some (j, b)) (hj : (l[j]?).bind (·.dst) = some e) (hv : lk L e = some undef) (hdn : d < n) (hf : Fr a n L) (hc : takeB l bs i [] B = true) (hS : nb B bs.toArray = true → S w) (hb : bs.set i true = bs')
    (h : ∀ a', Fr a' n ((d, undef) :: L) → DL P l Mid S B fuel bs' a' w) : DL P l Mid S B (fuel + 1) bs a w :=
  take_ (S0 := fun _ => True) (v := undef) [] hi hd hdn hf hc (.inl fun _ => trivial) trivial hS (.inr ⟨by simp [Region.wanted, hg, yielded_undef (ops := l.toArray) hf (by simpa using hj) hv], rfl⟩) hb h
theorem tkU {j e : Nat} {b c : Bool} (hi : l[i]? = some o) (hd : o.dst = some d) (hg : o.guard = some (j, b)) (hj : (l[j]?).bind (·.dst) = some e) (hv : lk L e = some (.bool c)) (hne : (c == b) = false) (hdn : d < n) (hf : Fr a n L) (hc : takeB l bs i [] B = true) (hS : nb B bs.toArray = true → S w) (hb : bs.set i true = bs')
    (h : ∀ a', Fr a' n ((d, undef) :: L) → DL P l Mid S B fuel bs' a' w) : DL P l Mid S B (fuel + 1) bs a w :=
  take_ (S0 := fun _ => True) (v := undef) [] hi hd hdn hf hc (.inl fun _ => trivial) trivial hS (.inr ⟨by simp [Region.wanted, hg, yielded_of (ops := l.toArray) hf (by simpa using hj) hv]; simpa using hne, rfl⟩) hb h
theorem on1 (hr : Region.ready .any l.toArray bs.toArray = [i]) (hi : l[i]? = some o) (hg : o.guard = none) (hb : bs.set i true = bs')
    (h : o.wp P a w (fun a' w' => (nb B bs'.toArray = true → S w') ∧ DL P l Mid S B fuel bs' a' w') (only Mid)) : DL P l Mid S B (fuel + 1) bs a w := by
  refine ⟨fun h0 => (by rw [hr] at h0; cases h0), fun j hj => ?_⟩
  rw [hr, List.mem_singleton] at hj
  subst hj
  unfold wpOp
  have hi' : l.toArray[j]? = some o := by simpa using hi
  simp only [hi', Region.wanted, hg]
  rw [set_bs hb]
  exact .inl h
theorem on1g {j e : Nat} {b : Bool} (hr : Region.ready .any l.toArray bs.toArray = [i]) (hi : l[i]? = some o) (hg : o.guard = some (j, b)) (hj : (l[j]?).bind (·.dst) = some e) (hv : lk L e = some (.bool b)) (hf : Fr a n L) (hb : bs.set i true = bs')
    (h : o.wp P a w (fun a' w' => (nb B bs'.toArray = true → S w') ∧ DL P l Mid S B fuel bs' a' w') (only Mid)) : DL P l Mid S B (fuel + 1) bs a w := by
  refine ⟨fun h0 => (by rw [hr] at h0; cases h0), fun q hq => ?_⟩
  rw [hr, List.mem_singleton] at hq
  subst hq
  unfold wpOp
  have hi' : l.toArray[q]? = some o := by simpa using hi
  have hw : Region.wanted o (yielded l.toArray a.tmps) = true := by simp [Region.wanted, hg, yielded_of (ops := l.toArray) hf (by simpa using hj) hv]
  simp only [hi', hw, if_true]
  rw [set_bs hb]
  exact .inl h
theorem pre_iaddr {w0 : Base} {S : Nat → Prop} {M : List Blk} {R : List Row} {D : List DI} {I : List (Bool × MP)} (H : Mem w0 S M R D I w) {α : Type} [GoTy α] {T E : TypeId} (hT : P.underlying T = some (.slice E)) (hE : SZ P E (GoTy.n α)) {A : Option Addr} {len cap : Nat} {i : Int} {xs : List α} {e : α} {f : Bool}
    (j : Nat) (hi : I[j]? = some (f, MP.val [.slice A len cap] xs)) (he : idx xs i = some e) :
    ∃ b o cs, (∀ w' k, (Instr.indexAt T (.slice A len cap) (.int k i)).run P w' = .ok (.pointer (some ⟨b, o, none⟩)) w') ∧ GoTy.rep w (St w0 S M R D f) cs e ∧ Mem w0 S M R D ((f, MP.cells ⟨b, o, none⟩ cs) :: I) w := by
  obtain ⟨A', cap', hcs, hlc, hcm, hel⟩ : lrep w (St w0 S M R D f) [.slice A len cap] xs := H.get j hi
  obtain ⟨h0, hl, hg⟩ := idx_lt he
  simp only [List.cons.injEq, Value.slice.injEq, and_true] at hcs
  obtain ⟨rfl, rfl, rfl⟩ := hcs
  obtain ⟨p, rfl, hp, cs, hc, hr⟩ := hel _ _ hg
  have hlt : p.block < w.heap.size := ElemAt.lt (S := St w0 S M R D f) (i := i.toNat) (x := e) ⟨cs, hc, hr⟩
  have hlen := GoTy.len hr
  have hpos := GoTy.pos (α := α)
  have hq : p.add (i.toNat * GoTy.n α) = ⟨p.block, (p.add (i.toNat * GoTy.n α)).off, none⟩ := by
    have h0 := hc 0 _ (List.getElem?_eq_getElem (by omega))
    rw [Nat.add_zero] at h0
    have hs : (p.add (i.toNat * GoTy.n α)).spot = none := by
      unfold World.cell? at h0
      cases hsp : (p.add (i.toNat * GoTy.n α)).spot with
      | none => rfl
      | some s =>
        rw [hsp] at h0
        split at h0 <;> simp at h0
    rw [← block_add p (i.toNat * GoTy.n α)]
    generalize p.add (i.toNat * GoTy.n α) = q at hs
    cases q; simp only at hs; subst hs; rfl
  refine ⟨p.block, (p.add (i.toNat * GoTy.n α)).off, cs, fun w' k => ?_, hr, H.push _ ⟨hp, hlt, fun q c hq' => by rw [← hq, add_add]; exact hc q c hq'⟩⟩
  rw [← hq]
  exact run_indexAt (P := P) (w := w') (cap := cap) hT hE h0 hl (p := p) (k := k)
theorem rq_iaddrE {T : TypeId} {x y : Operand} {u v r : Value} {dst : Option Tmp} {ty : TypeId} {pos : String} {af : Array Edge} {g : Option (Nat × Bool)} (hf : Fr a n L) (hx : ev L x = some u) (hy : ev L y = some v) {k : IntKind} {i : Int} (hv : v = .int k i) (h : ∀ w' k, (Instr.indexAt T u (.int k i)).run P w' = .ok r w') :
    ∀ w, (execOp a.eval ⟨dst, .indexAddr T x y, ty, pos, af, g⟩).run P w = .ok (.value r) w := by
  intro w
  subst hv
  simp [execOp, hf.eval hx, hf.eval hy, h]
theorem dn (hr : Region.ready .any l.toArray bs.toArray = []) (h : Mid a w) : DL P l Mid S B fuel bs a w := by
  cases fuel with
  | zero => exact ⟨hr, rfl, h⟩
  | succ k => exact ⟨fun _ => ⟨rfl, h⟩, by rw [hr]; simp⟩
end
end AT

namespace AT
open Go Go.RowKit
section
variable {P : Program} {Q : Exit → Act → World → Prop} {a : Act} {w : World} {n : Nat} {L : List (Nat × Value)} {dst : Option Tmp} {ty : TypeId} {pos : String} {af : Array Edge} {g : Option (Nat × Bool)} {K : Act → World → Prop} {d : Nat}
variable {w0 : Base} {S : Nat → Prop} {M : List Blk} {R : List Row} {D : List DI} {I : List (Bool × MP)}
theorem rq_makeFunc (hf : Fr a n L) {fn : Fn} {xs : List Operand} {vs : List Value} (hx : evs L xs = some vs) :
    (execOp a.eval ⟨dst, .makeFunc fn #[] xs.toArray, ty, pos, af, g⟩).run P w = .ok (.value (.func fn #[] vs.toArray)) w := by
  simp [execOp, Instr.makeFunc, hf.evals hx]
theorem op_callV (hf : Fr a n L) {f : FuncId} (hk : CL P f) {x : Operand} {ca : List Value} (hx : ev L x = some (.func (.func f) #[] ca.toArray)) {xs : List Operand} {ats : Array TypeId} {vs : List Value} (hxs : evs L xs = some vs) (hdn : d < n) {Post : Value → World → Prop}
    (hc : Calls P f (vs ++ ca).toArray w fun e w' => ∃ v, e = .returned v ∧ Post v w') (k : ∀ v w' a', Post v w' → Fr a' n ((d, v) :: L) → K a' w') :
    Oper.wp P ⟨some d, .call ⟨.value x, xs.toArray, ats⟩, ty, pos, af, g⟩ a w K Q := by
  have hk' : ∀ args w, (callFunc f args).run P w = .ok (.enter f args) w := hk
  have h1 : execOp a.eval ⟨some d, .call ⟨.value x, xs.toArray, ats⟩, ty, pos, af, g⟩ = callFunc f (vs ++ ca).toArray := by
    simp [execOp, resolve, Deferred.ofValue, hf.eval hx, hf.evals hxs, invoke]
  unfold Oper.wp
  rw [h1, hk', Oper.upon_enter]
  refine hc.mono fun e w' ⟨v, he, hp⟩ => ?_
  subst he
  exact k v w' _ hp (hf.put hdn v)
theorem Mem.boxTrue (H : Mem w0 S M R D I w) (i : Nat) {b : Nat} {T : TypeId} {cs : List Value} (hi : M[i]? = some ⟨b, T, cs⟩) : (MP.cells ⟨b, 0, none⟩ cs).pred w (fun _ => True) := by
  have h : w.heap[b]? = some (.cells cs.toArray T (0, 0)) := MemZ.ok H (Blk.res ⟨b, T, cs⟩) (List.mem_append.2 (.inl (List.mem_map.2 ⟨_, List.mem_of_getElem? hi, rfl⟩)))
  refine ⟨trivial, ?_, fun j c hc => ?_⟩
  · rcases Nat.lt_or_ge b w.heap.size with h' | h'
    · exact h'
    · rw [Array.getElem?_eq_none h'] at h; cases h
  · rw [add_lit, Nat.zero_add, H.cell hi]; exact hc
theorem mp_true {p : MP} {T : Nat → Prop} (h : p.pred w T) : p.pred w (fun _ => True) := p.mono h fun _ _ _ => ⟨trivial, rfl⟩
end
end AT

namespace AT
open Go Go.RowKit
section
variable {P : Program} {Q : Exit → Act → World → Prop} {a : Act} {w w' w1 : World} {n : Nat} {L : List (Nat × Value)} {dst : Option Tmp} {ty : TypeId} {pos : String} {af : Array Edge} {g : Option (Nat × Bool)} {K : Act → World → Prop} {d : Nat}
variable {w0 : Base} {S : Nat → Prop} {M : List Blk} {R : List Row} {D : List DI} {I : List (Bool × MP)}
theorem op_makeO (hf : Fr a n L) (H : Mem w0 S M R D I w) {α : Type} [GoTy α] {T E : TypeId} {z : Value} {bytes : Nat} (hT : P.underlying T = some (.slice E)) (hE : AI P E (GoTy.n α) z bytes) (hz : z.cells.size = GoTy.n α) (hby : bytes ≤ 128) {x y : Operand} {i : Int} {z0 : α} {xs : List α}
    (hx : ev L x = some (.int .i64 i)) (hy : ev L y = some (.int .i64 i)) (hz0 : ∀ w, GoTy.own w [] z.cells.toList z0) (hmk : mk z0 i = some xs) (hdn : d < n)
    (k : ∀ A c Fs a' w', Fr a' n ((d, .slice A xs.length c) :: L) → Mem w0 S M (⟨.ow Fs, E, A, c, xs⟩ :: R) D I w' → K a' w') : Oper.wp P ⟨some d, .makeSlice T x y, ty, pos, af, g⟩ a w K Q := by
  unfold mk at hmk
  split at hmk
  case isFalse => cases hmk
  rename_i hi
  injection hmk with hmk
  subst hmk
  obtain ⟨inf, hinf, hpr⟩ := Option.map_eq_some_iff.1 hE
  simp only [Prod.mk.injEq] at hpr
  obtain ⟨hz1, hz2, hz3⟩ := hpr
  have hb : (inf.bytes : Int) * i ≤ 281474976710656 := by
    rw [hz3]
    have h1 : (bytes : Int) * i ≤ 128 * i := Int.mul_le_mul_of_nonneg_right (by omega) hi.1
    omega
  have hr := run_make (P := P) w T E inf z hT hinf hz1 .i64 .i64 i i hi.1 (Int.le_refl _) hb (by omega)
  have h1 : (execOp a.eval ⟨some d, .makeSlice T x y, ty, pos, af, g⟩).run P w = .ok (.value (.slice (some ⟨w.heap.size, 0, none⟩) i.toNat i.toNat)) (w.alloc (.cells (madeCells z.cells (i.toNat * inf.size)) E)) := by
    simp [execOp, hf.eval hx, hf.eval hy, hr]
  unfold Oper.wp
  rw [h1, Oper.upon_value]
  have H2 := H.newRow (.ow (List.replicate i.toNat [])) (flatten_nil _) E (List.replicate i.toNat z0) (madeCells z.cells (i.toNat * inf.size)).toList i.toNat (by simp) (by simp only [maxLen]; omega) (by simp [size_madeCells, hz2]) (by simp [Kd.fits]) (fun q e hq => by
    have hql : q < i.toNat := by have := (List.getElem?_eq_some_iff.1 hq).1; simpa using this
    have he : e = z0 := by
      rw [List.getElem?_replicate] at hq; simp [hql] at hq; exact hq.symm
    subst he
    intro Fi hFi
    have hFe : Fi = [] := by
      rw [List.getElem?_replicate] at hFi; simpa [hql] using hFi
    subst hFe
    show GoTy.own _ _ (part' α _ q) _
    unfold part'
    rw [hz2, made_part hz (GoTy.pos (α := α)) _ _ hql]
    exact hz0 _)
  rw [Array.toArray_toList] at H2
  exact k _ _ _ _ _ (by have := hf.put hdn (.slice (some ⟨w.heap.size, 0, none⟩) i.toNat i.toNat); simpa using this) H2
theorem ps0 : ∀ d ∈ ([] : List DI), d.p.pred w (· ∈ d.F) := fun _ h => by cases h
theorem ps1 {α : Type} [GoTy α] {F : List Nat} {cs : List Value} {x : α} {X : List DI} (h : GoTy.own w F cs x) (t : ∀ d ∈ X, d.p.pred w (· ∈ d.F)) : ∀ d ∈ ((⟨F, MP.own F cs x⟩ : DI) :: X), d.p.pred w (· ∈ d.F) := by
  intro d hd
  rcases List.mem_cons.1 hd with rfl | hd
  · exact ⟨h, fun b hb => hb⟩
  · exact t d hd
theorem Mem.arg (H : Mem ⟨w1, []⟩ S M R D I w) {p : MP} (h : p.pred w1 S) : Mem ⟨w1, []⟩ S M R D ((false, p) :: I) w := H.pushArg p h
theorem st_own {α : Type} [GoTy α] {Fs : List (List Nat)} {i off : Nat} {vs : List Value} {e e' : α} (h : ∀ F cs, GoTy.own w F cs e → GoTy.own w F (cs.take off ++ vs ++ cs.drop (off + vs.length)) e') {T : Nat → Prop} {fr : Bool} :
    ∀ cs, (Kd.ow Fs fr).holds w T i cs e → (Kd.ow Fs fr).holds w T i (cs.take off ++ vs ++ cs.drop (off + vs.length)) e' := fun cs hc Fi hFi => h Fi cs (hc Fi hFi)
end
end AT

namespace AT
open Go Go.RowKit
section
variable {P : Program} {Q : Exit → Act → World → Prop} {a : Act} {w w' w1 : World} {n : Nat} {L : List (Nat × Value)} {dst : Option Tmp} {ty : TypeId} {pos : String} {af : Array Edge} {g : Option (Nat × Bool)} {K : Act → World → Prop} {d : Nat}
variable {w0 : Base} {S : Nat → Prop} {M : List Blk} {R : List Row} {D : List DI} {I : List (Bool × MP)}
def evo (L : List (Nat × Value)) : Option Operand → Option (Option Value)
  | none => some none
  | some o => (ev L o).map some
theorem evo_map (hf : Fr a n L) {o : Option Operand} {v : Option Value} (h : evo L o = some v) : o.map a.eval = v := by
  cases o with
  | none => simpa [evo] using h
  | some o =>
    simp only [evo, Option.map_eq_some_iff] at h
    obtain ⟨u, hu, rfl⟩ := h
    simp [hf.eval hu]
theorem rq_sliceE (hf : Fr a n L) {T : TypeId} {x : Operand} {u r : Value} (hx : ev L x = some u) {lo hi : Option Operand} {lov hiv : Option Value} (hlo : evo L lo = some lov) (hhi : evo L hi = some hiv) (h : ∀ w', (Instr.sliceAt T u lov hiv none).run P w' = .ok r w') :
    ∀ w, (execOp a.eval ⟨dst, .slice T x lo hi none, ty, pos, af, g⟩).run P w = .ok (.value r) w := by
  intro w
  simp [execOp, hf.eval hx, evo_map hf hlo, evo_map hf hhi, h]
theorem pre_slice (H : Mem w0 S M R D I w) {α : Type} [GoTy α] {T E : TypeId} (hT : P.underlying T = some (.slice E)) (hE : SZ P E (GoTy.n α)) {A : Option Addr} {len cap : Nat} {i j : Int} {xs ys : List α} {f : Bool} (q : Nat) {lov hiv : Option Value}
    (hlo : lov = none ∧ i = 0 ∨ lov = some (.int .i64 i)) (hhi : hiv = none ∧ j = xs.length ∨ hiv = some (.int .i64 j)) (hq : I[q]? = some (f, MP.val [.slice A len cap] xs)) (hs : sub xs i j = some ys) :
    ∃ A' c', (∀ w', (Instr.sliceAt T (.slice A len cap) lov hiv none).run P w' = .ok (.slice A' ys.length c') w') ∧ Mem w0 S M R D ((f, MP.val [.slice A' ys.length c'] ys) :: I) w := by
  obtain ⟨A', cap', hcs, hlc, hcm, hel⟩ : lrep w (St w0 S M R D f) [.slice A len cap] xs := H.get q hq
  simp only [List.cons.injEq, Value.slice.injEq, and_true] at hcs
  obtain ⟨rfl, rfl, rfl⟩ := hcs
  unfold sub at hs
  split at hs
  case isFalse => cases hs
  rename_i hb
  obtain ⟨h0, h1, h2⟩ := hb
  injection hs with hs
  have hyl : ys.length = j.toNat - i.toNat := by rw [← hs]; simp; omega
  have hE' : ∀ w, (Go.sizeOf E).run P w = .ok (GoTy.n α) w := hE
  refine ⟨if cap = i.toNat then A else A.map (·.add (i.toNat * GoTy.n α)), cap - i.toNat, fun w' => ?_, H.push _ ?_⟩
  · have hj : (j.toNat : Int) = j := Int.toNat_of_nonneg (by omega)
    rw [hyl]
    have hsb : (Instr.sliceBounds true xs.length cap lov hiv none).run P w' = .ok (i.toNat, j.toNat, cap) w' := by
      rcases hlo with ⟨e1, rfl⟩ | e1 <;> rcases hhi with ⟨e2, e3⟩ | e2 <;> rw [e1, e2]
      · subst e3; simp [Instr.sliceBounds]
      · simp [Instr.sliceBounds, Instr.sliceBound, asIntOf, show 0 ≤ j by omega, show j ≤ cap by omega]
      · subst e3; simp [Instr.sliceBounds, Instr.sliceBound, asIntOf, h0, h1]
      · simp [Instr.sliceBounds, Instr.sliceBound, asIntOf, h0, show 0 ≤ j by omega, show j ≤ cap by omega, hj, h1]
    simp [Instr.sliceAt, Instr.slice, run_underlying hT, hsb, hE']
  refine ⟨_, _, rfl, by omega, by omega, fun t z hz => ?_⟩
  have hz' : xs[i.toNat + t]? = some z := by
    rw [← hs, List.getElem?_drop] at hz
    rw [List.getElem?_take] at hz
    split at hz
    · exact hz
    · cases hz
  obtain ⟨p, hp, hSp, cs, hc, hr⟩ := hel _ _ hz'
  have hlt := (List.getElem?_eq_some_iff.1 hz').1
  rw [if_neg (by omega), hp]
  refine ⟨p.add (i.toNat * GoTy.n α), rfl, by rw [block_add]; exact hSp, cs, fun u c hu => ?_, hr⟩
  rw [add_add, ← Nat.add_assoc, ← Nat.add_mul]
  exact hc u c hu
end
section
variable {P : Program} {l : List Oper} {Mid S : World → Prop} {a : Act} {w : World} {B : List Nat} {fuel : Nat} {bs : List Bool} {n : Nat} {L : List (Nat × Value)}
theorem on2 {Mid : Act → World → Prop} {i j : Nat} {oi oj : Oper} {bi bj : List Bool} (hr : Region.ready .any l.toArray bs.toArray = [i, j]) (hi : l[i]? = some oi) (hgi : oi.guard = none) (hbi : bs.set i true = bi) (hj : l[j]? = some oj) (hgj : oj.guard = none) (hbj : bs.set j true = bj)
    (h : oi.wp P a w (fun a' w' => (nb B bi.toArray = true → S w') ∧ DL P l Mid S B fuel bi a' w') (only Mid)) (h' : oj.wp P a w (fun a' w' => (nb B bj.toArray = true → S w') ∧ DL P l Mid S B fuel bj a' w') (only Mid)) : DL P l Mid S B (fuel + 1) bs a w := by
  refine ⟨fun h0 => (by rw [hr] at h0; cases h0), fun q hq => ?_⟩
  rw [hr] at hq
  simp only [List.mem_cons, List.not_mem_nil, or_false] at hq
  rcases hq with rfl | rfl
  · unfold wpOp
    have hi' : l.toArray[q]? = some oi := by simpa using hi
    simp only [hi', Region.wanted, hgi]
    rw [set_bs hbi]
    exact .inl h
  · unfold wpOp
    have hi' : l.toArray[q]? = some oj := by simpa using hj
    simp only [hi', Region.wanted, hgj]
    rw [set_bs hbj]
    exact .inl h'
end
instance : GoTy By where
  n := 1
  agg := false
  flat := true
  rep _ _ cs x := cs = [.int .u8 x.n]
  own _ F cs x := F = [] ∧ cs = [.int .u8 x.n]
  pos := by decide
  len := by rintro _ _ _ _ rfl; rfl
  one := by rintro _ _ _ _ rfl; simp [Value.oneCell']
  mono := fun h _ => h
  own_rep := fun h => h.2
  own_mono := fun h _ => h
  own_lt := by rintro _ _ _ _ ⟨rfl, _⟩ _ h; cases h
  own_flat := fun _ h => ⟨rfl, h⟩
instance : GoTy U64 where
  n := 1
  agg := false
  flat := true
  rep _ _ cs x := cs = [.int .u64 x.n]
  own _ F cs x := F = [] ∧ cs = [.int .u64 x.n]
  pos := by decide
  len := by rintro _ _ _ _ rfl; rfl
  one := by rintro _ _ _ _ rfl; simp [Value.oneCell']
  mono := fun h _ => h
  own_rep := fun h => h.2
  own_mono := fun h _ => h
  own_lt := by rintro _ _ _ _ ⟨rfl, _⟩ _ h; cases h
  own_flat := fun _ h => ⟨rfl, h⟩
theorem VR_by {w : World} {S : Nat → Prop} {v : Value} {x : By} (h : VR w S v x) : v = .int .u8 x.n := by obtain ⟨cs, rfl, rfl⟩ := h; rfl
theorem VR_u64 {w : World} {S : Nat → Prop} {v : Value} {x : U64} (h : VR w S v x) : v = .int .u64 x.n := by obtain ⟨cs, rfl, rfl⟩ := h; rfl
theorem mk_by {w : World} {S : Nat → Prop} {x : By} : VR w S (.int .u8 x.n) x := ⟨_, rfl, rfl⟩
theorem mk_u64 {w : World} {S : Nat → Prop} {x : U64} : VR w S (.int .u64 x.n) x := ⟨_, rfl, rfl⟩
section
variable {P : Program} {a : Act} {w : World} {n : Nat} {L : List (Nat × Value)} {dst : Option Tmp} {ty : TypeId} {pos : String} {af : Array Edge} {g : Option (Nat × Bool)}
variable {T U : TypeId} {x y : Operand} {k : IntKind} {i j : Int} {f : Int → Int}
theorem rq_ltK (hf : Fr a n L) (hx : ev L x = some (.int k i)) (hy : ev L y = some (.int k j)) : (execOp a.eval ⟨dst, .binOp .lss T x y U, ty, pos, af, g⟩).run P w = .ok (.value (.bool (decide (i < j)))) w := by
  simp [execOp, hf.eval hx, hf.eval hy, eqGuard, binOp, Op.intCmp]
theorem rq_leK (hf : Fr a n L) (hx : ev L x = some (.int k i)) (hy : ev L y = some (.int k j)) : (execOp a.eval ⟨dst, .binOp .leq T x y U, ty, pos, af, g⟩).run P w = .ok (.value (.bool (decide (i ≤ j)))) w := by
  simp [execOp, hf.eval hx, hf.eval hy, eqGuard, binOp, Op.intCmp]
theorem rq_gtK (hf : Fr a n L) (hx : ev L x = some (.int k i)) (hy : ev L y = some (.int k j)) : (execOp a.eval ⟨dst, .binOp .gtr T x y U, ty, pos, af, g⟩).run P w = .ok (.value (.bool (decide (i > j)))) w := by
  simp [execOp, hf.eval hx, hf.eval hy, eqGuard, binOp, Op.intCmp]
theorem rq_geK (hf : Fr a n L) (hx : ev L x = some (.int k i)) (hy : ev L y = some (.int k j)) : (execOp a.eval ⟨dst, .binOp .geq T x y U, ty, pos, af, g⟩).run P w = .ok (.value (.bool (decide (i ≥ j)))) w := by
  simp [execOp, hf.eval hx, hf.eval hy, eqGuard, binOp, Op.intCmp]
theorem rq_conv {k' : IntKind} {us : TypeDesc} (hk : ∀ n, k.wrap n = f n) (hs : P.underlying T = some us) (hd : P.underlying U = some (.int k)) (hf : Fr a n L) (hx : ev L x = some (.int k' i)) : (execOp a.eval ⟨dst, .convert T U x, ty, pos, af, g⟩).run P w = .ok (.value (.int k (f i))) w := by
  simp [execOp, hf.eval hx, convert, run_underlying hs, run_underlying hd, Conv.intToInt, hk]
end
section
variable {w w' w1 : World} {w0 : Base} {S : Nat → Prop} {M : List Blk} {R : List Row} {D : List DI} {I : List (Bool × MP)}
theorem Mem.boxAt (H : Mem w0 S M R D I w) (i : Nat) {b : Nat} {T : TypeId} {cs : List Value} (hi : M[i]? = some ⟨b, T, cs⟩) : w.heap[b]? = some (.cells cs.toArray T (0, 0)) :=
  MemZ.ok H (Blk.res ⟨b, T, cs⟩) (List.mem_append.2 (.inl (List.mem_map.2 ⟨_, List.mem_of_getElem? hi, rfl⟩)))
theorem box_fm {i b : Nat} {T : TypeId} {cs : List Value} (hi : M[i]? = some ⟨b, T, cs⟩) : b ∈ fmZ (zs M R D) :=
  List.mem_flatMap.2 ⟨Blk.res ⟨b, T, cs⟩, List.mem_append.2 (.inl (List.mem_map.2 ⟨_, List.mem_of_getElem? hi, rfl⟩)), by simp [Blk.res]⟩
theorem Mem.notSt (H : Mem w0 S M R D I w) (i : Nat) {b : Nat} {T : TypeId} {cs : List Value} (hi : M[i]? = some ⟨b, T, cs⟩) (f : Bool) : ¬ St w0 S M R D f b := by
  have h1 := box_fm (R := R) (D := D) hi
  rintro (⟨-, h, -⟩ | ⟨-, h⟩)
  · exact h (MemZ.lt H b (fm_all h1)).1
  · exact h h1
theorem Mem.argB {G : List Nat} (H : Mem ⟨w1, G⟩ S M R D I w) (hS : ∀ b ∈ G, ¬ S b) {p : MP} (h : p.pred w1 S) : Mem ⟨w1, G⟩ S M R D ((false, p) :: I) w := by
  refine H.push _ (p.mono h fun b hb hlt => ?_)
  have hn : ¬ (⟨w1, G⟩ : Base).nw b := by
    rintro (h1 | h1)
    · simp only at h1; omega
    · exact hS b h1 hb
  exact ⟨.inl ⟨rfl, hn, hb⟩, (MemZ.below H).block b hn⟩
theorem rep_endB {b : Nat} {T : TypeId} {bs : List Value} {i : Nat} {f : Bool} {α : Type} [GoTy α] {cs : List Value} {x : α} (hi : M[i]? = some ⟨b, T, bs⟩) (h : GoTy.rep w (St w0 S M R D f) cs x) : GoTy.rep w (St w0 S [⟨b, T, bs⟩] [] [] f) cs x :=
  GoTy.mono h fun c hc _ => by
    refine ⟨?_, rfl⟩
    rcases hc with hc | ⟨h1, h2⟩
    · exact .inl hc
    · refine .inr ⟨h1, fun h3 => h2 ?_⟩
      have : c = b := by simpa [fmZ, zs, Blk.res] using h3
      subst this; exact box_fm hi
end
section
variable {P : Program} {Q : Exit → Act → World → Prop} {a : Act} {w : World} {n : Nat} {L : List (Nat × Value)} {ty : TypeId} {pos : String} {af : Array Edge} {g : Option (Nat × Bool)} {K : Act → World → Prop} {d : Nat}
variable {w0 : Base} {S : Nat → Prop} {M : List Blk} {R : List Row} {D : List DI} {I : List (Bool × MP)}
end
end AT

namespace AT
open Go Go.RowKit
end AT

namespace AT
open Go Go.RowKit
def IA.cells {n : Nat} (x : IA n) : List Value := x.l.map (Value.int .i64)
theorem IA.cells_len {n : Nat} (x : IA n) : x.cells.length = n := by unfold IA.cells; rw [List.length_map]; exact x.h
@[reducible] def iaTy (n : Nat) (hn : 0 < n) : GoTy (IA n) where
  n := n
  agg := true
  flat := true
  rep _ _ cs x := cs = x.cells
  own _ F cs x := F = [] ∧ cs = x.cells
  pos := hn
  len := by rintro _ _ _ _ rfl; exact IA.cells_len _
  one := by
    rintro _ _ _ x rfl c hc
    obtain ⟨i, -, rfl⟩ := List.mem_map.1 hc
    simp [Value.oneCell']
  mono := fun h _ => h
  own_rep := fun h => h.2
  own_mono := fun h _ => h
  own_lt := by rintro _ _ _ _ ⟨rfl, _⟩ _ h; cases h
  own_flat := fun _ h => ⟨rfl, h⟩
section
variable {P : Program} {Q : Exit → Act → World → Prop} {a : Act} {w : World} {n : Nat} {L : List (Nat × Value)} {dst : Option Tmp} {ty : TypeId} {pos : String} {af : Array Edge} {g : Option (Nat × Bool)} {K : Act → World → Prop} {d : Nat}
variable {w0 : Base} {S : Nat → Prop} {M : List Blk} {R : List Row} {D : List DI} {I : List (Bool × MP)}
end
end AT
namespace AT
open Go Go.RowKit
theorem Mem.addRo {w w' : World} {w0 : Base} {S S' : Nat → Prop} {M : List Blk} {R : List Row} {D : List DI} {I : List (Bool × MP)} (H : Mem w0 S M R D I w) (hb : Below w.heap.size w w') {p : MP} (hp : p.pred w' (St ⟨w, []⟩ S' [] [] [] true)) : ∃ F, Mem w0 S M R (⟨F, p⟩ :: D) I w' := by
  have hF : ∀ b, b ∈ List.range' w.heap.size (w'.heap.size - w.heap.size) ↔ w.heap.size ≤ b ∧ b < w'.heap.size := fun b => by
    rw [List.mem_range'_1]
    have := hb.size
    omega
  refine ⟨List.range' w.heap.size (w'.heap.size - w.heap.size), H.addOwn hb (X := [⟨_, p⟩]) ?_ (fun d hd => ?_) (fun b h => ?_)⟩
  · simpa using List.nodup_range'
  · rw [List.mem_singleton] at hd; subst hd
    refine p.mono hp fun b h hlt => ⟨(hF b).2 ?_, rfl⟩
    rcases h with ⟨h, _⟩ | ⟨h1 | h1, _⟩
    · cases h
    · exact ⟨h1, hlt⟩
    · cases h1
  · simp only [List.flatMap_cons, List.flatMap_nil, List.append_nil] at h
    exact (hF b).1 h
end AT
namespace AT
open Go Go.RowKit
end AT
namespace AT
open Go Go.RowKit
section
variable {P : Program} {Q : Exit → Act → World → Prop} {a : Act} {w : World} {n : Nat} {L : List (Nat × Value)} {dst : Option Tmp} {ty : TypeId} {pos : String} {af : Array Edge} {g : Option (Nat × Bool)} {K : Act → World → Prop} {d : Nat}
variable {T U : TypeId} {x y : Operand} {s t : ByteArray}
theorem rq_indexS (hf : Fr a n L) (hT : P.underlying T = some .string) {k : IntKind} {i : Int} {e : By} (hx : ev L x = some (.string s)) (hy : ev L y = some (.int k i)) (h : sidx s i = some e) : (execOp a.eval ⟨dst, .index T x y, ty, pos, af, g⟩).run P w = .ok (.value (.int .u8 e.n)) w := by
  unfold sidx at h
  split at h
  case isFalse => cases h
  rename_i h0
  obtain ⟨b, hb, rfl⟩ := Option.map_eq_some_iff.1 h
  have h1 : (Instr.index T (.string s) (.int k i)).run P w = .ok (.int .u8 b.toNat) w := by
    simp [Instr.index, asIntOf, run_underlying hT, h0, hb]
  simp [execOp, hf.eval hx, hf.eval hy, h1]
theorem rq_scat (hf : Fr a n L) {u : ByteArray} (hx : ev L x = some (.string s)) (hy : ev L y = some (.string t)) (h : scat s t = some u) : (execOp a.eval ⟨dst, .binOp .add T x y U, ty, pos, af, g⟩).run P w = .ok (.value (.string u)) w := by
  unfold scat at h
  split at h
  case isFalse => cases h
  rename_i h0
  injection h with h; subst h
  have h1 : (Op.stringOp .add s t).run P w = .ok (.string (s ++ t)) w := by
    have : ¬ (((s.size + t.size : Nat) : Int) > IntKind.i64.max) := by
      simp only [IntKind.max, IntKind.signed, IntKind.bits]
      simp
      omega
    simp only [Op.stringOp, this, if_false]
    rfl
  simp [execOp, hf.eval hx, hf.eval hy, eqGuard, binOp, h1]
theorem run_bstr {S : Nat → Prop} {A : Option Addr} {len cap : Nat} {xs : List By} (h : lrep w S [.slice A len cap] xs) : (Conv.bytesToString (.slice A len cap)).run P w = .ok (.string (bstr xs)) w := by
  obtain ⟨A', cap', hcs, hlc, hcm, hel⟩ := h
  simp only [List.cons.injEq, Value.slice.injEq, and_true] at hcs
  obtain ⟨rfl, rfl, rfl⟩ := hcs
  cases A with
  | none =>
    cases xs with
    | nil => rfl
    | cons x xs => obtain ⟨p, hp, _⟩ := hel 0 x rfl; cases hp
  | some p =>
    have hl : (loadCells p xs.length).run P w = .ok ((xs.map By.n).map (Value.int .u8)).toArray w := by
      have := run_loadCells_list (P := P) (w := w) p ((xs.map By.n).map (Value.int .u8)) fun j v hj => by
        simp only [List.getElem?_map, Option.map_eq_some_iff] at hj
        obtain ⟨m, ⟨x, hx, rfl⟩, rfl⟩ := hj
        obtain ⟨p', hp', hS, cs, hc, hr⟩ := hel j x hx
        injection hp' with hp'; subst hp'
        have hr' : cs = [.int .u8 x.n] := hr
        subst hr'
        have := hc 0 _ rfl
        rw [Nat.add_zero] at this
        have e : j * GoTy.n By = j := Nat.mul_one j
        rw [e] at this
        exact this
      simpa using this
    rw [run_bytesToString w p xs.length cap (xs.map By.n) hl]
    unfold bstr
    rw [List.foldl_map]
theorem rq_convBS {S : Nat → Prop} {A : Option Addr} {len cap : Nat} {xs : List By} {e : TypeId} (hs : P.underlying T = some (.slice e)) (he : P.underlying e = some (.int .u8)) (hd : P.underlying U = some .string) (hf : Fr a n L) (hx : ev L x = some (.slice A len cap)) (h : lrep w S [.slice A len cap] xs) :
    (execOp a.eval ⟨dst, .convert T U x, ty, pos, af, g⟩).run P w = .ok (.value (.string (bstr xs))) w := by
  have h1 : (convert T U (.slice A len cap)).run P w = .ok (.string (bstr xs)) w := by
    rw [run_convert_bytes_string w T U e A len cap hs he hd]; exact run_bstr h
  simp [execOp, hf.eval hx, h1]
end
end AT
namespace AT
open Go Go.RowKit
end AT
namespace AT
open Go Go.RowKit
section
variable {P : Program} {Q : Exit → Act → World → Prop} {a : Act} {w : World} {n : Nat} {L : List (Nat × Value)} {dst : Option Tmp} {ty : TypeId} {pos : String} {af : Array Edge} {g : Option (Nat × Bool)} {K : Act → World → Prop} {d : Nat}
variable {w0 : Base} {S : Nat → Prop} {M : List Blk} {R : List Row} {D : List DI} {I : List (Bool × MP)}
theorem pre_iaddrR (H : Mem w0 S M R D I w) {α : Type} [GoTy α] {T E E' : TypeId} (hT : P.underlying T = some (.slice E)) (hE : SZ P E (GoTy.n α)) (j : Nat) {kd : Kd} {A : Option Addr} {cap : Nat} {xs : List α} {i : Int} {e : α}
    (hj : R[j]? = some ⟨kd, E', A, cap, xs⟩) (he : idx xs i = some e) :
    ∃ b o, RA A b o (i.toNat * GoTy.n α) ∧ ∀ w' k, (Instr.indexAt T (.slice A xs.length cap) (.int k i)).run P w' = .ok (.pointer (some ⟨b, o, none⟩)) w' := by
  obtain ⟨h0, h1, h2⟩ := idx_lt he
  obtain ⟨b, q, rfl, cs, hr, hc⟩ := row_cells H hj he
  refine ⟨b, _, ⟨q, rfl, rfl⟩, fun w' k => ?_⟩
  have hi := run_indexAt (P := P) (w := w') (cap := cap) hT hE h0 h1 (p := ⟨b, q, none⟩) (k := k)
  rw [add_lit] at hi
  exact hi
theorem rq_loadRow (hf : Fr a n L) (H : Mem w0 S M R D I w) {α : Type} [GoTy α] {T : TypeId} (hT : LS P T) (j : Nat) {x : Operand} {b o off : Nat} {kd : Kd} {E : TypeId} {A : Option Addr} {cap : Nat} {xs : List α} {i : Int} {e : α} {v : Value}
    (hx : ev L x = some (.pointer (some ⟨b, o + off, none⟩))) (hj : R[j]? = some ⟨kd, E, A, cap, xs⟩) (hA : RA A b o (i.toNat * GoTy.n α)) (he : idx xs i = some e) (hv : ∀ (w : World) (T : Nat → Prop) (cs : List Value), GoTy.rep w T cs e → cs[off]? = some v) :
    (execOp a.eval ⟨dst, .load T x, ty, pos, af, g⟩).run P w = .ok (.value v) w := by
  obtain ⟨b', q', hA', cs, hr, hc⟩ := row_cells H hj he
  obtain ⟨q0, rfl, rfl⟩ := hA
  injection hA' with hA'
  injection hA' with hA' hA2
  subst hA'
  subst hA2
  have := hc off v (hv _ _ _ hr)
  rw [add_lit] at this
  exact rq_load1 hf hT hx this
end
end AT
namespace AT
open Go Go.RowKit
theorem iteB {R : Type} {b : Bool} {x y r : R} {G : Prop} (h : (if b = true then x else y) = r) (h1 : b = true → x = r → G) (h2 : b = false → y = r → G) : G := by
  cases b
  · exact h2 rfl (by simpa using h)
  · exact h1 rfl (by simpa using h)
section
variable {P : Program} {Q : Exit → Act → World → Prop} {a : Act} {w : World} {n : Nat} {L : List (Nat × Value)}
variable {w0 : Base} {S : Nat → Prop} {M : List Blk} {R : List Row} {D : List DI} {I : List (Bool × MP)}
theorem midF {c : Code} (t : Nat) (v : Value) (hf : Fr a n L) (H : Mem w0 S M R D I w) (h : c.wp P (Exit.then (fun a w => Fr a n ((t, v) :: L) ∧ Mem w0 S M R D I w) Q) a w)
    (h2 : ∀ a w, Fr a n ((t, v) :: L) → Mem w0 S M R D I w → Q .normal a w) : c.wp P Q a w := mid _ h fun a w q => h2 a w q.1 q.2
theorem loopC {σ : Type} {id : Nat} {c : Code} (Inv : σ → Act → World → Prop) (G : Nat → σ → Prop) (E : σ → Prop) (s0 : σ) (k0 : Nat) (hL : G k0 s0) (hI : Inv s0 a w) (h0 : ∀ s, ¬ G 0 s)
    (round : ∀ k s a w, G (k + 1) s → Inv s a w → c.wp P (Exit.then (fun a' w' => ∃ s', G k s' ∧ Inv s' a' w') (Exit.inBlock id (Exit.then (fun a w => ∃ s, E s ∧ Inv s a w) Q))) a w)
    (after : ∀ a w, (∃ s, E s ∧ Inv s a w) → Q .normal a w) : (Code.block id (.loop c)).wp P Q a w :=
  mid _ (wp_block (loop_rule G Inv h0 round k0 s0 a w hL hI)) after
end
section
variable {P : Program} {S0 : World → Prop} {B : List Nat} {l : List Oper} {bs bs' : List Bool} {a : Act} {w : World} {n fuel d i : Nat} {L : List (Nat × Value)} {Mid : Act → World → Prop} {o : Oper} {v : Value}
variable {w0 : Base} {S : Nat → Prop} {M : List Blk} {R : List Row} {D : List DI} {I : List (Bool × MP)}
theorem strT (H : Mem w0 S M R D I w) (hs : ∀ w, Mem w0 S M R D I w → S0 w) (h : Mem w0 S M R D I w → DL P l Mid (fun w => Mem w0 S M R D I w) B fuel bs a w) : DL P l Mid S0 B fuel bs a w := str _ hs (h H)
theorem tP (i : Nat) (hi : l[i]? = some o) (hd : o.dst = some d) (hg : o.guard = none) (hdn : Nat.ble (d + 1) n = true) (hf : Fr a n L) (hc : takeB l bs i [] B = true) (hS : nb B bs.toArray = true → S0 w) (hy : ∀ w, (execOp a.eval o).run P w = .ok (.value v) w)
    (h : ∀ a', Fr a' n ((d, v) :: L) → DL P l Mid S0 B fuel (bs.set i true) a' w) : DL P l Mid S0 B (fuel + 1) bs a w := tkP hi hd hg (nle hdn) hf hc hS hy rfl h
theorem tPg (i : Nat) {j e : Nat} {b : Bool} (hi : l[i]? = some o) (hd : o.dst = some d) (hg : o.guard = some (j, b)) (hj : (l[j]?).bind (·.dst) = some e) (hv : lk L e = some (.bool b)) (hdn : Nat.ble (d + 1) n = true) (hf : Fr a n L) (hc : takeB l bs i [] B = true) (hS : nb B bs.toArray = true → S0 w) (hy : ∀ w, (execOp a.eval o).run P w = .ok (.value v) w)
    (h : ∀ a', Fr a' n ((d, v) :: L) → DL P l Mid S0 B fuel (bs.set i true) a' w) : DL P l Mid S0 B (fuel + 1) bs a w := tkPg hi hd hg hj hv (nle hdn) hf hc hS hy rfl h
theorem tS (i : Nat) (X : List Nat) (hi : l[i]? = some o) (hd : o.dst = some d) (hg : o.guard = none) (hdn : Nat.ble (d + 1) n = true) (hf : Fr a n L) (hc : takeB l bs i X B = true) (hBX : (B.all (X.contains ·)) = true) (hS : S0 w) (hy : ∀ w, S0 w → (execOp a.eval o).run P w = .ok (.value v) w)
    (h : ∀ a', Fr a' n ((d, v) :: L) → DL P l Mid S0 B fuel (bs.set i true) a' w) : DL P l Mid S0 B (fuel + 1) bs a w := tkS X hi hd hg (nle hdn) hf hc hBX hS hy rfl h
theorem tSg (i : Nat) (X : List Nat) {j e : Nat} {b : Bool} (hi : l[i]? = some o) (hd : o.dst = some d) (hg : o.guard = some (j, b)) (hj : (l[j]?).bind (·.dst) = some e) (hv : lk L e = some (.bool b)) (hdn : Nat.ble (d + 1) n = true) (hf : Fr a n L) (hc : takeB l bs i X B = true) (hBX : (B.all (X.contains ·)) = true) (hS : S0 w) (hy : ∀ w, S0 w → (execOp a.eval o).run P w = .ok (.value v) w)
    (h : ∀ a', Fr a' n ((d, v) :: L) → DL P l Mid S0 B fuel (bs.set i true) a' w) : DL P l Mid S0 B (fuel + 1) bs a w := tkSg X hi hd hg hj hv (nle hdn) hf hc hBX hS hy rfl h
theorem tUU (i : Nat) {j e : Nat} {b : Bool} (hi : l[i]? = some o) (hd : o.dst = some d) (hg : o.guard = some (j, b)) (hj : (l[j]?).bind (·.dst) = some e) (hv : lk L e = some undef) (hdn : Nat.ble (d + 1) n = true) (hf : Fr a n L) (hc : takeB l bs i [] B = true) (hS : nb B bs.toArray = true → S0 w)
    (h : ∀ a', Fr a' n ((d, undef) :: L) → DL P l Mid S0 B fuel (bs.set i true) a' w) : DL P l Mid S0 B (fuel + 1) bs a w := tkUU hi hd hg hj hv (nle hdn) hf hc hS rfl h
theorem tU (i : Nat) {j e : Nat} {b c : Bool} (hi : l[i]? = some o) (hd : o.dst = some d) (hg : o.guard = some (j, b)) (hj : (l[j]?).bind (·.dst) = some e) (hv : lk L e = some (.bool c)) (hne : (c == b) = false) (hdn : Nat.ble (d + 1) n = true) (hf : Fr a n L) (hc : takeB l bs i [] B = true) (hS : nb B bs.toArray = true → S0 w)
    (h : ∀ a', Fr a' n ((d, undef) :: L) → DL P l Mid S0 B fuel (bs.set i true) a' w) : DL P l Mid S0 B (fuel + 1) bs a w := tkU hi hd hg hj hv hne (nle hdn) hf hc hS rfl h
theorem n1 (i : Nat) (hr : Region.ready .any l.toArray bs.toArray = [i]) (hi : l[i]? = some o) (hg : o.guard = none)
    (h : o.wp P a w (fun a' w' => (nb B (bs.set i true).toArray = true → S0 w') ∧ DL P l Mid S0 B fuel (bs.set i true) a' w') (only Mid)) : DL P l Mid S0 B (fuel + 1) bs a w := on1 hr hi hg rfl h
theorem n1g (i : Nat) {j e : Nat} {b : Bool} (hr : Region.ready .any l.toArray bs.toArray = [i]) (hi : l[i]? = some o) (hg : o.guard = some (j, b)) (hj : (l[j]?).bind (·.dst) = some e) (hv : lk L e = some (.bool b)) (hf : Fr a n L)
    (h : o.wp P a w (fun a' w' => (nb B (bs.set i true).toArray = true → S0 w') ∧ DL P l Mid S0 B fuel (bs.set i true) a' w') (only Mid)) : DL P l Mid S0 B (fuel + 1) bs a w := on1g hr hi hg hj hv hf rfl h
end
end AT
namespace AT
open Go Go.RowKit
theorem ret_0r {P : Program} {w : World} {a : Act} {n : Nat} {L : List (Nat × Value)} {fn : Func} {Rr : Ending → World → Prop} (hf : Fr a n L) (hres : fn.results = #[]) (hR : Rr (.returned (.tuple #[])) w) : bodyPost P fn Rr .ret a w :=
  ⟨hf.defs, _, run_results (rs := []) hres .nil, by simpa using hR⟩
end AT
namespace AT
open Go Go.RowKit
end AT
namespace AT
open Go Go.RowKit
def MP.and (p q : MP) : MP := ⟨fun w S => p.pred w S ∧ q.pred w S, fun h hm => ⟨p.mono h.1 hm, q.mono h.2 hm⟩⟩
theorem Mem.lendQ {w : World} {w0 : Base} {S : Nat → Prop} {M : List Blk} {R : List Row} {D : List DI} {I : List (Bool × MP)} (H : Mem w0 S M R D I w) (j : Nat) {F : List Nat} {p q : MP} (hj : D[j]? = some ⟨F, p⟩) (hq : ∀ w S, p.pred w S → q.pred w S) : Mem w0 S M R D ((true, q) :: I) w :=
  H.push _ (hq _ _ (p.mono (H.diAt (List.mem_of_getElem? hj)) fun b hb _ => ⟨MemZ.fd_st H (di_mem (List.mem_of_getElem? hj)) hb _, rfl⟩))
end AT

namespace AT
open Go Go.RowKit
section
variable {P : Program} {a : Act} {w : World} {n : Nat} {L : List (Nat × Value)} {dst : Option Tmp} {ty : TypeId} {pos : String} {af : Array Edge} {g : Option (Nat × Bool)}
def sameF (fs : List Field) (xs ys : List Int) : Bool := fs.all fun f => (xs[f.offset]?).getD 0 == (ys[f.offset]?).getD 0
structure QS (P : Program) (T : TypeId) (fs : List Field) (m : Nat) : Prop where
  u : P.underlying T = some (.struct fs.toArray)
  s : P.stoodInHeld T = false
  f : ∀ f ∈ fs, (f.name == "_") = false ∧ f.offset < m ∧ PT P f.type ∧ ∃ k, P.underlying f.type = some (.int k)
theorem part_int {E : TypeId} {xs : List Int} {j : Nat} (hE : PT P E) (hj : j < xs.length) (w : World) : (part E (xs.map (Value.int .i64)).toArray j).run P w = .ok (.int .i64 ((xs[j]?).getD 0)) w := by
  have hE1 : ∀ w, (isAgg E).run P w = .ok false w := fun w => (hE w).1
  have e : xs[j]? = some xs[j] := List.getElem?_eq_getElem hj
  simp [part, hE1, e, hj]
theorem eqIn_int {E : TypeId} {k : IntKind} {d : Nat} {i j : Int} (hE : P.underlying E = some (.int k)) (w : World) : (Op.equalIn (d + 1) E (.int .i64 i) (.int .i64 j)).run P w = .ok (i == j) w := by
  simp [Op.equalIn, run_underlying hE]
theorem eqS {T : TypeId} {fs : List Field} {m : Nat} (hq : QS P T fs m) (xs ys : List Int) (hx : xs.length = m) (hy : ys.length = m) (w : World) : (Op.equal T (.agg (xs.map (Value.int .i64)).toArray) (.agg (ys.map (Value.int .i64)).toArray)).run P w = .ok (sameF fs xs ys) w := by
  obtain ⟨hu, hs, hf⟩ := hq
  unfold Op.equal Op.maxDepth
  rw [show (10000 : Nat) = 9999 + 1 from rfl, Op.equalIn]
  simp [run_underlying hu, hs]
  clear hu hs
  induction fs with
  | nil => simp [sameF]
  | cons f fs ih =>
    obtain ⟨h1, h2, h3, k, h4⟩ := hf f (by simp)
    have h1' : ¬ f.name = "_" := by simpa using h1
    have ih' := ih fun g hg => hf g (List.mem_cons_of_mem _ hg)
    have hpx := part_int (xs := xs) (j := f.offset) h3 (by omega) w
    have hpy := part_int (xs := ys) (j := f.offset) h3 (by omega) w
    have heq : (Op.equalIn 9999 f.type (.int .i64 ((xs[f.offset]?).getD 0)) (.int .i64 ((ys[f.offset]?).getD 0))).run P w = .ok ((xs[f.offset]?).getD 0 == (ys[f.offset]?).getD 0) w := eqIn_int (d := 9998) h4 w
    have hs : sameF (f :: fs) xs ys = ((xs[f.offset]?).getD 0 == (ys[f.offset]?).getD 0 && sameF fs xs ys) := rfl
    rw [hs]
    clear hs ih
    rw [List.forIn_cons]
    simp only [h1', if_false, Sem.run_bind, hpx, hpy, Result.andThen_ok, heq]
    cases hc : ((xs[f.offset]?).getD 0 == (ys[f.offset]?).getD 0)
    · simp
    · simpa using ih'
theorem rq_eqS (hf : Fr a n L) {T U : TypeId} {fs : List Field} {m : Nat} (hq : QS P T fs m) (hg : P.eqGuardType P.depth T = false) {x y : Operand} {cs ds : List Value} {xs ys : List Int} (hx : ev L x = some (.agg cs.toArray)) (hy : ev L y = some (.agg ds.toArray))
    (hc : cs = xs.map (Value.int .i64)) (hd : ds = ys.map (Value.int .i64)) (h1 : xs.length = m) (h2 : ys.length = m) :
    (execOp a.eval ⟨dst, .binOp .eql T x y U, ty, pos, af, g⟩).run P w = .ok (.value (.bool (sameF fs xs ys))) w := by
  subst hc hd
  have := eqS hq xs ys h1 h2 w
  simp [execOp, hf.eval hx, hf.eval hy, eqGuard, binOp, this, hg]
def flds (P : Program) (T : TypeId) : List Field := match P.underlying T with
  | some (.struct fs) => fs.toList
  | _ => []
structure EQT (P : Program) (T : TypeId) (m : Nat) (E : TypeId) : Prop where
  u : P.underlying T = some (.struct (flds P T).toArray)
  s : P.stoodInHeld T = false
  g : P.eqGuardType P.depth T = false
  o : (flds P T).map (·.offset) = List.range m
  f : ((flds P T).all fun f => !(f.name == "_") && f.type == E) = true
  p : PT P E
  i : ∃ k, P.underlying E = some (.int k)
theorem EQT.qs {T : TypeId} {m : Nat} {E : TypeId} (h : EQT P T m E) : QS P T (flds P T) m := by
  refine ⟨h.u, h.s, fun f hf => ?_⟩
  have h1 := List.all_eq_true.1 h.f f hf
  simp only [Bool.and_eq_true, Bool.not_eq_true', beq_iff_eq] at h1
  have h2 : f.offset ∈ List.range m := by rw [← h.o]; exact List.mem_map_of_mem hf
  exact ⟨h1.1, List.mem_range.1 h2, h1.2 ▸ h.p, h1.2 ▸ h.i⟩
theorem same_all {fs : List Field} {m : Nat} (ho : fs.map (·.offset) = List.range m) (xs ys : List Int) (h1 : xs.length = m) (h2 : ys.length = m) : sameF fs xs ys = (xs == ys) := by
  have e : sameF fs xs ys = (List.range m).all fun j => (xs[j]?).getD 0 == (ys[j]?).getD 0 := by
    rw [← ho, List.all_map]; rfl
  rw [e, Bool.eq_iff_iff, beq_iff_eq, List.all_eq_true]
  constructor
  · intro h
    apply List.ext_getElem (by omega)
    intro j a b
    have := h j (List.mem_range.2 (by omega))
    rw [List.getElem?_eq_getElem a, List.getElem?_eq_getElem b, beq_iff_eq] at this
    exact this
  · rintro rfl j _
    simp
theorem rq_eqT (hf : Fr a n L) {T U : TypeId} {m : Nat} {E : TypeId} (hq : EQT P T m E) (xs ys : List Int) {x y : Operand} {cs ds : List Value} (hx : ev L x = some (.agg cs.toArray)) (hy : ev L y = some (.agg ds.toArray))
    (hc : cs = xs.map (Value.int .i64)) (hd : ds = ys.map (Value.int .i64)) (h1 : xs.length = m) (h2 : ys.length = m) :
    (execOp a.eval ⟨dst, .binOp .eql T x y U, ty, pos, af, g⟩).run P w = .ok (.value (.bool (xs == ys))) w := by
  rw [← same_all hq.o xs ys h1 h2]; exact rq_eqS hf hq.qs hq.g hx hy hc hd h1 h2
end
end AT
namespace AT
open Go Go.RowKit
def DelSpec (P : Program) (f : FuncId) (s : Nat) : Prop := ∀ (w : World) (A : Option Addr) (n cap : Nat) (E : TypeId) (cells : List Value) (i j : Nat), w.ownsRow 0 E s (.slice A n cap) n cells → (∀ u ∈ cells, u.oneCell' = true) → i ≤ j → j ≤ n →
  Calls P f #[.slice A n cap, .int .i64 i, .int .i64 j] w fun e w' => ∃ v, e = .returned v ∧ v = .slice A (n - (j - i)) cap ∧ w.grownBy w' (Value.slice A n cap).ownBlock ∧ w'.ownsRow 0 E s (.slice A (n - (j - i)) cap) (n - (j - i)) (cells.take (i * s) ++ cells.drop (j * s))
def InsSpec (P : Program) (f : FuncId) (s : Nat) : Prop := ∀ (w : World) (A A2 : Option Addr) (n cap m cap2 : Nat) (E E2 : TypeId) (cells vs : List Value) (i : Nat), w.ownsRow 0 E s (.slice A n cap) n cells → w.ownsRow 0 E2 s (.slice A2 m cap2) m vs → (∀ u ∈ cells, u.oneCell' = true) → (∀ u ∈ vs, u.oneCell' = true) →
  (∀ b, (Value.slice A n cap).ownBlock = some b → (Value.slice A2 m cap2).ownBlock ≠ some b) → i ≤ n → n + m ≤ 1099511627776 →
  Calls P f #[.slice A n cap, .int .i64 i, .slice A2 m cap2] w fun e w' => ∃ v, e = .returned v ∧ ∃ E1 A1 cap1, v = .slice A1 (n + m) cap1 ∧ w.grownBy w' (Value.slice A n cap).ownBlock ∧
    ((Value.slice A1 (n + m) cap1).ownBlock = (Value.slice A n cap).ownBlock ∨ ((Value.slice A1 (n + m) cap1).ownBlock = some w.heap.size ∧ w.heap.size < w'.heap.size)) ∧ w'.ownsRow 0 E1 s (.slice A1 (n + m) cap1) (n + m) (cells.take (i * s) ++ (vs ++ cells.drop (i * s)))
section
variable {P : Program} {Q : Exit → Act → World → Prop} {a : Act} {w : World} {w0 : Base} {n : Nat} {L : List (Nat × Value)} {K : Act → World → Prop} {S : Nat → Prop} {M : List Blk} {D : List DI} {I : List (Bool × MP)} {d : Tmp} {ty : TypeId} {pos : String} {af : Array Edge} {g : Option (Nat × Bool)}
theorem part_drop {α : Type} [GoTy α] (cells : List Value) (j q : Nat) : part' α (cells.drop (j * GoTy.n α)) q = part' α cells (q + j) := by
  unfold part'
  rw [List.drop_drop, Nat.add_mul, Nat.add_comm]
theorem part_take {α : Type} [GoTy α] (cells : List Value) {i q : Nat} (h : q < i) : part' α (cells.take (i * GoTy.n α)) q = part' α cells q := by
  unfold part'
  have h1 : (q + 1) * GoTy.n α ≤ i * GoTy.n α := Nat.mul_le_mul_right _ h
  rw [Nat.add_mul, Nat.one_mul] at h1
  rw [List.drop_take, List.take_take]
  congr 1
  omega
theorem take_len {α : Type} [GoTy α] {cells : List Value} {m i : Nat} (hl : cells.length = m * GoTy.n α) (h : i ≤ m) : (cells.take (i * GoTy.n α)).length = i * GoTy.n α := by
  have := Nat.mul_le_mul_right (GoTy.n α) h
  rw [List.length_take]
  omega
theorem row_one {α : Type} [GoTy α] {E : TypeId} {A : Option Addr} {cap : Nat} {xs : List α} {cells : List Value} (h : lrep w (fun _ => True) [.slice A xs.length cap] xs) (ho : w.ownsRow 0 E (GoTy.n α) (.slice A xs.length cap) xs.length cells) : ∀ u ∈ cells, u.oneCell' = true := by
  obtain ⟨A', c', hcs, hyc, hcm, hel⟩ := h
  simp only [List.cons.injEq, Value.slice.injEq, and_true] at hcs
  obtain ⟨rfl, -, rfl⟩ := hcs
  rcases ho.2 with ⟨hv, h0⟩ | ⟨gb, cap', cur, hv, hrest⟩
  · have : cells = [] := List.eq_nil_of_length_eq_zero (by rw [ho.1, h0, Nat.zero_mul])
    subst this
    intro u hu; cases hu
  · simp only [Value.slice.injEq] at hv
    obtain ⟨rfl, -, rfl⟩ := hv
    obtain ⟨news, g1, g2, g3, _⟩ := gather (w := w) (T := fun _ => True) (p := ⟨gb, 0, none⟩) xs 0 (fun k x hx => by
      obtain ⟨p', hp', _, h⟩ := hel k x hx
      injection hp' with hp'; subst hp'
      rwa [Nat.zero_add])
    simp only [Nat.zero_mul, Nat.zero_add] at g2
    intro u hu
    obtain ⟨j, hj, rfl⟩ := List.mem_iff_getElem.1 hu
    have hc := ho.cells (g := gb) rfl j _ (List.getElem?_eq_getElem hj)
    have hjn : j < news.length := by rw [g1, ← ho.1]; exact hj
    have hn := g2 j _ (List.getElem?_eq_getElem hjn)
    rw [hc] at hn
    injection hn with hn
    rw [hn]
    exact g3 _ (List.getElem_mem hjn)
theorem op_delR {R : List Row} (hf : Fr a n L) {α : Type} [GoTy α] {f : FuncId} {E0 : TypeId} {Fs : List (List Nat)} {A : Option Addr} {cap : Nat} {xs zs : List α} {i j : Int}
    (H : Mem w0 S M (⟨.ow Fs, E0, A, cap, xs⟩ :: R) D I w) (hk : CL P f) (hs : DelSpec P f (GoTy.n α)) {x y z : Operand} (hxs : evs L [x, y, z] = some [.slice A xs.length cap, .int .i64 i, .int .i64 j]) {ats : Array TypeId} (hd : dell xs i j = some zs) (hdn : d < n)
    (k : ∀ Fs' a' w', Fr a' n ((d, .slice A zs.length cap) :: L) → Mem w0 S M (⟨.ow Fs', E0, A, cap, zs⟩ :: R) D I w' → K a' w') : Oper.wp P ⟨some d, .call ⟨.value (.func f), [x, y, z].toArray, ats⟩, ty, pos, af, g⟩ a w K Q := by
  obtain ⟨cells, ho, hfit, he⟩ := H.rowAt (r := ⟨.ow Fs, E0, A, cap, xs⟩) (by simp)
  unfold dell at hd
  split at hd
  case isFalse => cases hd
  rename_i hij
  injection hd with hd
  obtain ⟨i, rfl⟩ := Int.eq_ofNat_of_zero_le hij.1
  obtain ⟨j, rfl⟩ := Int.eq_ofNat_of_zero_le (show 0 ≤ j by omega)
  simp only [Int.ofNat_eq_natCast, Int.toNat_natCast] at hd hij hxs
  have hzl : zs.length = xs.length - (j - i) := by rw [← hd]; simp; omega
  have hcl : cells.length = xs.length * GoTy.n α := ho.1
  have hfl : Fs.length = xs.length := hfit
  refine op_call hf hk hxs hdn (hs w A xs.length cap E0 cells i j ho (row_one (H.rowTrue 0 rfl) ho) (by omega) (by omega)) fun v w' a' hp hf' => ?_
  obtain ⟨rfl, h2, h3⟩ := hp
  rw [← hzl] at h3 hf'
  refine k (Fs.take i ++ Fs.drop j) a' w' hf' ?_
  have H1 := MemZ.perm H (zsR_cons _)
  have hnd := MemZ.nd H1
  rw [allZ_app, allZ_one] at hnd
  have hnd' := (List.nodup_append.1 hnd).1
  have e0 : (Row.res ⟨.ow Fs, E0, A, cap, xs⟩).all = (Value.slice A xs.length cap).ownBlock.toList ++ List.flatten Fs := rfl
  have eb : (Value.slice A zs.length cap).ownBlock = (Value.slice A xs.length cap).ownBlock := by cases A <;> rfl
  have e2 : (Row.res ⟨.ow (Fs.take i ++ Fs.drop j), E0, A, cap, zs⟩).all = (Value.slice A xs.length cap).ownBlock.toList ++ List.flatten (Fs.take i ++ Fs.drop j) := by rw [← eb]; rfl
  have hsl : (Fs.take i ++ Fs.drop j).Sublist Fs := by
    have h1 : (Fs.drop j).Sublist (Fs.drop i) := List.drop_sublist_drop_left _ (by omega)
    have := (List.Sublist.refl (Fs.take i)).append h1
    rwa [List.take_append_drop] at this
  have hfs : (List.flatten (Fs.take i ++ Fs.drop j)).Sublist (List.flatten Fs) := sub_flat hsl
  refine MemZ.perm (MemZ.step (rs' := [Row.res ⟨.ow (Fs.take i ++ Fs.drop j), E0, A, cap, zs⟩]) H1 ⟨h2.os, h2.tape, h2.output, h2.size, fun b hb hx => h2.block b hb fun e => hx ?_⟩ (fun b hb => .inl ?_) (fun b hb => .inl ?_) ?_ (fun hm q hq => ?_)) (zsR_cons _).symm
  · rw [fmZ_one]; show b ∈ (Value.slice A xs.length cap).ownBlock.toList; rw [← e]; simp
  · rw [allZ_one, e2] at hb
    rw [allZ_one, e0]
    exact ((List.Sublist.refl _).append hfs).mem hb
  · rw [fmZ_one] at hb ⊢
    have e : (Row.res ⟨.ow (Fs.take i ++ Fs.drop j), E0, A, cap, zs⟩).fm = (Row.res ⟨.ow Fs, E0, A, cap, xs⟩).fm := by
      show (Value.slice A zs.length cap).ownBlock.toList = (Value.slice A xs.length cap).ownBlock.toList
      rw [eb]
    rw [e] at hb; exact hb
  · rw [allZ_one, e2]
    rw [e0] at hnd'
    exact ((List.Sublist.refl _).append hfs).nodup hnd'
  · rw [List.mem_singleton] at hq; subst hq
    have hlt : ∀ b ∈ List.flatten Fs, b < w.heap.size := fun b hb => (MemZ.lt H1 b (by rw [allZ_app, allZ_one, e0]; exact List.mem_append.2 (.inl (List.mem_append.2 (.inr hb))))).2
    have hsame : ∀ b, b ∈ List.flatten Fs → w'.heap[b]? = w.heap[b]? := fun b hb => by
      refine h2.block b (hlt b hb) fun e => ?_
      have hm : b ∈ (Value.slice A xs.length cap).ownBlock.toList := by rw [← e]; simp
      rw [e0] at hnd'
      exact (List.nodup_append.1 hnd').2.2 b hm b hb rfl
    refine ⟨_, h3, by simp only [Kd.fits, List.length_append, List.length_take, List.length_drop]; omega, fun q e hi Fi hFi => ?_⟩
    simp only at hi
    rw [← hd] at hi
    have htl : (xs.take i).length = i := by rw [List.length_take]; omega
    have htf : (Fs.take i).length = i := by rw [List.length_take]; omega
    rw [List.getElem?_append] at hi hFi
    rw [htl] at hi
    rw [htf] at hFi
    split at hi
    · rename_i hq
      rw [if_pos hq, List.getElem?_take_of_lt hq] at hFi
      rw [List.getElem?_take_of_lt hq] at hi
      rw [part_app1 (take_len hcl (show i ≤ xs.length by omega)) hq, part_take _ hq]
      exact GoTy.own_mono (he q e hi Fi hFi) fun b hb => hsame b (mem_fs hFi hb)
    · rename_i hq
      rw [if_neg hq, List.getElem?_drop] at hFi
      rw [List.getElem?_drop] at hi
      rw [part_app2 (take_len hcl (show i ≤ xs.length by omega)) (by omega), part_drop, Nat.add_comm]
      exact GoTy.own_mono (he _ e hi Fi hFi) fun b hb => hsame b (mem_fs hFi hb)
theorem op_insR {R : List Row} (hf : Fr a n L) {α : Type} [GoTy α] {f : FuncId} {E0 E' : TypeId} {Fs Gs : List (List Nat)} {A A' : Option Addr} {cap cap' : Nat} {xs ys zs : List α} {i : Int}
    (H : Mem w0 S M (⟨.ow Fs, E0, A, cap, xs⟩ :: ⟨.ow Gs, E', A', cap', ys⟩ :: R) D I w) (hk : CL P f) (hs : InsSpec P f (GoTy.n α)) {x y z : Operand} (hxs : evs L [x, y, z] = some [.slice A xs.length cap, .int .i64 i, .slice A' ys.length cap']) {ats : Array TypeId} (hd : insl xs i ys = some zs) (hdn : d < n)
    (k : ∀ Fs' E1 A2 cap2 a' w', Fr a' n ((d, .slice A2 zs.length cap2) :: L) → Mem w0 S M (⟨.ow Fs', E1, A2, cap2, zs⟩ :: R) D I w' → K a' w') : Oper.wp P ⟨some d, .call ⟨.value (.func f), [x, y, z].toArray, ats⟩, ty, pos, af, g⟩ a w K Q := by
  obtain ⟨cells, ho, hfit, he⟩ := H.rowAt (r := ⟨.ow Fs, E0, A, cap, xs⟩) (by simp)
  obtain ⟨cells', ho', hfit', he'⟩ := H.rowAt (r := ⟨.ow Gs, E', A', cap', ys⟩) (by simp)
  unfold insl at hd
  split at hd
  case isFalse => cases hd
  rename_i hij
  injection hd with hd
  obtain ⟨i, rfl⟩ := Int.eq_ofNat_of_zero_le hij.1
  simp only [Int.ofNat_eq_natCast, Int.toNat_natCast] at hd hij hxs
  have hzl : zs.length = xs.length + ys.length := by rw [← hd]; simp; omega
  have hcl : cells.length = xs.length * GoTy.n α := ho.1
  have hcl' : cells'.length = ys.length * GoTy.n α := ho'.1
  have hfl : Fs.length = xs.length := hfit
  have hfl' : Gs.length = ys.length := hfit'
  have hp : (AT.zs M (⟨.ow Fs, E0, A, cap, xs⟩ :: ⟨.ow Gs, E', A', cap', ys⟩ :: R) D).Perm ([Row.res ⟨.ow Fs, E0, A, cap, xs⟩, Row.res ⟨.ow Gs, E', A', cap', ys⟩] ++ AT.zs M R D) := (zsR_cons _).trans ((zsR_cons _).append_left [_])
  have H1 := MemZ.perm H hp
  have hnd := MemZ.nd H1
  rw [allZ_app, allZ_two] at hnd
  have hnd' := (List.nodup_append.1 hnd).1
  have hlt : ∀ b ∈ allZ [Row.res ⟨.ow Fs, E0, A, cap, xs⟩, Row.res ⟨.ow Gs, E', A', cap', ys⟩], b < w.heap.size := fun b hb => (MemZ.lt H1 b (by rw [allZ_app]; exact List.mem_append.2 (.inl hb))).2
  have e0 : (Row.res ⟨.ow Fs, E0, A, cap, xs⟩).all = (Value.slice A xs.length cap).ownBlock.toList ++ List.flatten Fs := rfl
  have e1 : (Row.res ⟨.ow Gs, E', A', cap', ys⟩).all = (Value.slice A' ys.length cap').ownBlock.toList ++ List.flatten Gs := rfl
  rw [e0, e1] at hnd'
  refine op_call hf hk hxs hdn (hs w A A' xs.length cap ys.length cap' E0 E' cells cells' i ho ho' (row_one (H.rowTrue 0 rfl) ho) (row_one (H.rowTrue 1 rfl) ho') (fun b hb hb' => ?_) (by omega) (by omega)) fun v w' a' hp hf' => ?_
  · have h1 : b ∈ (Value.slice A xs.length cap).ownBlock.toList := by rw [hb]; simp
    have h2 : b ∈ (Value.slice A' ys.length cap').ownBlock.toList := by rw [hb']; simp
    exact (List.nodup_append.1 hnd').2.2 b (List.mem_append.2 (.inl h1)) b (List.mem_append.2 (.inl h2)) rfl
  obtain ⟨E1, A2, cap2, rfl, h2, h4, h3⟩ := hp
  rw [← hzl] at h3 hf' h4
  refine k (Fs.take i ++ (Gs ++ Fs.drop i)) E1 A2 cap2 a' w' hf' ?_
  have hperm : (List.flatten (Fs.take i ++ (Gs ++ Fs.drop i))).Perm (List.flatten Fs ++ List.flatten Gs) := by
    have h : List.flatten Fs = List.flatten (Fs.take i) ++ List.flatten (Fs.drop i) := by rw [← List.flatten_append, List.take_append_drop]
    rw [List.flatten_append, List.flatten_append, h, List.append_assoc]
    exact List.perm_append_comm.append_left _
  have e2 : (Row.res ⟨.ow (Fs.take i ++ (Gs ++ Fs.drop i)), E1, A2, cap2, zs⟩).all = (Value.slice A2 zs.length cap2).ownBlock.toList ++ List.flatten (Fs.take i ++ (Gs ++ Fs.drop i)) := rfl
  have hxg : ∀ b, b ∈ (Value.slice A2 zs.length cap2).ownBlock.toList → b ∈ (Value.slice A xs.length cap).ownBlock.toList ∨ (w.heap.size ≤ b ∧ b < w'.heap.size) := fun b hb => by
    rcases h4 with h | ⟨h, h'⟩
    · rw [h] at hb; exact .inl hb
    · rw [h] at hb; simp at hb; subst hb; exact .inr ⟨Nat.le_refl _, h'⟩
  have hflat : (List.flatten Fs ++ List.flatten Gs).Nodup := by
    refine List.Sublist.nodup ?_ hnd'
    exact (List.sublist_append_right _ _).append (List.sublist_append_right _ _)
  refine MemZ.perm (MemZ.step (rs' := [Row.res ⟨.ow (Fs.take i ++ (Gs ++ Fs.drop i)), E1, A2, cap2, zs⟩]) H1 ⟨h2.os, h2.tape, h2.output, h2.size, fun b hb hx => h2.block b hb fun e => hx ?_⟩ (fun b hb => ?_) (fun b hb => ?_) ?_ (fun hm q hq => ?_)) (zsR_cons _).symm
  · rw [fmZ_two]; exact List.mem_append.2 (.inl (by show b ∈ (Value.slice A xs.length cap).ownBlock.toList; rw [← e]; simp))
  · rw [allZ_one, e2] at hb
    rw [allZ_two, e0, e1]
    rcases List.mem_append.1 hb with h | h
    · exact (hxg b h).imp (fun h => List.mem_append.2 (.inl (List.mem_append.2 (.inl h)))) id
    · rcases List.mem_append.1 (hperm.mem_iff.1 h) with h | h
      · exact .inl (List.mem_append.2 (.inl (List.mem_append.2 (.inr h))))
      · exact .inl (List.mem_append.2 (.inr (List.mem_append.2 (.inr h))))
  · rw [fmZ_one] at hb; rw [fmZ_two]
    exact (hxg b hb).imp (fun h => List.mem_append.2 (.inl h)) (·.1)
  · rw [allZ_one, e2]
    refine ((List.Perm.refl _).append hperm).nodup_iff.2 ?_
    rcases h4 with h | ⟨h, h'⟩
    · rw [h]
      refine List.Sublist.nodup ?_ hnd'
      rw [← List.append_assoc]
      exact (List.Sublist.refl _).append (List.sublist_append_right _ _)
    · rw [h]
      simp only [Option.toList_some, List.singleton_append, List.nodup_cons]
      refine ⟨fun hb => ?_, hflat⟩
      have := hlt w.heap.size (by
        rw [allZ_two, e0, e1]
        simp only [List.mem_append] at hb ⊢
        exact hb.imp .inr .inr)
      omega
  · rw [List.mem_singleton] at hq; subst hq
    have hsame : ∀ b, b ∈ List.flatten Fs ++ List.flatten Gs → w'.heap[b]? = w.heap[b]? := fun b hb => by
      refine h2.block b (hlt b ?_) fun e => ?_
      · rw [allZ_two, e0, e1]
        simp only [List.mem_append] at hb ⊢
        exact hb.imp .inr .inr
      · have hm : b ∈ (Value.slice A xs.length cap).ownBlock.toList := by rw [← e]; simp
        rw [List.append_assoc] at hnd'
        refine (List.nodup_append.1 hnd').2.2 b hm b ?_ rfl
        simp only [List.mem_append] at hb ⊢
        exact hb.imp id .inr
    refine ⟨_, h3, by simp only [Kd.fits, List.length_append, List.length_take, List.length_drop]; omega, fun q e hi Fi hFi => ?_⟩
    simp only at hi
    rw [← hd] at hi
    have htl : (xs.take i).length = i := by rw [List.length_take]; omega
    have htf : (Fs.take i).length = i := by rw [List.length_take]; omega
    have htc := take_len hcl (show i ≤ xs.length by omega)
    rw [List.getElem?_append] at hi hFi
    rw [htl] at hi
    rw [htf] at hFi
    split at hi
    · rename_i hq
      rw [if_pos hq, List.getElem?_take_of_lt hq] at hFi
      rw [List.getElem?_take_of_lt hq] at hi
      rw [part_app1 htc hq, part_take _ hq]
      exact GoTy.own_mono (he q e hi Fi hFi) fun b hb => hsame b (List.mem_append.2 (.inl (mem_fs hFi hb)))
    · rename_i hq
      rw [if_neg hq] at hFi
      rw [part_app2 htc (by omega)]
      rw [List.getElem?_append] at hi hFi
      rw [hfl'] at hFi
      split at hi
      · rename_i hq2
        rw [if_pos hq2] at hFi
        rw [part_app1 hcl' hq2]
        exact GoTy.own_mono (he' _ e hi Fi hFi) fun b hb => hsame b (List.mem_append.2 (.inr (mem_fs hFi hb)))
      · rename_i hq2
        rw [if_neg hq2, List.getElem?_drop] at hFi
        rw [List.getElem?_drop] at hi
        rw [part_app2 hcl' (by omega), part_drop, Nat.add_comm]
        exact GoTy.own_mono (he _ e hi Fi hFi) fun b hb => hsame b (List.mem_append.2 (.inl (mem_fs hFi hb)))
end
end AT
namespace AT
open Go Go.RowKit
section
variable {P : Program} {Q : Exit → Act → World → Prop} {a : Act} {w : World} {n : Nat} {L : List (Nat × Value)} {K : Act → World → Prop} {d : Nat} {dst : Option Tmp} {ty : TypeId} {pos : String} {af : Array Edge} {g : Option (Nat × Bool)}
theorem w64_addn {i j : Nat} (h : i + j ≤ 1099511627776) : w64 ((i : Int) + (j : Int)) = ((i + j : Nat) : Int) := by rw [w64_in (by omega) (by omega)]; omega
theorem w64_subn {i j : Nat} (h0 : i ≤ j) (h : j ≤ 1099511627776) : w64 ((j : Int) - (i : Int)) = ((j - i : Nat) : Int) := by rw [w64_in (by omega) (by omega)]; omega
theorem b_lo {len cap i : Nat} (h : i ≤ len) : (Instr.sliceBounds true len cap (some (.int .i64 (i : Int))) none none).run P w = .ok (i, len, cap) w := by
  simp [Instr.sliceBounds, Instr.sliceBound, asIntOf, h]
theorem b_hi {len cap j : Nat} (h : j ≤ cap) : (Instr.sliceBounds true len cap none (some (.int .i64 (j : Int))) none).run P w = .ok (0, j, cap) w := by
  simp [Instr.sliceBounds, Instr.sliceBound, asIntOf, h]
theorem b_lh {len cap i j : Nat} (h0 : i ≤ j) (h : j ≤ cap) : (Instr.sliceBounds true len cap (some (.int .i64 (i : Int))) (some (.int .i64 (j : Int))) none).run P w = .ok (i, j, cap) w := by
  simp [Instr.sliceBounds, Instr.sliceBound, asIntOf, h, h0]
theorem b_lhm {len cap i j m : Nat} (h0 : i ≤ j) (h : j ≤ m) (h2 : m ≤ cap) : (Instr.sliceBounds true len cap (some (.int .i64 (i : Int))) (some (.int .i64 (j : Int))) (some (.int .i64 (m : Int)))).run P w = .ok (i, j, m) w := by
  simp [Instr.sliceBounds, Instr.sliceBound, asIntOf, h, h0, h2]
def cutA (A : Option Addr) (s i m : Nat) : Option Addr := if m = i then A else A.map (·.add (i * s))
theorem run_cut {T E : TypeId} {s : Nat} (hT : P.underlying T = some (.slice E)) (hE : SZ P E s) {A : Option Addr} {len cap : Nat} {lov hiv mxv : Option Value} {i j m : Nat} (hb : ∀ w, (Instr.sliceBounds true len cap lov hiv mxv).run P w = .ok (i, j, m) w) :
    ∀ w, (Instr.sliceAt T (.slice A len cap) lov hiv mxv).run P w = .ok (.slice (cutA A s i m) (j - i) (m - i)) w := by
  intro w
  have hE' : ∀ w, (Go.sizeOf E).run P w = .ok s w := hE
  simp [Instr.sliceAt, Instr.slice, run_underlying hT, hb, hE', cutA]
theorem rq_cut (hf : Fr a n L) {T : TypeId} {x : Operand} {u r : Value} (hx : ev L x = some u) {lo hi mx : Option Operand} {lov hiv mxv : Option Value} (hlo : evo L lo = some lov) (hhi : evo L hi = some hiv) (hmx : evo L mx = some mxv) (h : ∀ w', (Instr.sliceAt T u lov hiv mxv).run P w' = .ok r w') :
    ∀ w, (execOp a.eval ⟨dst, .slice T x lo hi mx, ty, pos, af, g⟩).run P w = .ok (.value r) w := by
  intro w
  simp [execOp, hf.eval hx, evo_map hf hlo, evo_map hf hhi, evo_map hf hmx, h]
theorem cut_some {g o s i m : Nat} (h : m ≠ i) : cutA (some ⟨g, o, none⟩) s i m = some ⟨g, o + i * s, none⟩ := by
  unfold cutA
  rw [if_neg h, Option.map_some, add_lit]
theorem cut_zero {A : Option Addr} {s m : Nat} (hA : ∀ p, A = some p → p.spot = none) : cutA A s 0 m = A := by
  unfold cutA
  split
  · rfl
  · cases A with
    | none => rfl
    | some p =>
      have := hA p rfl
      cases p; simp only at this; subst this
      simp [Addr.add]
structure GS (w0 w : World) (g : Nat) (E : TypeId) (cur : List Value) : Prop where
  os : w.os = w0.os
  tape : w.tape = w0.tape
  output : w.output = w0.output
  size : w0.heap.size ≤ w.heap.size
  old : ∀ k, k < w0.heap.size → k ≠ g → w.heap[k]? = w0.heap[k]?
  at_ : w.heap[g]? = some (.cells cur.toArray E (0, 0))
theorem GS.below {w0 w w1 : World} {g : Nat} {E : TypeId} {cur : List Value} (h : GS w0 w g E cur) (hg : g < w0.heap.size) (hb : Below w.heap.size w w1) : GS w0 w1 g E cur :=
  ⟨hb.os.trans h.os, hb.tape.trans h.tape, hb.output.trans h.output, Nat.le_trans h.size hb.size, fun k hk hne => (hb.block k (by have := h.size; omega)).trans (h.old k hk hne), (hb.block g (by have := h.size; omega)).trans h.at_⟩
theorem GS.below' {w0 w w1 : World} {g : Nat} {E : TypeId} {cur : List Value} (h : GS w0 w g E cur) (hg : g < w.heap.size) (hb : Below w.heap.size w w1) : GS w0 w1 g E cur :=
  ⟨hb.os.trans h.os, hb.tape.trans h.tape, hb.output.trans h.output, Nat.le_trans h.size hb.size, fun k hk hne => (hb.block k (by have := h.size; omega)).trans (h.old k hk hne), (hb.block g hg).trans h.at_⟩
theorem GS.lt {w0 w : World} {g : Nat} {E : TypeId} {cur : List Value} (h : GS w0 w g E cur) : g < w.heap.size := (Array.getElem?_eq_some_iff.1 h.at_).1
theorem GS.set {w0 w : World} {g : Nat} {E : TypeId} {cur : List Value} (h : GS w0 w g E cur) (new : Array Value) : GS w0 (w.setRow g new) g E new.toList :=
  ⟨h.os, h.tape, h.output, by simpa using h.size, fun k hk hne => (setRow_other w g k new hne).trans (h.old k hk hne), by rw [Array.toArray_toList]; exact setRow_heap w g _ new E _ h.at_⟩
theorem GS.cell {w0 w : World} {g : Nat} {E : TypeId} {cur : List Value} (h : GS w0 w g E cur) (j : Nat) : w.cell? ⟨g, j, none⟩ = cur[j]? := by
  simp [World.cell?, h.at_]
theorem GS.start {w : World} {g : Nat} {E : TypeId} {cur : Array Value} (h : w.heap[g]? = some (.cells cur E (0, 0))) : GS w w g E cur.toList :=
  ⟨rfl, rfl, rfl, Nat.le_refl _, fun _ _ _ => rfl, by rw [Array.toArray_toList]; exact h⟩
theorem GS.grown {w0 w : World} {g : Nat} {E : TypeId} {cur : List Value} (h : GS w0 w g E cur) (o : Option Nat) (ho : g < w0.heap.size → o = some g) : w0.grownBy w o :=
  ⟨h.os, h.tape, h.output, h.size, fun k hk hne => h.old k hk fun e => by subst e; exact hne (ho hk).symm⟩
theorem GS.other {w0 w : World} {g b : Nat} {E : TypeId} {cur : List Value} (h : GS w0 w g E cur) (hb : b < w0.heap.size) (hne : b ≠ g) (j : Nat) : w.cell? ⟨b, j, none⟩ = w0.cell? ⟨b, j, none⟩ := by
  simp [World.cell?, h.old b hb hne]
theorem GS.alloc (w : World) (cs : Array Value) (E : TypeId) : GS w (w.drew.alloc (.cells cs E)) w.heap.size E cs.toList :=
  ⟨rfl, rfl, rfl, by simp, fun k hk _ => heap_alloc_old w.drew _ hk, by rw [Array.toArray_toList]; exact heap_alloc_new w.drew _⟩
def lay (cur : List Value) (o : Nat) (cs : List Value) : List Value := cur.take o ++ cs ++ cur.drop (o + cs.length)
theorem lay_len {cur : List Value} {o : Nat} {cs : List Value} (h : o + cs.length ≤ cur.length) : (lay cur o cs).length = cur.length := by
  unfold lay
  simp only [List.length_append, List.length_take, List.length_drop]
  omega
theorem lay_take {cur : List Value} {o : Nat} {cs : List Value} (h : o ≤ cur.length) : (lay cur o cs).take (o + cs.length) = cur.take o ++ cs := by
  unfold lay
  rw [List.take_append_of_le_length (by simp only [List.length_append, List.length_take]; omega)]
  exact List.take_of_length_le (by simp only [List.length_append, List.length_take]; omega)
theorem lay_take_le {cur : List Value} {o k : Nat} {cs : List Value} (h : o ≤ cur.length) (hk : k ≤ o) : (lay cur o cs).take k = cur.take k := by
  unfold lay
  rw [List.append_assoc, List.take_append_of_le_length (by rw [List.length_take]; omega), List.take_take, Nat.min_eq_left hk]
theorem lay_drop {cur : List Value} {o : Nat} {cs : List Value} (h : o ≤ cur.length) : (lay cur o cs).drop o = cs ++ cur.drop (o + cs.length) := by
  unfold lay
  rw [List.append_assoc, List.drop_append_of_le_length (by rw [List.length_take]; omega), List.drop_eq_nil_of_le (by rw [List.length_take]; omega), List.nil_append]
theorem lay_two {cur : List Value} {o : Nat} {vs cs : List Value} (h : o + vs.length + cs.length ≤ cur.length) : (lay (lay cur (o + vs.length) cs) o vs).take (o + vs.length + cs.length) = cur.take o ++ (vs ++ cs) := by
  have hl : (lay cur (o + vs.length) cs).length = cur.length := lay_len h
  have hd := lay_drop (cur := cur) (o := o + vs.length) (cs := cs) (by omega)
  have ht := lay_take_le (cur := cur) (o := o + vs.length) (k := o) (cs := cs) (by omega) (by omega)
  have e : lay (lay cur (o + vs.length) cs) o vs = (lay cur (o + vs.length) cs).take o ++ vs ++ (lay cur (o + vs.length) cs).drop (o + vs.length) := rfl
  rw [e, hd, ht, ← List.append_assoc, List.take_append_of_le_length (by simp only [List.length_append, List.length_take]; omega), List.take_of_length_le (by simp only [List.length_append, List.length_take]; omega), List.append_assoc]
theorem run_clearN {T E E0 : TypeId} {z : Value} {s gb o k c : Nat} {cur : List Value} {w0 : World} (hT : P.underlying T = some (.slice E)) (hZ : ZV P E z) (hz : z.cells.size = s) (h1 : ∀ u ∈ z.cells.toList, u.oneCell' = true) (hs : 0 < s) (hk : 0 < k) (h : GS w0 w gb E0 cur) (hfit : o + k * s ≤ cur.length) :
    ∃ zs : List Value, zs.length = k * s ∧ (Builtin.clear_ #[T] ty #[.slice (some ⟨gb, o, none⟩) k c]).run P w = .ok (.tuple #[]) (w.setRow gb (lay cur o zs).toArray) := by
  have hlen : (Builtin.zeroCells z.cells k).toList.length = k * s := by rw [Array.length_toList, size_zeroCells, hz]
  have hone : ∀ v ∈ (Builtin.zeroCells z.cells k).toList, v.oneCell' = true := by
    intro v hv
    unfold Builtin.zeroCells at hv
    simp only [Array.toList_map, List.mem_map] at hv
    obtain ⟨i, hi, rfl⟩ := hv
    have : i % z.cells.size < z.cells.size := Nat.mod_lt _ (by omega)
    rw [getElem!_pos z.cells _ this]
    exact h1 _ (by simp)
  have hst := run_storeCells_at P gb o E0 (Builtin.zeroCells z.cells k).toList 0 cur.toArray w h.at_ (by simp only [List.size_toArray]; omega) hone
  have hZ' : ∀ w, (zeroValue E).run P w = .ok z w := hZ
  obtain ⟨m, rfl⟩ : ∃ m, k = m + 1 := ⟨k - 1, by omega⟩
  refine ⟨(Builtin.zeroCells z.cells (m + 1)).toList, hlen, ?_⟩
  simp only [Nat.add_zero] at hst
  simp [Builtin.clear_, run_underlying hT, hZ', hst, lay]
theorem run_copyN {T U E E0 : TypeId} {s gb o dLen dCap : Nat} {p : Addr} {sLen sCap k : Nat} {cur cs : List Value} {w0 : World} (hT : P.underlying T = some (.slice E)) (hE : SZ P E s) (h : GS w0 w gb E0 cur) (hk : Nat.min sLen dLen = k) (hl : cs.length = k * s)
    (hsrc : ∀ j v, cs[j]? = some v → w.cell? (p.add j) = some v) (hfit : o + cs.length ≤ cur.length) (h1 : ∀ v ∈ cs, v.oneCell' = true) :
    (Builtin.copy_ #[T, U] ty #[.slice (some ⟨gb, o, none⟩) dLen dCap, .slice (some p) sLen sCap]).run P w = .ok (goInt k) (w.setRow gb (lay cur o cs).toArray) := by
  have hE' : ∀ w, (Go.sizeOf E).run P w = .ok s w := hE
  have hfc := run_firstCells_some (P := P) w s k p sLen sCap cs hl hsrc
  have hst := run_storeCells_at P gb o E0 cs 0 cur.toArray w h.at_ (by simpa using hfit) h1
  simp only [Nat.add_zero] at hst
  simp [Builtin.copy_, run_underlying hT, Builtin.lenOf, hE', hk, hfc, hst, lay]
theorem op_copy_of (hf : Fr a n L) {T U : TypeId} {x y : Operand} {v u : Value} (hx : ev L x = some v) (hy : ev L y = some u) {r : Value} {w' : World} (hr : (Builtin.copy_ #[T, U] ty #[v, u]).run P w = .ok r w') (hdn : d < n)
    (k : ∀ a', Fr a' n ((d, r) :: L) → K a' w') : Oper.wp P ⟨some d, .call ⟨.builtin .copy, #[x, y], #[T, U]⟩, ty, pos, af, g⟩ a w K Q := by
  have h1 : (execOp a.eval ⟨some d, .call ⟨.builtin .copy, #[x, y], #[T, U]⟩, ty, pos, af, g⟩).run P w = .ok (.value r) w' := by
    simp [execOp, resolve, invoke, builtin, hf.eval hx, hf.eval hy, hr]
  unfold Oper.wp
  rw [h1, Oper.upon_value]
  exact k _ (hf.put hdn r)
theorem op_clear_of (hf : Fr a n L) {T : TypeId} {x : Operand} {v : Value} (hx : ev L x = some v) {r : Value} {w' : World} (hr : (Builtin.clear_ #[T] ty #[v]).run P w = .ok r w')
    (k : ∀ a', Fr a' n L → K a' w') : Oper.wp P ⟨none, .call ⟨.builtin .clear, #[x], #[T]⟩, ty, pos, af, g⟩ a w K Q := by
  have h1 : (execOp a.eval ⟨none, .call ⟨.builtin .clear, #[x], #[T]⟩, ty, pos, af, g⟩).run P w = .ok (.value r) w' := by
    simp [execOp, resolve, invoke, builtin, hf.eval hx, hr]
  unfold Oper.wp
  rw [h1, Oper.upon_value]
  exact k _ hf
theorem op_app_of (hf : Fr a n L) {T U : TypeId} {x y : Operand} {v u : Value} (hx : ev L x = some v) (hy : ev L y = some u) {r : Value} {w' : World} (hr : (Builtin.append_ #[T, U] ty #[v, u]).run P w = .ok r w') (hdn : d < n)
    (k : ∀ a', Fr a' n ((d, r) :: L) → K a' w') : Oper.wp P ⟨some d, .call ⟨.builtin .append, #[x, y], #[T, U]⟩, ty, pos, af, g⟩ a w K Q := by
  have h1 : (execOp a.eval ⟨some d, .call ⟨.builtin .append, #[x, y], #[T, U]⟩, ty, pos, af, g⟩).run P w = .ok (.value r) w' := by
    simp [execOp, resolve, invoke, builtin, hf.eval hx, hf.eval hy, hr]
  unfold Oper.wp
  rw [h1, Oper.upon_value]
  exact k _ (hf.put hdn r)
theorem rq_cap (hf : Fr a n L) {T E : TypeId} (hT : P.underlying T = some (.slice E)) {x : Operand} {A : Option Addr} {m c : Nat} (hx : ev L x = some (.slice A m c)) : ∀ w, (execOp a.eval ⟨dst, .call ⟨.builtin .cap, #[x], #[T]⟩, ty, pos, af, g⟩).run P w = .ok (.value (.int .i64 (c : Int))) w := by
  intro w
  simp [execOp, resolve, invoke, builtin, hf.eval hx, Builtin.cap_, run_underlying hT, goInt]
theorem rq_ext (hf : Fr a n L) {f : FuncId} {xs : List Operand} {ats : Array TypeId} {vs : List Value} (hxs : evs L xs = some vs) {r : Value} (h : (callFunc f vs.toArray).run P w = .ok (.value r) w) :
    (execOp a.eval ⟨dst, .call ⟨.value (.func f), xs.toArray, ats⟩, ty, pos, af, g⟩).run P w = .ok (.value r) w := by
  rw [execOp_call_go]
  simp only [Array.empty_append, Array.append_empty, List.map_toArray, hf.evals hxs, h]
theorem apart_run {f : FuncId} {fn : Func} {T TR E : TypeId} {s : Nat} (hf : P.funcs[f]? = some fn) (hname : (fn.name == "runtime.NumGoroutine") = false) (hb : fn.body.isNone = true) (hn : Extern.findNext fn = none) (he : Extern.find fn = some (Extern.SlicesOverlaps.overlaps #[T, T] #[TR])) (hT : P.underlying T = some (.slice E)) (hE : SZ P E s)
    {b gb o la ca lb cb : Nat} (hne : b ≠ gb) {Eb Eg : TypeId} {curb curg : Array Value} (hvb : w.heap[b]? = some (.cells curb Eb (0, 0))) (hvg : w.heap[gb]? = some (.cells curg Eg (0, 0))) (hpos : curg.size ≠ 0) :
    (callFunc f #[.slice (some ⟨b, 0, none⟩) la ca, .slice (some ⟨gb, o, none⟩) lb cb]).run P w = .ok (.value (.bool false)) w := by
  rw [run_callFunc_extern hf hname hb hn he]
  have := Lib.run_overlaps_apart (P := P) w T TR E hT s hE ⟨b, 0, none⟩ ⟨gb, o, none⟩ la ca lb cb hne Eb Eg curb.size curg.size (by simp [World.shape?, hvb]) (by simp [World.shape?, hvg]) hpos (by simp [World.frozen?, hvb]) (by simp [World.frozen?, hvb])
  rw [this]
  rfl
variable {w0 : Base} {S : Nat → Prop} {M : List Blk} {R : List Row} {D : List DI} {I : List (Bool × MP)}
end
end AT

namespace AT
open Go Go.RowKit
section
variable {w w1 w2 : World} {S : Nat → Prop} {M : List Blk} {R : List Row} {D : List DI} {I : List (Bool × MP)}
end
end AT
namespace AT
open Go Go.RowKit
section
variable {w w' w1 : World} {w0 : Base} {S : Nat → Prop} {M : List Blk} {R : List Row} {D : List DI} {I : List (Bool × MP)}
theorem Mem.wroteBoxO (H : Mem w0 S M R D I w) (i : Nat) {b : Nat} {T : TypeId} {cs cs' : List Value} (hi : M[i]? = some ⟨b, T, cs⟩) (hc : Chg w w' [b]) (hb : w'.heap[b]? = some (.cells cs'.toArray T (0, 0)))
    {X : List DI} (hn : (X.flatMap DI.F).Nodup) (hX : ∀ d ∈ X, d.p.pred w' (· ∈ d.F)) (hl : ∀ b ∈ X.flatMap DI.F, w.heap.size ≤ b ∧ b < w'.heap.size) : Mem w0 S (M.set i ⟨b, T, cs'⟩) R (X ++ D) I w' := by
  have hblt : b < w.heap.size := by
    have h := H.boxAt i hi
    rcases Nat.lt_or_ge b w.heap.size with h' | h'
    · exact h'
    · rw [Array.getElem?_eq_none h'] at h; cases h
  have hp1 : (zs (M.set i ⟨b, T, cs'⟩) R (X ++ D)).Perm (([Blk.res ⟨b, T, cs'⟩] ++ X.map DI.res) ++ zs (M.eraseIdx i) R D) := by
    refine (zsM_set (R := R) (D := X ++ D) ⟨b, T, cs'⟩ hi).trans ?_
    rw [List.append_assoc]
    exact (zsD_app X).append_left _
  have ha : allZ ([Blk.res ⟨b, T, cs'⟩] ++ X.map DI.res) = b :: X.flatMap DI.F := by
    rw [allZ_app, allZ_one, allZ_di]; rfl
  have hf : fmZ ([Blk.res ⟨b, T, cs'⟩] ++ X.map DI.res) = [b] := by
    rw [fmZ_app, fmZ_one, fmZ_di]; rfl
  refine MemZ.perm (MemZ.step (rs := [Blk.res ⟨b, T, cs⟩]) (rs' := [Blk.res ⟨b, T, cs'⟩] ++ X.map DI.res) (MemZ.perm H (zsM_out hi)) (hc.sub fun x hx => ?_) (fun x hx => ?_) (fun x hx => ?_) ?_ (fun _ q hq => ?_)) hp1.symm
  · rw [fmZ_one]; simpa [Blk.res] using hx
  · rw [ha] at hx
    rcases List.mem_cons.1 hx with rfl | hx
    · left; rw [allZ_one]; simp [Res.all, Blk.res]
    · exact .inr (hl x hx)
  · rw [hf] at hx
    left; rw [fmZ_one]; simpa [Blk.res] using hx
  · rw [ha]
    exact List.nodup_cons.2 ⟨fun h => by have := (hl b h).1; omega, hn⟩
  · rcases List.mem_append.1 hq with h | h
    · rw [List.mem_singleton] at h; subst h; exact hb
    · obtain ⟨d, hd, rfl⟩ := List.mem_map.1 h
      exact ⟨hX d hd, fun c hc => (hl c (List.mem_flatMap.2 ⟨d, hd, hc⟩)).2⟩
theorem Mem.endsB {X : List DI} {b : Nat} {T : TypeId} {cs : List Value} (H : Mem ⟨w1, [b]⟩ S M R (X ++ D) I w) (i : Nat) (hi : M[i]? = some ⟨b, T, cs⟩) : New w1 w (X.flatMap DI.F) := by
  have H1 := MemZ.perm H (zsD_app X)
  have h1 := MemZ.nd H1
  rw [allZ_app, allZ_di] at h1
  refine ⟨(List.nodup_append.1 h1).1, fun c hc => ?_⟩
  obtain ⟨h2, h3⟩ := MemZ.lt H1 c (by rw [allZ_app, allZ_di]; exact List.mem_append.2 (.inl hc))
  rcases h2 with h2 | h2
  · exact ⟨h2, h3⟩
  · have e := List.mem_singleton.1 h2
    subst e
    exact absurd rfl ((List.nodup_append.1 h1).2.2 c hc c (fm_all (box_fm hi)))
end
section
variable {w w' : World} {w0 : Base} {S S1 : Nat → Prop} {I I' : List (Bool × MP)}
end
section
variable {w w' : World} {w0 : Base} {S S1 : Nat → Prop} {M : List Blk} {R R' : List Row} {D D' : List DI} {I I' : List (Bool × MP)}
end
def NB (b : Nat) : Nat → Prop := fun c => c ≠ b
theorem Mem.nb {w : World} {w0 : Base} {S : Nat → Prop} {M : List Blk} {R : List Row} {D : List DI} {I : List (Bool × MP)} (H : Mem w0 S M R D I w) (i : Nat) {b : Nat} {T : TypeId} {cs0 : List Value} (hi : M[i]? = some ⟨b, T, cs0⟩) {α : Type} [GoTy α] {f : Bool} {cs : List Value} {x : List α} (h : lrep w (St w0 S M R D f) cs x) : lrep w (NB b) cs x :=
  GoTy.mono (α := List α) h fun c hc _ => ⟨fun e => H.notSt i hi f (e ▸ hc), rfl⟩
section
variable {P : Program} {Q : Exit → Act → World → Prop} {a : Act} {w : World} {n : Nat} {L : List (Nat × Value)} {ty : TypeId} {pos : String} {af : Array Edge} {g : Option (Nat × Bool)} {K : Act → World → Prop} {d : Nat}
variable {w0 : Base} {S : Nat → Prop} {M : List Blk} {R : List Row} {D : List DI} {I : List (Bool × MP)}
end
section
variable {P : Program} {Q : Exit → Act → World → Prop} {a : Act} {w : World} {n : Nat} {L : List (Nat × Value)} {dst : Option Tmp} {ty : TypeId} {pos : String} {af : Array Edge} {g : Option (Nat × Bool)} {K : Act → World → Prop} {d : Nat}
variable {w0 : Base} {S : Nat → Prop} {M : List Blk} {R : List Row} {D : List DI} {I : List (Bool × MP)}
theorem tl_cells {α : Type} [GoTy α] {T : Nat → Prop} {cs : List Value} {x : List α} (h : GoTy.rep w T cs (Tl.mk x)) : ∃ A c, cs = [.slice A x.length c] ∧ lrep w T [.slice A x.length c] x := by
  obtain ⟨A, c, rfl, rest⟩ := h
  exact ⟨A, c, rfl, A, c, rfl, rest⟩
theorem own_tl {α : Type} [GoTy α] {F : List Nat} {cs : List Value} {x : List α} (h : GoTy.own w F cs (Tl.mk x)) : ∃ A c, cs = [.slice A x.length c] ∧ town w F [.slice A x.length c] x := by
  obtain ⟨A, c, E, cells, Fs, rfl, rest⟩ := h
  exact ⟨A, c, rfl, A, c, E, cells, Fs, rfl, rest⟩
theorem Mem.tl {α : Type} [GoTy α] {F : List Nat} {cs : List Value} {xs : List α} (H : Mem w0 S M R (⟨F, MP.own F cs xs⟩ :: D) I w) : Mem w0 S M R (⟨F, MP.own F cs (Tl.mk xs)⟩ :: D) I w :=
  H.recast (X := [⟨F, MP.own F cs xs⟩]) (Y := [⟨F, MP.own F cs (Tl.mk xs)⟩]) (List.Perm.refl _) fun h => ps1 (α := Tl α) (town_of (h _ (List.mem_singleton.2 rfl)).1) ps0
theorem Mem.lendTl (H : Mem w0 S M R D I w) (j : Nat) {α : Type} [GoTy α] {F : List Nat} {cs : List Value} {x : List α} (hj : D[j]? = some ⟨F, MP.own F cs (Tl.mk x)⟩) : Mem w0 S M R D ((true, MP.val cs x) :: I) w :=
  (H.lend j hj : Mem w0 S M R D ((true, MP.val cs (Tl.mk x)) :: I) w)
theorem Mem.shrinkD {e e' : DI} (H : Mem w0 S M R (e :: D) I w) (hF : e'.F.Sublist e.F) (hd : e'.p.pred w (· ∈ e'.F)) : Mem w0 S M R (e' :: D) I w := by
  have H1 := MemZ.perm H (zsD_cons e)
  have hall : ∀ e : DI, allZ [e.res] = e.F := fun e => by rw [allZ_one]; rfl
  refine MemZ.perm (MemZ.step (rs := [e.res]) (rs' := [e'.res]) H1 (Chg.refl _ _) (fun b hb => .inl ?_) (fun b hb => ?_) ?_ (fun _ q hq => ?_)) (zsD_cons e').symm
  · rw [hall] at hb ⊢; exact hF.subset hb
  · rw [fmZ_one] at hb; cases hb
  · have h1 := MemZ.nd H1
    rw [allZ_app, hall] at h1
    rw [hall]; exact hF.nodup (List.nodup_append.1 h1).1
  · rw [List.mem_singleton] at hq; subst hq
    exact ⟨hd, fun b hb => (MemZ.lt H1 b (by rw [allZ_app, hall]; exact List.mem_append.2 (.inl (hF.subset hb)))).2⟩
theorem pre_cutTl {α : Type} [GoTy α] {F : List Nat} {A : Option Addr} {len cap : Nat} {xs ys : List α} (H : Mem w0 S M R (⟨F, MP.own F [.slice A len cap] (Tl.mk xs)⟩ :: D) I w) {T E : TypeId} (hT : P.underlying T = some (.slice E)) (hE : SZ P E (GoTy.n α)) {i j : Int} {lov hiv : Option Value}
    (hlo : lov = none ∧ i = 0 ∨ lov = some (.int .i64 i)) (hhi : hiv = none ∧ j = xs.length ∨ hiv = some (.int .i64 j)) (hs : sub xs i j = some ys) :
    ∃ F' A' c', (∀ w', (Instr.sliceAt T (.slice A len cap) lov hiv none).run P w' = .ok (.slice A' ys.length c') w') ∧ Mem w0 S M R (⟨F', MP.own F' [.slice A' ys.length c'] (Tl.mk ys)⟩ :: D) I w := by
  obtain ⟨⟨A', cap', E', cells, Fs, hcs, ho, hF, hl, hel⟩, -⟩ := H.diAt (d := ⟨F, MP.own F [.slice A len cap] (Tl.mk xs)⟩) (by simp)
  simp only [List.cons.injEq, Value.slice.injEq, and_true] at hcs
  obtain ⟨rfl, rfl, rfl⟩ := hcs
  obtain ⟨A', c', hrun, -⟩ := pre_slice (P := P) (H.lendTl 0 rfl) hT hE 0 hlo hhi rfl hs
  unfold sub at hs
  split at hs
  case isFalse => cases hs
  rename_i hb
  obtain ⟨h0, h1, h2⟩ := hb
  injection hs with hs
  have h2' : j.toNat ≤ xs.length := by omega
  have hij : i.toNat ≤ j.toNat := by omega
  have hyl : ys.length = j.toNat - i.toNat := by rw [← hs]; simp; omega
  have hE' : ∀ w, (Go.sizeOf E).run P w = .ok (GoTy.n α) w := hE
  have hcap : xs.length ≤ cap := by
    rcases ho.2 with ⟨hv, hn⟩ | ⟨g, o, cap', cur, hv, -, hnc, -⟩
    · have : xs.length = 0 := hn
      omega
    · simp only [Value.slice.injEq] at hv
      have h3 : xs.length ≤ cap' := hnc
      omega
  have hv : Value.slice (cutA A (GoTy.n α) i.toNat cap) ys.length (cap - i.toNat) = .slice A' ys.length c' := by
    have hj : (j.toNat : Int) = j := Int.toNat_of_nonneg (by omega)
    have hi : (i.toNat : Int) = i := Int.toNat_of_nonneg h0
    have e1 := hrun w
    have e2 : (Instr.sliceAt T (.slice A xs.length cap) lov hiv none).run P w = .ok (.slice (cutA A (GoTy.n α) i.toNat cap) (j.toNat - i.toNat) (cap - i.toNat)) w := by
      refine run_cut hT hE (fun w' => ?_) w
      rcases hlo with ⟨q1, rfl⟩ | q1 <;> rcases hhi with ⟨q2, q3⟩ | q2 <;> rw [q1, q2]
      · subst q3; simp [Instr.sliceBounds]
      · simp [Instr.sliceBounds, Instr.sliceBound, asIntOf, show 0 ≤ j by omega, show j ≤ cap by omega]
      · subst q3; simp [Instr.sliceBounds, Instr.sliceBound, asIntOf, h0, h1]
      · simp [Instr.sliceBounds, Instr.sliceBound, asIntOf, h0, show 0 ≤ j by omega, show j ≤ cap by omega, hj, h1]
    rw [e2, ← hyl] at e1
    injection e1 with e1
  refine ⟨(Value.slice A' ys.length c').ownBlock.toList ++ List.flatten ((Fs.drop i.toNat).take (j.toNat - i.toNat)), A', c', hrun, ?_⟩
  rw [← hv]
  have hob : (Value.slice (cutA A (GoTy.n α) i.toNat cap) ys.length (cap - i.toNat)).ownBlock = (Value.slice A xs.length cap).ownBlock := by
    unfold cutA
    split
    · cases A <;> rfl
    · cases A with
      | none => rfl
      | some p => simp [Value.ownBlock, block_add]
  refine H.shrinkD ?_ ⟨⟨_, _, E', (cells.drop (i.toNat * GoTy.n α)).take ((j.toNat - i.toNat) * GoTy.n α), (Fs.drop i.toNat).take (j.toNat - i.toNat), rfl, ?_, rfl, ?_, fun k x Fk hx hFk => ?_⟩, fun b hb => hb⟩
  · show List.Sublist _ F
    rw [hF, hob]
    exact (List.Sublist.refl _).append (sub_flat ((List.take_sublist _ _).trans (List.drop_sublist _ _)))
  · have hcl : cells.length = xs.length * GoTy.n α := ho.1
    have m1 : i.toNat * GoTy.n α + (j.toNat - i.toNat) * GoTy.n α = j.toNat * GoTy.n α := by rw [← Nat.add_mul]; congr 1; omega
    have m2 : j.toNat * GoTy.n α ≤ xs.length * GoTy.n α := Nat.mul_le_mul_right _ h2'
    refine ⟨?_, ?_⟩
    · show _ = ys.length * _
      rw [List.length_take, List.length_drop, hcl, hyl]; omega
    rcases ho.2 with ⟨hv0, hn⟩ | ⟨g, o, cap', cur, hv0, hg, hnc, hcm, hsz, htk⟩
    · left
      have hx0 : xs.length = 0 := hn
      simp only [Value.slice.injEq] at hv0
      obtain ⟨rfl, -, rfl⟩ := hv0
      have hy0 : ys.length = 0 := by omega
      refine ⟨?_, hy0⟩
      show Value.slice (cutA none _ _ _) ys.length _ = _
      rw [hy0]
      unfold cutA
      split
      · simp
      · simp
    · right
      simp only [Value.slice.injEq] at hv0
      obtain ⟨rfl, -, rfl⟩ := hv0
      show ∃ g' o' cap' cur', Value.slice (cutA (some ⟨g, o, none⟩) (GoTy.n α) i.toNat cap) ys.length (cap - i.toNat) = _ ∧ _
      by_cases hc : cap = i.toNat
      · have hy0 : ys.length = 0 := by omega
        refine ⟨g, o, 0, cur, ?_, hg, by show ys.length ≤ 0; omega, Nat.zero_le _, by omega, ?_⟩
        · unfold cutA
          rw [if_pos hc, hc, Nat.sub_self]
        · have e : j.toNat - i.toNat = 0 := by omega
          show List.take (ys.length * _) _ = _
          rw [hy0, e, Nat.zero_mul, List.take_zero, List.take_zero]
      · have m3 : i.toNat * GoTy.n α + (cap - i.toNat) * GoTy.n α = cap * GoTy.n α := by rw [← Nat.add_mul]; congr 1; omega
        refine ⟨g, o + i.toNat * GoTy.n α, cap - i.toNat, cur, by rw [cut_some hc], hg, by show ys.length ≤ _; omega, by omega, by omega, ?_⟩
        show List.take (ys.length * _) _ = _
        rw [← htk, hyl, ← List.drop_drop, List.drop_take, List.take_take]
        congr 1
        show _ = min _ (xs.length * _ - _)
        omega
  · show ((Fs.drop i.toNat).take (j.toNat - i.toNat)).length = ys.length
    have : Fs.length = xs.length := hl
    rw [List.length_take, List.length_drop, hyl]; omega
  · have hx' : ys[k]? = some x := hx
    have hk : k < j.toNat - i.toNat := by have := (List.getElem?_eq_some_iff.1 hx').1; omega
    rw [List.getElem?_take_of_lt hk, List.getElem?_drop] at hFk
    have hxx : xs[i.toNat + k]? = some x := by
      rw [← hs] at hx'
      first
        | (rw [List.getElem?_take_of_lt (by omega), List.getElem?_drop] at hx'; exact hx')
        | (rw [List.getElem?_drop, List.getElem?_take_of_lt (by omega)] at hx'; exact hx')
    rw [part_take _ hk, part_drop, Nat.add_comm]
    exact hel _ x Fk hxx hFk
theorem op_cutTl (hf : Fr a n L) {α : Type} [GoTy α] {F : List Nat} {A : Option Addr} {len cap : Nat} {xs ys : List α} (H : Mem w0 S M R (⟨F, MP.own F [.slice A len cap] (Tl.mk xs)⟩ :: D) I w) {T E : TypeId} (hT : P.underlying T = some (.slice E)) (hE : SZ P E (GoTy.n α)) {x : Operand} {lo hi : Option Operand} {i j : Int} {lov hiv : Option Value}
    (hx : ev L x = some (.slice A len cap)) (hl : evo L lo = some lov) (hh : evo L hi = some hiv) (hlo : lov = none ∧ i = 0 ∨ lov = some (.int .i64 i)) (hhi : hiv = none ∧ j = xs.length ∨ hiv = some (.int .i64 j)) (hs : sub xs i j = some ys) (hdn : d < n)
    (k : ∀ F' A' c' a', Fr a' n ((d, .slice A' ys.length c') :: L) → Mem w0 S M R (⟨F', MP.own F' [.slice A' ys.length c'] (Tl.mk ys)⟩ :: D) I w → K a' w) : Oper.wp P ⟨some d, .slice T x lo hi none, ty, pos, af, g⟩ a w K Q := by
  obtain ⟨F', A', c', hr, H'⟩ := pre_cutTl H hT hE hlo hhi hs
  exact op_q hf (rq_sliceE hf hx hl hh hr w) rfl hdn fun a' hf' => k F' A' c' a' hf' H'
end
end AT

namespace AT
open Go Go.RowKit
section
variable {w w' w1 : World} {w0 : Base} {S : Nat → Prop} {M : List Blk} {R : List Row} {D : List DI} {I : List (Bool × MP)}
end
section
variable {P : Program} {l : List Oper} {S : World → Prop} {a : Act} {w : World} {B : List Nat} {fuel : Nat} {bs : List Bool}
end
section
variable {P : Program} {a : Act} {w : World} {n : Nat} {L : List (Nat × Value)} {dst : Option Tmp} {ty : TypeId} {pos : String} {af : Array Edge} {g : Option (Nat × Bool)}
end
end AT

namespace AT
open Go Go.RowKit
section
variable {w w' w1 : World} {w0 : Base} {S : Nat → Prop} {M : List Blk} {R : List Row} {D : List DI} {I : List (Bool × MP)}
end
section
variable {P : Program} {Q : Exit → Act → World → Prop} {a : Act} {w : World} {n : Nat} {L : List (Nat × Value)} {ty : TypeId} {pos : String} {af : Array Edge} {g : Option (Nat × Bool)} {K : Act → World → Prop} {d : Nat}
variable {w0 : Base} {S : Nat → Prop} {M : List Blk} {R : List Row} {D : List DI} {I : List (Bool × MP)}
end
section
variable {w : World} {w0 : Base} {S : Nat → Prop} {M : List Blk} {R : List Row} {D : List DI} {I : List (Bool × MP)}
end
end AT
