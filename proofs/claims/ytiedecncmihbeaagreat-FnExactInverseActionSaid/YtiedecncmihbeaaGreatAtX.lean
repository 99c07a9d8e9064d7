/- Regions that draw their order: what only reads is taken first, as long as what is read has not been written (the operations B write). -/
import Derived.Test.YtiedecncmihbeaaGreatAtV
set_option linter.unusedSimpArgs false
set_option linter.unusedVariables false
namespace AT
open Go Go.RowKit

section
variable {P : Program} {md : Region.Mode} {ops : Array Oper} {Q : Exit → Act → World → Prop} {S : World → Prop} {B : List Nat}

def nb (B : List Nat) (listed : Array Bool) : Bool := B.all fun b => !listed.getD b true
def wpL (P : Program) (md : Region.Mode) (ops : Array Oper) (Q : Exit → Act → World → Prop) (S : World → Prop) (B : List Nat) : Nat → Array Bool → Act → World → Prop
  | 0, listed, a, w => Region.ready md ops listed = [] ∧ Q .normal a w
  | fuel + 1, listed, a, w => (Region.ready md ops listed = [] → Q .normal a w) ∧
    ∀ i ∈ Region.ready md ops listed, wpOp P ops Q i (fun a' w' => (nb B (listed.setIfInBounds i true) = true → S w') ∧ wpL P md ops Q S B fuel (listed.setIfInBounds i true) a' w') a w
theorem wpAny_of_wpL : ∀ (fuel : Nat) (listed : Array Bool) (a : Act) (w : World), wpL P md ops Q S B fuel listed a w → wpAny P md ops Q fuel listed a w
  | 0, _, _, _, h => h
  | fuel + 1, _, _, _, h => ⟨h.1, fun i hi => wpOp_mono (fun a' w' h' => wpAny_of_wpL fuel _ a' w' h'.2) (h.2 i hi)⟩

theorem getD_other {l : Array Bool} {i j : Nat} (h : j ≠ i) : (l.setIfInBounds j true).getD i true = l.getD i true := getD_set_ne true h

theorem nb_set {i : Nat} (hi : i ∉ B) (l : Array Bool) : nb B (l.setIfInBounds i true) = nb B l := by
  have h : ∀ b ∈ B, (l.setIfInBounds i true).getD b true = l.getD b true := fun b hb => getD_other fun e => hi (e ▸ hb)
  rw [Bool.eq_iff_iff]
  unfold nb
  simp only [List.all_eq_true]
  exact ⟨fun g b hb => by rw [← h b hb]; exact g b hb, fun g b hb => by rw [h b hb]; exact g b hb⟩

theorem wpL_first {i : Nat} {oi : Oper} {v : Value} (S0 : World → Prop) (X : List Nat) (hi : ops[i]? = some oi) (hsel : ∀ (j : Nat) (o : Oper) cs b, ops[j]? = some o → o.op ≠ .select cs b)
    (hQ : ∀ c a w, Q (.panic c) (a.put oi.dst v) w → Q (.panic c) a w)
    (hX : ∀ j oj, j ∈ X → j ≠ i → ops[j]? = some oj → ∃ e ∈ oj.after, Region.binds md e = true ∧ e.on ∈ X) (hiB : i ∉ B) (hBX : (∀ w, S0 w) ∨ ((∀ b ∈ B, b ∈ X) ∧ ∀ w, S w → S0 w)) :
    ∀ (fuel : Nat) (listed : Array Bool) (a : Act) (w : World),
      (∀ j oj, ops[j]? = some oj → j ≠ i → listed.getD j true = false → (∀ e ∈ oj.after, Region.binds md e = true → e.on ≠ i) → oi.apart ops oj = true) →
      (∀ x ∈ X, listed.getD x true = false) → i ∈ Region.ready md ops listed → YieldsIf P ops S0 oi v a → S0 w → (nb B listed = true → S w) →
      wpL P md ops Q S B fuel (listed.setIfInBounds i true) (a.put oi.dst v) w → wpL P md ops Q S B (fuel + 1) listed a w := by
  intro fuel
  have hnb : ∀ (listed : Array Bool), nb B (listed.setIfInBounds i true) = true → nb B listed = true := fun listed h => by rwa [nb_set hiB] at h
  induction fuel with
  | zero =>
    intro listed a w _ _ hr hy hS0 hS H
    refine ⟨fun h => (by rw [h] at hr; cases hr), fun j hj => ?_⟩
    by_cases hji : j = i
    · subst hji; exact hy.wpOp hi hS0 ⟨fun h => hS (hnb _ h), H⟩
    · have := ready_mono hj hji
      rw [H.1] at this
      cases this
  | succ fuel ih =>
    intro listed a w hfree hXu hr hy hS0 hS H
    refine ⟨fun h => (by rw [h] at hr; cases hr), fun j hj => ?_⟩
    by_cases hji : j = i
    · subst hji; exact hy.wpOp hi hS0 ⟨fun h => hS (hnb _ h), H⟩
    · have h1 := H.2 j (ready_mono hj hji)
      obtain ⟨hjun, oj, hoj, hall⟩ := mem_ready.1 hj
      have hlisted : ∀ k, k < listed.size ∨ True := fun _ => .inr trivial
      have hnot : ∀ e ∈ oj.after, Region.binds md e = true → listed.getD e.on true = false → False := fun e he hb h0 => by
        have h1 := hall e he hb
        rcases Nat.lt_or_ge e.on listed.size with h' | h'
        · simp [h'] at h0 h1; rw [h0] at h1; cases h1
        · simp [Array.getElem?_eq_none h'] at h1
      have hnoti : ∀ e ∈ oj.after, Region.binds md e = true → e.on ≠ i := fun e he hb heq => hnot e he hb (by rw [heq]; exact (mem_ready.1 hr).1)
      have hjX : j ∉ X := fun h => by
        obtain ⟨e, he, hb, heX⟩ := hX j oj h hji hoj
        exact hnot e he hb (hXu _ heX)
      have h2 := wpOp_putIf hoj (hfree j oj hoj hji hjun hnoti) (fun cs b => hsel i oi cs b hi) (fun cs b => hsel j oj cs b hoj) hQ hy h1
      have hfree' : ∀ k ok, ops[k]? = some ok → k ≠ i → (listed.setIfInBounds j true).getD k true = false →
          (∀ e ∈ ok.after, Region.binds md e = true → e.on ≠ i) → oi.apart ops ok = true := fun k ok hk hki hun hno => by
        refine hfree k ok hk hki ?_ hno
        by_cases hjk : j = k
        · subst hjk; exact hjun
        · rw [getD_set_ne true hjk] at hun; exact hun
      refine wpOp_mono (fun a' w' h3 => ?_) h2
      obtain ⟨h4, h5, h6⟩ := h3
      have hS' : nb B (listed.setIfInBounds j true) = true → S w' := fun h => h5 (by rw [Array.setIfInBounds_comm _ _ (Ne.symm hji), nb_set hiB]; exact h)
      refine ⟨hS', ih (listed.setIfInBounds j true) a' w' hfree' (fun x hx => ?_) (ready_mono hr (Ne.symm hji)) h4 ?_ hS' ?_⟩
      · rw [getD_other (fun e => hjX (by rw [e]; exact hx))]; exact hXu x hx
      · rcases hBX with hall0 | ⟨hBX, hSS⟩
        · exact hall0 w'
        · refine hSS w' (hS' ?_)
          unfold nb
          rw [List.all_eq_true]
          intro b hb
          rw [getD_other (fun e => hjX (by rw [e]; exact hBX b hb))]
          rcases Nat.lt_or_ge b listed.size with h' | h'
          · have := hXu b (hBX b hb); simp [h'] at this ⊢; exact this
          · have := hXu b (hBX b hb); simp [h'] at this
      · rw [Array.setIfInBounds_comm _ _ hji]
        exact h6
end

section
variable {P : Program} {S : World → Prop} {B : List Nat} {l : List Oper} {bs bs' : List Bool} {a : Act} {w : World} {n fuel d i : Nat} {L : List (Nat × Value)} {Mid : Act → World → Prop} {Q : Exit → Act → World → Prop} {o : Oper} {v : Value}

def only (Mid : Act → World → Prop) : Exit → Act → World → Prop := fun e a w => e = .normal ∧ Mid a w
abbrev DL (P : Program) (l : List Oper) (Mid : Act → World → Prop) (S : World → Prop) (B : List Nat) (fuel : Nat) (bs : List Bool) (a : Act) (w : World) : Prop := wpL P .any l.toArray (only Mid) S B fuel bs.toArray a w

theorem drawn {id : Nat} (B : List Nat) (hm : P.follows .mixedOrders = true) (hb : List.replicate l.length false = bs) (hn : l.length = fuel) (h : ∀ w1, Below w.heap.size w w1 → DL P l (fun a w => Q .normal a w) (fun _ => True) B fuel bs a w1) : (Code.region id l.toArray true).wp P Q a w := by
  have h1 : (Code.region id l.toArray true).wp P (only fun a w => Q .normal a w) a w := wp_region_any hm (wpAny_of_wpL (S := fun _ => True) (B := B) _ _ _ _ (by
    have e1 : l.toArray.size = fuel := by simpa using hn
    have e2 : Array.replicate l.toArray.size false = bs.toArray := by rw [← hb]; simp
    rw [e2, e1]; exact h _ ((Below.refl _ _).drew)))
  exact Code.wp_mono (fun e a w q => by obtain ⟨rfl, q⟩ := q; exact q) h1
theorem wpL_str {md : Region.Mode} {ops : Array Oper} {S S' : World → Prop} (hs : ∀ w, S' w → S w) : ∀ (fuel : Nat) (listed : Array Bool) (a : Act) (w : World), wpL P md ops Q S' B fuel listed a w → wpL P md ops Q S B fuel listed a w
  | 0, _, _, _, h => h
  | fuel + 1, _, _, _, h => ⟨h.1, fun i hi => wpOp_mono (fun a' w' h' => ⟨fun hn => hs _ (h'.1 hn), wpL_str hs fuel _ a' w' h'.2⟩) (h.2 i hi)⟩
theorem str (S' : World → Prop) (hs : ∀ w, S' w → S w) (h : DL P l Mid S' B fuel bs a w) : DL P l Mid S B fuel bs a w := wpL_str hs _ _ _ _ h

def takeB (l : List Oper) (bs : List Bool) (i : Nat) (X B : List Nat) : Bool :=
  Region.noSelect l.toArray && (Region.free .any l.toArray bs.toArray i && ((Region.ready .any l.toArray bs.toArray).contains i && (X.all (fun x => !bs.getD x true) && (X.all (fun j => j == i || (match l[j]? with | some oj => oj.after.any (fun e => Region.binds .any e && X.contains e.on) | none => true)) && !B.contains i))))

theorem set_bs (hb : bs.set i true = bs') : bs.toArray.setIfInBounds i true = bs'.toArray := by subst hb; simp

theorem take_ {S0 : World → Prop} (X : List Nat) (hi : l[i]? = some o) (hd : o.dst = some d) (hdn : d < n) (hf : Fr a n L) (hc : takeB l bs i X B = true) (hBX : (∀ w, S0 w) ∨ ((∀ b ∈ B, b ∈ X) ∧ ∀ w, S w → S0 w)) (hS0 : S0 w) (hS : nb B bs.toArray = true → S w)
    (hy : YieldsIf P l.toArray S0 o v a) (hb : bs.set i true = bs') (h : ∀ a', Fr a' n ((d, v) :: L) → DL P l Mid S B fuel bs' a' w) : DL P l Mid S B (fuel + 1) bs a w := by
  unfold takeB at hc
  simp only [Bool.and_eq_true] at hc
  obtain ⟨h1, h2, h3, h4, h5, h6⟩ := hc
  have hi' : l.toArray[i]? = some o := by simpa using hi
  refine wpL_first S0 X hi' (Region.noSelect_spec h1) (fun c a w q => by cases q.1) (fun j oj hj hji hoj => ?_) (by simpa using h6) hBX fuel bs.toArray a w (Region.free_spec hi' h2) (fun x hx => ?_) (by simpa using h3) hy hS0 hS ?_
  · have := List.all_eq_true.1 h5 j hj
    have hoj' : l[j]? = some oj := by simpa using hoj
    rw [hoj'] at this
    simp only [Bool.or_eq_true, beq_iff_eq, hji, false_or, Array.any_eq_true, Bool.and_eq_true] at this
    obtain ⟨q, hq, h7, h8⟩ := this
    exact ⟨_, Array.getElem_mem hq, h7, by simpa using h8⟩
  · have := List.all_eq_true.1 h4 x hx
    simp only [Bool.not_eq_true', List.getD_eq_getElem?_getD] at this
    simpa using this
  · rw [set_bs hb, hd]
    exact h _ (hf.put hdn v)

theorem tkP (hi : l[i]? = some o) (hd : o.dst = some d) (hg : o.guard = none) (hdn : d < n) (hf : Fr a n L) (hc : takeB l bs i [] B = true) (hS : nb B bs.toArray = true → S w) (hy : ∀ w, (execOp a.eval o).run P w = .ok (.value v) w) (hb : bs.set i true = bs')
    (h : ∀ a', Fr a' n ((d, v) :: L) → DL P l Mid S B fuel bs' a' w) : DL P l Mid S B (fuel + 1) bs a w :=
  take_ (S0 := fun _ => True) [] hi hd hdn hf hc (.inl fun _ => trivial) trivial hS (.inl ⟨by simp [Region.wanted, hg], fun w _ => hy w⟩) hb h
theorem tkS (X : List Nat) (hi : l[i]? = some o) (hd : o.dst = some d) (hg : o.guard = none) (hdn : d < n) (hf : Fr a n L) (hc : takeB l bs i X B = true) (hBX : (B.all (X.contains ·)) = true) (hS : S w) (hy : ∀ w, S w → (execOp a.eval o).run P w = .ok (.value v) w) (hb : bs.set i true = bs')
    (h : ∀ a', Fr a' n ((d, v) :: L) → DL P l Mid S B fuel bs' a' w) : DL P l Mid S B (fuel + 1) bs a w :=
  take_ (S0 := S) X hi hd hdn hf hc (.inr ⟨fun b hb => by simpa using List.all_eq_true.1 hBX b hb, fun _ h => h⟩) hS (fun _ => hS) (.inl ⟨by simp [Region.wanted, hg], hy⟩) hb h
theorem tkPg {j e : Nat} {b : Bool} (hi : l[i]? = some o) (hd : o.dst = some d) (hg : o.guard = some (j, b)) (hj : (l[j]?).bind (·.dst) = some e) (hv : lk L e = some (.bool b)) (hdn : d < n) (hf : Fr a n L) (hc : takeB l bs i [] B = true) (hS : nb B bs.toArray = true → S w) (hy : ∀ w, (execOp a.eval o).run P w = .ok (.value v) w) (hb : bs.set i true = bs')
    (h : ∀ a', Fr a' n ((d, v) :: L) → DL P l Mid S B fuel bs' a' w) : DL P l Mid S B (fuel + 1) bs a w :=
  take_ (S0 := fun _ => True) [] hi hd hdn hf hc (.inl fun _ => trivial) trivial hS (.inl ⟨by simp [Region.wanted, hg, yielded_of (ops := l.toArray) hf (by simpa using hj) hv], fun w _ => hy w⟩) hb h
theorem tkSg {j e : Nat} {b : Bool} (X : List Nat) (hi : l[i]? = some o) (hd : o.dst = some d) (hg : o.guard = some (j, b)) (hj : (l[j]?).bind (·.dst) = some e) (hv : lk L e = some (.bool b)) (hdn : d < n) (hf : Fr a n L) (hc : takeB l bs i X B = true) (hBX : (B.all (X.contains ·)) = true) (hS : S w) (hy : ∀ w, S w → (execOp a.eval o).run P w = .ok (.value v) w) (hb : bs.set i true = bs')
    (h : ∀ a', Fr a' n ((d, v) :: L) → DL P l Mid S B fuel bs' a' w) : DL P l Mid S B (fuel + 1) bs a w :=
  take_ (S0 := S) X hi hd hdn hf hc (.inr ⟨fun b hb => by simpa using List.all_eq_true.1 hBX b hb, fun _ h => h⟩) hS (fun _ => hS) (.inl ⟨by simp [Region.wanted, hg, yielded_of (ops := l.toArray) hf (by simpa using hj) hv], hy⟩) hb h
theorem yielded_undef {ops : Array Oper} (hf : Fr a n L) {j d : Nat} (hj : (ops[j]?).bind (·.dst) = some d) (hb : lk L d = some undef) : yielded ops a.tmps j = none := by
  unfold yielded
  simp [hj, hf.get d _ hb, undef]
theorem wlsu {Q : Exit → Act → World → Prop} {ops : Array Oper} {rest : List Oper} {j d e : Nat} {b : Bool} (hf : Fr a n L) (hg : o.guard = some (j, b)) (hj : (ops[j]?).bind (·.dst) = some d) (hb : lk L d = some undef)
    (hd : o.dst = some e) (hdn : e < n) (h : ∀ a', Fr a' n ((e, undef) :: L) → wpList P ops Q rest a' w) : wpList P ops Q (o :: rest) a w := by
  unfold wpList
  rw [if_neg (by simp [Region.wanted, hg, yielded_undef hf hj hb])]
  rw [hd]
  exact h _ (hf.put hdn undef)
theorem tkUU {j e : Nat} {b : Bool} (hi : l[i]? = some o) (hd : o.dst = some d) (hg : o.guard = some (j, b)) (hj : (l[j]?).bind (·.dst) = some e) (hv : lk L e = some undef) (hdn : d < n) (hf : Fr a n L) (hc : takeB l bs i [] B = true) (hS : nb B bs.toArray = true → S w) (hb : bs.set i true = bs')
    (h : ∀ a', Fr a' n ((d, undef) :: L) → DL P l Mid S B fuel bs' a' w) : DL P l Mid S B (fuel + 1) bs a w :=
  take_ (S0 := fun _ => True) (v := undef) [] hi hd hdn hf hc (.inl fun _ => trivial) trivial hS (.inr ⟨by simp [Region.wanted, hg, yielded_undef (ops := l.toArray) hf (by simpa using hj) hv], rfl⟩) hb h
theorem tkU {j e : Nat} {b c : Bool} (hi : l[i]? = some o) (hd : o.dst = some d) (hg : o.guard = some (j, b)) (hj : (l[j]?).bind (·.dst) = some e) (hv : lk L e = some (.bool c)) (hne : (c == b) = false) (hdn : d < n) (hf : Fr a n L) (hc : takeB l bs i [] B = true) (hS : nb B bs.toArray = true → S w) (hb : bs.set i true = bs')
    (h : ∀ a', Fr a' n ((d, undef) :: L) → DL P l Mid S B fuel bs' a' w) : DL P l Mid S B (fuel + 1) bs a w :=
  take_ (S0 := fun _ => True) (v := undef) [] hi hd hdn hf hc (.inl fun _ => trivial) trivial hS (.inr ⟨by simp [Region.wanted, hg, yielded_of (ops := l.toArray) hf (by simpa using hj) hv]; simpa using hne, rfl⟩) hb h

theorem on1 (hr : Region.ready .any l.toArray bs.toArray = [i]) (hi : l[i]? = some o) (hg : o.guard = none) (hb : bs.set i true = bs')
    (h : o.wp P a w (fun a' w' => (nb B bs'.toArray = true → S w') ∧ DL P l Mid S B fuel bs' a' w') (only Mid)) : DL P l Mid S B (fuel + 1) bs a w := by
  refine ⟨fun h0 => (by rw [hr] at h0; cases h0), fun j hj => ?_⟩
  rw [hr, List.mem_singleton] at hj
  subst hj
  unfold wpOp
  have hi' : l.toArray[j]? = some o := by simpa using hi
  simp only [hi', Region.wanted, hg]
  rw [set_bs hb]
  exact .inl h
theorem on1g {j e : Nat} {b : Bool} (hr : Region.ready .any l.toArray bs.toArray = [i]) (hi : l[i]? = some o) (hg : o.guard = some (j, b)) (hj : (l[j]?).bind (·.dst) = some e) (hv : lk L e = some (.bool b)) (hf : Fr a n L) (hb : bs.set i true = bs')
    (h : o.wp P a w (fun a' w' => (nb B bs'.toArray = true → S w') ∧ DL P l Mid S B fuel bs' a' w') (only Mid)) : DL P l Mid S B (fuel + 1) bs a w := by
  refine ⟨fun h0 => (by rw [hr] at h0; cases h0), fun q hq => ?_⟩
  rw [hr, List.mem_singleton] at hq
  subst hq
  unfold wpOp
  have hi' : l.toArray[q]? = some o := by simpa using hi
  have hw : Region.wanted o (yielded l.toArray a.tmps) = true := by simp [Region.wanted, hg, yielded_of (ops := l.toArray) hf (by simpa using hj) hv]
  simp only [hi', hw, if_true]
  rw [set_bs hb]
  exact .inl h
theorem pre_iaddr {w0 : Base} {S : Nat → Prop} {M : List Blk} {R : List Row} {D : List DI} {I : List (Bool × MP)} (H : Mem w0 S M R D I w) {α : Type} [GoTy α] {T E : TypeId} (hT : P.underlying T = some (.slice E)) (hE : SZ P E (GoTy.n α)) {A : Option Addr} {len cap : Nat} {i : Int} {xs : List α} {e : α} {f : Bool}
    (j : Nat) (hi : I[j]? = some (f, MP.val [.slice A len cap] xs)) (he : idx xs i = some e) :
    ∃ b o cs, (∀ w' k, (Instr.indexAt T (.slice A len cap) (.int k i)).run P w' = .ok (.pointer (some ⟨b, o, none⟩)) w') ∧ GoTy.rep w (St w0 S M R D f) cs e ∧ Mem w0 S M R D ((f, MP.cells ⟨b, o, none⟩ cs) :: I) w := by
  obtain ⟨A', cap', hcs, hlc, hcm, hel⟩ : lrep w (St w0 S M R D f) [.slice A len cap] xs := H.get j hi
  obtain ⟨h0, hl, hg⟩ := idx_lt he
  simp only [List.cons.injEq, Value.slice.injEq, and_true] at hcs
  obtain ⟨rfl, rfl, rfl⟩ := hcs
  obtain ⟨p, rfl, hp, cs, hc, hr⟩ := hel _ _ hg
  have hlt : p.block < w.heap.size := ElemAt.lt (S := St w0 S M R D f) (i := i.toNat) (x := e) ⟨cs, hc, hr⟩
  have hlen := GoTy.len hr
  have hpos := GoTy.pos (α := α)
  have hq : p.add (i.toNat * GoTy.n α) = ⟨p.block, (p.add (i.toNat * GoTy.n α)).off, none⟩ := by
    have h0 := hc 0 _ (List.getElem?_eq_getElem (by omega))
    rw [Nat.add_zero] at h0
    have hs : (p.add (i.toNat * GoTy.n α)).spot = none := by
      unfold World.cell? at h0
      cases hsp : (p.add (i.toNat * GoTy.n α)).spot with
      | none => rfl
      | some s =>
        rw [hsp] at h0
        split at h0 <;> simp at h0
    rw [← block_add p (i.toNat * GoTy.n α)]
    generalize p.add (i.toNat * GoTy.n α) = q at hs
    cases q; simp only at hs; subst hs; rfl
  refine ⟨p.block, (p.add (i.toNat * GoTy.n α)).off, cs, fun w' k => ?_, hr, H.push _ ⟨hp, hlt, fun q c hq' => by rw [← hq, add_add]; exact hc q c hq'⟩⟩
  rw [← hq]
  exact run_indexAt (P := P) (w := w') (cap := cap) hT hE h0 hl (p := p) (k := k)
theorem rq_iaddrE {T : TypeId} {x y : Operand} {u v r : Value} {dst : Option Tmp} {ty : TypeId} {pos : String} {af : Array Edge} {g : Option (Nat × Bool)} (hf : Fr a n L) (hx : ev L x = some u) (hy : ev L y = some v) {k : IntKind} {i : Int} (hv : v = .int k i) (h : ∀ w' k, (Instr.indexAt T u (.int k i)).run P w' = .ok r w') :
    ∀ w, (execOp a.eval ⟨dst, .indexAddr T x y, ty, pos, af, g⟩).run P w = .ok (.value r) w := by
  intro w
  subst hv
  simp [execOp, hf.eval hx, hf.eval hy, h]
theorem dn (hr : Region.ready .any l.toArray bs.toArray = []) (h : Mid a w) : DL P l Mid S B fuel bs a w := by
  cases fuel with
  | zero => exact ⟨hr, rfl, h⟩
  | succ k => exact ⟨fun _ => ⟨rfl, h⟩, by rw [hr]; simp⟩
end
end AT

