/- Regions that draw their order: what only reads is taken first, as long as what is read has not been written (the operations B write). -/
import Derived.Test.YtmokfdffnijbbaaGreatAtD
import Derived.Test.YtmokfdffnijbbaaGreatAtR
import Derived.Laws.BytesString
import Derived.Lib.AppendZerosOnto
import Derived.Lib.Overlaps
set_option linter.unusedSimpArgs false
set_option linter.unusedVariables false
namespace AT
open Go Go.RowKit
section
variable {P : Program} {md : Region.Mode} {ops : Array Oper} {Q : Exit → Act → World → Prop} {S : World → Prop} {B : List Nat}
def nb (B : List Nat) (listed : Array Bool) : Bool := B.all fun b => !listed.getD b true
def wpL (P : Program) (md : Region.Mode) (ops : Array Oper) (Q : Exit → Act → World → Prop) (S : World → Prop) (B : List Nat) : Nat → Array Bool → Act → World → Prop
  | 0, listed, a, w => Region.ready md ops listed = [] ∧ Q .normal a w
  | fuel + 1, listed, a, w => (Region.ready md ops listed = [] → Q .normal a w) ∧
    ∀ i ∈ Region.ready md ops listed, wpOp P ops Q i (fun a' w' => (nb B (listed.setIfInBounds i true) = true → S w') ∧ wpL P md ops Q S B fuel (listed.setIfInBounds i true) a' w') a w
theorem wpAny_of_wpL : ∀ (fuel : Nat) (listed : Array Bool) (a : Act) (w : World), wpL P md ops Q S B fuel listed a w → wpAny P md ops Q fuel listed a w
  | 0, _, _, _, h => h
  | fuel + 1, _, _, _, h => ⟨h.1, fun i hi => wpOp_mono (fun a' w' h' => wpAny_of_wpL fuel _ a' w' h'.2) (h.2 i hi)⟩
theorem getD_other {l : Array Bool} {i j : Nat} (h : j ≠ i) : (l.setIfInBounds j true).getD i true = l.getD i true := getD_set_ne true h
theorem nb_set {i : Nat} (hi : i ∉ B) (l : Array Bool) : nb B (l.setIfInBounds i true) = nb B l := by
  have h : ∀ b ∈ B, (l.setIfInBounds i true).getD b true = l.getD b true := fun b hb => getD_other fun e => hi (e ▸ hb)
  rw [Bool.eq_iff_iff]
  unfold nb
  simp only [List.all_eq_true]
  exact ⟨fun g b hb => by rw [← h b hb]; exact g b hb, fun g b hb => by rw [h b hb]; exact g b hb⟩
theorem wpL_first {i : Nat} {oi : Oper} {v : Value} (S0 : World → Prop) (X : List Nat) (hi : ops[i]? = some oi) (hsel : ∀ (j : Nat) (o : Oper) cs b, ops[j]? = some o → o.op ≠ .select cs b)
    (hQ : ∀ c a w, Q (.panic c) (a.put oi.dst v) w → Q (.panic c) a w)
    (hX : ∀ j oj, j ∈ X → j ≠ i → ops[j]? = some oj → ∃ e ∈ oj.after, Region.binds md e = true ∧ e.on ∈ X) (hiB : i ∉ B) (hBX : (∀ w, S0 w) ∨ ((∀ b ∈ B, b ∈ X) ∧ ∀ w, S w → S0 w)) :
    ∀ (fuel : Nat) (listed : Array Bool) (a : Act) (w : World),
      (∀ j oj, ops[j]? = some oj → j ≠ i → listed.getD j true = false → (∀ e ∈ oj.after, Region.binds md e = true → e.on ≠ i) → oi.apart ops oj = true) →
      (∀ x ∈ X, listed.getD x true = false) → i ∈ Region.ready md ops listed → YieldsIf P ops S0 oi v a → S0 w → (nb B listed = true → S w) →
      wpL P md ops Q S B fuel (listed.setIfInBounds i true) (a.put oi.dst v) w → wpL P md ops Q S B (fuel + 1) listed a w := by
  intro fuel
  have hnb : ∀ (listed : Array Bool), nb B (listed.setIfInBounds i true) = true → nb B listed = true := fun listed h => by rwa [nb_set hiB] at h
  induction fuel with
  | zero =>
    intro listed a w _ _ hr hy hS0 hS H
    refine ⟨fun h => (by rw [h] at hr; cases hr), fun j hj => ?_⟩
    by_cases hji : j = i
    · subst hji; exact hy.wpOp hi hS0 ⟨fun h => hS (hnb _ h), H⟩
    · have := ready_mono hj hji
      rw [H.1] at this
      cases this
  | succ fuel ih =>
    intro listed a w hfree hXu hr hy hS0 hS H
    refine ⟨fun h => (by rw [h] at hr; cases hr), fun j hj => ?_⟩
    by_cases hji : j = i
    · subst hji; exact hy.wpOp hi hS0 ⟨fun h => hS (hnb _ h), H⟩
    · have h1 := H.2 j (ready_mono hj hji)
      obtain ⟨hjun, oj, hoj, hall⟩ := mem_ready.1 hj
      have hlisted : ∀ k, k < listed.size ∨ True := fun _ => .inr trivial
      have hnot : ∀ e ∈ oj.after, Region.binds md e = true → listed.getD e.on true = false → False := fun e he hb h0 => by
        have h1 := hall e he hb
        rcases Nat.lt_or_ge e.on listed.size with h' | h'
        · simp [h'] at h0 h1; rw [h0] at h1; cases h1
        · simp [Array.getElem?_eq_none h'] at h1
      have hnoti : ∀ e ∈ oj.after, Region.binds md e = true → e.on ≠ i := fun e he hb heq => hnot e he hb (by rw [heq]; exact (mem_ready.1 hr).1)
      have hjX : j ∉ X := fun h => by
        obtain ⟨e, he, hb, heX⟩ := hX j oj h hji hoj
        exact hnot e he hb (hXu _ heX)
      have h2 := wpOp_putIf hoj (hfree j oj hoj hji hjun hnoti) (fun cs b => hsel i oi cs b hi) (fun cs b => hsel j oj cs b hoj) hQ hy h1
      have hfree' : ∀ k ok, ops[k]? = some ok → k ≠ i → (listed.setIfInBounds j true).getD k true = false →
          (∀ e ∈ ok.after, Region.binds md e = true → e.on ≠ i) → oi.apart ops ok = true := fun k ok hk hki hun hno => by
        refine hfree k ok hk hki ?_ hno
        by_cases hjk : j = k
        · subst hjk; exact hjun
        · rw [getD_set_ne true hjk] at hun; exact hun
      refine wpOp_mono (fun a' w' h3 => ?_) h2
      obtain ⟨h4, h5, h6⟩ := h3
      have hS' : nb B (listed.setIfInBounds j true) = true → S w' := fun h => h5 (by rw [Array.setIfInBounds_comm _ _ (Ne.symm hji), nb_set hiB]; exact h)
      refine ⟨hS', ih (listed.setIfInBounds j true) a' w' hfree' (fun x hx => ?_) (ready_mono hr (Ne.symm hji)) h4 ?_ hS' ?_⟩
      · rw [getD_other (fun e => hjX (by rw [e]; exact hx))]; exact hXu x hx
      · rcases hBX with hall0 | ⟨hBX, hSS⟩
        · exact hall0 w'
        · refine hSS w' (hS' ?_)
          unfold nb
          rw [List.all_eq_true]
          intro b hb
          rw [getD_other (fun e => hjX (by rw [e]; exact hBX b hb))]
          rcases Nat.lt_or_ge b listed.size with h' | h'
          · have := hXu b (hBX b hb); simp [h'] at this ⊢; exact this
          · have := hXu b (hBX b hb); simp [h'] at this
      · rw [Array.setIfInBounds_comm _ _ hji]
        exact h6
end
section
variable {P : Program} {S : World → Prop} {B : List Nat} {l : List Oper} {bs bs' : List Bool} {a : Act} {w : World} {n fuel d i : Nat} {L : List (Nat × Value)} {Mid : Act → World → Prop} {Q : Exit → Act → World → Prop} {o : Oper} {v : Value}
def only (Mid : Act → World → Prop) : Exit → Act → World → Prop := fun e a w => e = .normal ∧ Mid a w
abbrev DL (P : Program) (l : List Oper) (Mid : Act → World → Prop) (S : World → Prop) (B : List Nat) (fuel : Nat) (bs : List Bool) (a : Act) (w : World) : Prop := wpL P .any l.toArray (only Mid) S B fuel bs.toArray a w
theorem drawn {id : Nat} (B : List Nat) (hm : P.follows .mixedOrders = true) (hb : List.replicate l.length false = bs) (hn : l.length = fuel) (h : ∀ w1, Below w.heap.size w w1 → DL P l (fun a w => Q .normal a w) (fun _ => True) B fuel bs a w1) : (Code.region id l.toArray true).wp P Q a w := by
  have h1 : (Code.region id l.toArray true).wp P (only fun a w => Q .normal a w) a w := wp_region_any hm (wpAny_of_wpL (S := fun _ => True) (B := B) _ _ _ _ (by
    have e1 : l.toArray.size = fuel := by simpa using hn
    have e2 : Array.replicate l.toArray.size false = bs.toArray := by rw [← hb]; simp
    rw [e2, e1]; exact h _ ((Below.refl _ _).drew)))
  exact Code.wp_mono (fun e a w q => by obtain ⟨rfl, q⟩ := q; exact q) h1
theorem wpL_str {md : Region.Mode} {ops : Array Oper} {S S' : World → Prop} (hs : ∀ w, S' w → S w) : ∀ (fuel : Nat) (listed : Array Bool) (a : Act) (w : World), wpL P md ops Q S' B fuel listed a w → wpL P md ops Q S B fuel listed a w
  | 0, _, _, _, h => h
  | fuel + 1, _, _, _, h => ⟨h.1, fun i hi => wpOp_mono (fun a' w' h' => ⟨fun hn => hs _ (h'.1 hn), wpL_str hs fuel _ a' w' h'.2⟩) (h.2 i hi)⟩
theorem str (S' : World → Prop) (hs : ∀ w, S' w → S w) (h : DL P l Mid S' B fuel bs a w) : DL P l Mid S B fuel bs a w := wpL_str hs _ _ _ _ h
def takeB (l : List Oper) (bs : List Bool) (i : Nat) (X B : List Nat) : Bool :=
  Region.noSelect l.toArray && (Region.free .any l.toArray bs.toArray i && ((Region.ready .any l.toArray bs.toArray).contains i && (X.all (fun x => !bs.getD x true) && (X.all (fun j => j == i || (match l[j]? with | some oj => oj.after.any (fun e => Region.binds .any e && X.contains e.on) | none => true)) && !B.contains i))))
theorem set_bs (hb : bs.set i true = bs') : bs.toArray.setIfInBounds i true = bs'.toArray := by subst hb; simp
theorem take_ {S0 : World → Prop} (X : List Nat) (hi : l[i]? = some o) (hd : o.dst = some d) (hdn : d < n) (hf : Fr a n L) (hc : takeB l bs i X B = true) (hBX : (∀ w, S0 w) ∨ ((∀ b ∈ B, b ∈ X) ∧ ∀ w, S w → S0 w)) (hS0 : S0 w) (hS : nb B bs.toArray = true → S w)
    (hy : YieldsIf P l.toArray S0 o v a) (hb : bs.set i true = bs') (h : ∀ a', Fr a' n ((d, v) :: L) → DL P l Mid S B fuel bs' a' w) : DL P l Mid S B (fuel + 1) bs a w := by
  unfold takeB at hc
  simp only [Bool.and_eq_true] at hc
  obtain ⟨h1, h2, h3, h4, h5, h6⟩ := hc
  have hi' : l.toArray[i]? = some o := by simpa using hi
  refine wpL_first S0 X hi' (Region.noSelect_spec h1) (fun c a w q => by cases q.1) (fun j oj hj hji hoj => ?_) (by simpa using h6) hBX fuel bs.toArray a w (Region.free_spec hi' h2) (fun x hx => ?_) (by simpa using h3) hy hS0 hS ?_
  · have := List.all_eq_true.1 h5 j hj
    have hoj' : l[j]? = some oj := by simpa using hoj
    rw [hoj'] at this
    simp only [Bool.or_eq_true, beq_iff_eq, hji, false_or, Array.any_eq_true, Bool.and_eq_true] at this
    obtain ⟨q, hq, h7, h8⟩ := this
    exact ⟨_, Array.getElem_mem hq, h7, by simpa using h8⟩
  · have := List.all_eq_true.1 h4 x hx
    simp only [Bool.not_eq_true', List.getD_eq_getElem?_getD] at this
    simpa using this
  · rw [set_bs hb, hd]
    exact h _ (hf.put hdn v)
theorem tkP (hi : l[i]? = some o) (hd : o.dst = some d) (hg : o.guard = none) (hdn : d < n) (hf : Fr a n L) (hc : takeB l bs i [] B = true) (hS : nb B bs.toArray = true → S w) (hy : ∀ w, (execOp a.eval o).run P w = .ok (.value v) w) (hb : bs.set i true = bs')
    (h : ∀ a', Fr a' n ((d, v) :: L) → DL P l Mid S B fuel bs' a' w) : DL P l Mid S B (fuel + 1) bs a w :=
  take_ (S0 := fun _ => True) [] hi hd hdn hf hc (.inl fun _ => trivial) trivial hS (.inl ⟨by simp [Region.wanted, hg], fun w _ => hy w⟩) hb h
theorem tkS (X : List Nat) (hi : l[i]? = some o) (hd : o.dst = some d) (hg : o.guard = none) (hdn : d < n) (hf : Fr a n L) (hc : takeB l bs i X B = true) (hBX : (B.all (X.contains ·)) = true) (hS : S w) (hy : ∀ w, S w → (execOp a.eval o).run P w = .ok (.value v) w) (hb : bs.set i true = bs')
    (h : ∀ a', Fr a' n ((d, v) :: L) → DL P l Mid S B fuel bs' a' w) : DL P l Mid S B (fuel + 1) bs a w :=
  take_ (S0 := S) X hi hd hdn hf hc (.inr ⟨fun b hb => by simpa using List.all_eq_true.1 hBX b hb, fun _ h => h⟩) hS (fun _ => hS) (.inl ⟨by simp [Region.wanted, hg], hy⟩) hb h
theorem tkPg {j e : Nat} {b : Bool} (hi : l[i]? = some o) (hd : o.dst = some d) (hg : o.guard = some (j, b)) (hj : (l[j]?).bind (·.dst) = some e) (hv : lk L e = some (.bool b)) (hdn : d < n) (hf : Fr a n L) (hc : takeB l bs i [] B = true) (hS : nb B bs.toArray = true → S w) (hy : ∀ w, (execOp a.eval o).run P w = .ok (.value v) w) (hb : bs.set i true = bs')
    (h : ∀ a', Fr a' n ((d, v) :: L) → DL P l Mid S B fuel bs' a' w) : DL P l Mid S B (fuel + 1) bs a w :=
  take_ (S0 := fun _ => True) [] hi hd hdn hf hc (.inl fun _ => trivial) trivial hS (.inl ⟨by simp [Region.wanted, hg, yielded_of (ops := l.toArray) hf (by simpa using hj) hv], fun w _ => hy w⟩) hb h
theorem tkSg {j e : Nat} {b : Bool} (X : List Nat) (hi : l[i]? = some o) (hd : o.dst = some d) (hg : o.guard = some (j, b)) (hj : (l[j]?).bind (·.dst) = some e) (hv : lk L e = some (.bool b)) (hdn : d < n) (hf : Fr a n L) (hc : takeB l bs i X B = true) (hBX : (B.all (X.contains ·)) = true) (hS : S w) (hy : ∀ w, S w → (execOp a.eval o).run P w = .ok (.value v) w) (hb : bs.set i true = bs')
    (h : ∀ a', Fr a' n ((d, v) :: L) → DL P l Mid S B fuel bs' a' w) : DL P l Mid S B (fuel + 1) bs a w :=
  take_ (S0 := S) X hi hd hdn hf hc (.inr ⟨fun b hb => by simpa using List.all_eq_true.1 hBX b hb, fun _ h => h⟩) hS (fun _ => hS) (.inl ⟨by simp [Region.wanted, hg, yielded_of (ops := l.toArray) hf (by simpa using hj) hv], hy⟩) hb h
theorem yielded_undef {ops : Array Oper} (hf : Fr a n L) {j d : Nat} (hj : (ops[j]?).bind (·.dst) = some d) (hb : lk L d = some undef) : yielded ops a.tmps j = none := by
  unfold yielded
  simp [hj, hf.get d _ hb, undef]
theorem wlsu {Q : Exit → Act → World → Prop} {ops : Array Oper} {rest : List Oper} {j d e : Nat} {b : Bool} (hf : Fr a n L) (hg : o.guard = some (j, b)) (hj : (ops[j]?).bind (·.dst) = some d) (hb : lk L d = some undef)
    (hd : o.dst = some e) (hdn : e < n) (h : ∀ a', Fr a' n ((e, undef) :: L) → wpList P ops Q rest a' w) : wpList P ops Q (o :: rest) a w := by
  unfold wpList
  rw [if_neg (by simp [Region.wanted, hg, yielded_undef hf hj hb])]
  rw [hd]
  exact h _ (hf.put hdn undef)
theorem tkUU {j e : Nat} {b : Bool} (hi : l[i]? = some o) (hd : o.dst = some d) (hg : o.guard = some (j, b)) (hj : (l[j]?).bind (·.dst) = some e) (hv : lk L e = some undef) (hdn : d < n) (hf : Fr a n L) (hc : takeB l bs i [] B = true) (hS : nb B bs.toArray = true → S w) (hb : bs.set i true = bs')
    (h : ∀ a', Fr a' n ((d, undef) :: L) → DL P l Mid S B fuel bs' a' w) : DL P l Mid S B (fuel + 1) bs a w :=
  take_ (S0 := fun _ => True) (v := undef) [] hi hd hdn hf hc (.inl fun _ => trivial) trivial hS (.inr ⟨by simp [Region.wanted, hg, yielded_undef (ops := l.toArray) hf (by simpa using hj) hv], rfl⟩) hb h
theorem tkU {j e : Nat} {b c : Bool} (hi : l[i]? = some o) (hd : o.dst = some d) (hg : o.guard = some (j, b)) (hj : (l[j]?).bind (·.dst) = some e) (hv : lk L e = some (.bool c)) (hne : (c == b) = false) (hdn : d < n) (hf : Fr a n L) (hc : takeB l bs i [] B = true) (hS : nb B bs.toArray = true → S w) (hb : bs.set i true = bs')
    (h : ∀ a', Fr a' n ((d, undef) :: L) → DL P l Mid S B fuel bs' a' w) : DL P l Mid S B (fuel + 1) bs a w :=
  take_ (S0 := fun _ => True) (v := undef) [] hi hd hdn hf hc (.inl fun _ => trivial) trivial hS (.inr ⟨by simp [Region.wanted, hg, yielded_of (ops := l.toArray) hf (by simpa using hj) hv]; simpa using hne, rfl⟩) hb h
theorem on1 (hr : Region.ready .any l.toArray bs.toArray = [i]) (hi : l[i]? = some o) (hg : o.guard = none) (hb : bs.set i true = bs')
    (h : o.wp P a w (fun a' w' => (nb B bs'.toArray = true → S w') ∧ DL P l Mid S B fuel bs' a' w') (only Mid)) : DL P l Mid S B (fuel + 1) bs a w := by
  refine ⟨fun h0 => (by rw [hr] at h0; cases h0), fun j hj => ?_⟩
  rw [hr, List.mem_singleton] at hj
  subst hj
  unfold wpOp
  have hi' : l.toArray[j]? = some o := by simpa using hi
  simp only [hi', Region.wanted, hg]
  rw [set_bs hb]
  exact .inl h
theorem on1g {j e : Nat} {b : Bool} (hr : Region.ready .any l.toArray bs.toArray = [i]) (hi : l[i]? = some o) (hg : o.guard = some (j, b)) (hj : (l[j]?).bind (·.dst) = some e) (hv : lk L e = some (.bool b)) (hf : Fr a n L) (hb : bs.set i true = bs')
    (h : o.wp P a w (fun a' w' => (nb B bs'.toArray = true → S w') ∧ DL P l Mid S B fuel bs' a' w') (only Mid)) : DL P l Mid S B (fuel + 1) bs a w := by
  refine ⟨fun h0 => (by rw [hr] at h0; cases h0), fun q hq => ?_⟩
  rw [hr, List.mem_singleton] at hq
  subst hq
  unfold wpOp
  have hi' : l.toArray[q]? = some o := by simpa using hi
  have hw : Region.wanted o (yielded l.toArray a.tmps) = true := by simp [Region.wanted, hg, yielded_of (ops := l.toArray) hf (by simpa using hj) hv]
  simp only [hi', hw, if_true]
  rw [set_bs hb]
  exact .inl h
theorem pre_iaddr {w0 : Base} {S : Nat → Prop} {M : List Blk} {R : List Row} {D : List DI} {I : List (Bool × MP)} (H : Mem w0 S M R D I w) {α : Type} [GoTy α] {T E : TypeId} (hT : P.underlying T = some (.slice E)) (hE : SZ P E (GoTy.n α)) {A : Option Addr} {len cap : Nat} {i : Int} {xs : List α} {e : α} {f : Bool}
    (j : Nat) (hi : I[j]? = some (f, MP.val [.slice A len cap] xs)) (he : idx xs i = some e) :
    ∃ b o cs, (∀ w' k, (Instr.indexAt T (.slice A len cap) (.int k i)).run P w' = .ok (.pointer (some ⟨b, o, none⟩)) w') ∧ GoTy.rep w (St w0 S M R D f) cs e ∧ Mem w0 S M R D ((f, MP.cells ⟨b, o, none⟩ cs) :: I) w := by
  obtain ⟨A', cap', hcs, hlc, hcm, hel⟩ : lrep w (St w0 S M R D f) [.slice A len cap] xs := H.get j hi
  obtain ⟨h0, hl, hg⟩ := idx_lt he
  simp only [List.cons.injEq, Value.slice.injEq, and_true] at hcs
  obtain ⟨rfl, rfl, rfl⟩ := hcs
  obtain ⟨p, rfl, hp, cs, hc, hr⟩ := hel _ _ hg
  have hlt : p.block < w.heap.size := ElemAt.lt (S := St w0 S M R D f) (i := i.toNat) (x := e) ⟨cs, hc, hr⟩
  have hlen := GoTy.len hr
  have hpos := GoTy.pos (α := α)
  have hq : p.add (i.toNat * GoTy.n α) = ⟨p.block, (p.add (i.toNat * GoTy.n α)).off, none⟩ := by
    have h0 := hc 0 _ (List.getElem?_eq_getElem (by omega))
    rw [Nat.add_zero] at h0
    have hs : (p.add (i.toNat * GoTy.n α)).spot = none := by
      unfold World.cell? at h0
      cases hsp : (p.add (i.toNat * GoTy.n α)).spot with
      | none => rfl
      | some s =>
        rw [hsp] at h0
        split at h0 <;> simp at h0
    rw [← block_add p (i.toNat * GoTy.n α)]
    generalize p.add (i.toNat * GoTy.n α) = q at hs
    cases q; simp only at hs; subst hs; rfl
  refine ⟨p.block, (p.add (i.toNat * GoTy.n α)).off, cs, fun w' k => ?_, hr, H.push _ ⟨hp, hlt, fun q c hq' => by rw [← hq, add_add]; exact hc q c hq'⟩⟩
  rw [← hq]
  exact run_indexAt (P := P) (w := w') (cap := cap) hT hE h0 hl (p := p) (k := k)
theorem rq_iaddrE {T : TypeId} {x y : Operand} {u v r : Value} {dst : Option Tmp} {ty : TypeId} {pos : String} {af : Array Edge} {g : Option (Nat × Bool)} (hf : Fr a n L) (hx : ev L x = some u) (hy : ev L y = some v) {k : IntKind} {i : Int} (hv : v = .int k i) (h : ∀ w' k, (Instr.indexAt T u (.int k i)).run P w' = .ok r w') :
    ∀ w, (execOp a.eval ⟨dst, .indexAddr T x y, ty, pos, af, g⟩).run P w = .ok (.value r) w := by
  intro w
  subst hv
  simp [execOp, hf.eval hx, hf.eval hy, h]
theorem dn (hr : Region.ready .any l.toArray bs.toArray = []) (h : Mid a w) : DL P l Mid S B fuel bs a w := by
  cases fuel with
  | zero => exact ⟨hr, rfl, h⟩
  | succ k => exact ⟨fun _ => ⟨rfl, h⟩, by rw [hr]; simp⟩
end
end AT

namespace AT
open Go Go.RowKit
section
variable {P : Program} {Q : Exit → Act → World → Prop} {a : Act} {w : World} {n : Nat} {L : List (Nat × Value)} {dst : Option Tmp} {ty : TypeId} {pos : String} {af : Array Edge} {g : Option (Nat × Bool)} {K : Act → World → Prop} {d : Nat}
variable {w0 : Base} {S : Nat → Prop} {M : List Blk} {R : List Row} {D : List DI} {I : List (Bool × MP)}
theorem rq_makeFunc (hf : Fr a n L) {fn : Fn} {xs : List Operand} {vs : List Value} (hx : evs L xs = some vs) :
    (execOp a.eval ⟨dst, .makeFunc fn #[] xs.toArray, ty, pos, af, g⟩).run P w = .ok (.value (.func fn #[] vs.toArray)) w := by
  simp [execOp, Instr.makeFunc, hf.evals hx]
theorem op_callV (hf : Fr a n L) {f : FuncId} (hk : CL P f) {x : Operand} {ca : List Value} (hx : ev L x = some (.func (.func f) #[] ca.toArray)) {xs : List Operand} {ats : Array TypeId} {vs : List Value} (hxs : evs L xs = some vs) (hdn : d < n) {Post : Value → World → Prop}
    (hc : Calls P f (vs ++ ca).toArray w fun e w' => ∃ v, e = .returned v ∧ Post v w') (k : ∀ v w' a', Post v w' → Fr a' n ((d, v) :: L) → K a' w') :
    Oper.wp P ⟨some d, .call ⟨.value x, xs.toArray, ats⟩, ty, pos, af, g⟩ a w K Q := by
  have hk' : ∀ args w, (callFunc f args).run P w = .ok (.enter f args) w := hk
  have h1 : execOp a.eval ⟨some d, .call ⟨.value x, xs.toArray, ats⟩, ty, pos, af, g⟩ = callFunc f (vs ++ ca).toArray := by
    simp [execOp, resolve, Deferred.ofValue, hf.eval hx, hf.evals hxs, invoke]
  unfold Oper.wp
  rw [h1, hk', Oper.upon_enter]
  refine hc.mono fun e w' ⟨v, he, hp⟩ => ?_
  subst he
  exact k v w' _ hp (hf.put hdn v)
theorem Mem.boxTrue (H : Mem w0 S M R D I w) (i : Nat) {b : Nat} {T : TypeId} {cs : List Value} (hi : M[i]? = some ⟨b, T, cs⟩) : (MP.cells ⟨b, 0, none⟩ cs).pred w (fun _ => True) := by
  have h : w.heap[b]? = some (.cells cs.toArray T (0, 0)) := MemZ.ok H (Blk.res ⟨b, T, cs⟩) (List.mem_append.2 (.inl (List.mem_map.2 ⟨_, List.mem_of_getElem? hi, rfl⟩)))
  refine ⟨trivial, ?_, fun j c hc => ?_⟩
  · rcases Nat.lt_or_ge b w.heap.size with h' | h'
    · exact h'
    · rw [Array.getElem?_eq_none h'] at h; cases h
  · rw [add_lit, Nat.zero_add, H.cell hi]; exact hc
theorem mp_true {p : MP} {T : Nat → Prop} (h : p.pred w T) : p.pred w (fun _ => True) := p.mono h fun _ _ _ => ⟨trivial, rfl⟩
end
end AT

namespace AT
open Go Go.RowKit
section
variable {P : Program} {Q : Exit → Act → World → Prop} {a : Act} {w w' w1 : World} {n : Nat} {L : List (Nat × Value)} {dst : Option Tmp} {ty : TypeId} {pos : String} {af : Array Edge} {g : Option (Nat × Bool)} {K : Act → World → Prop} {d : Nat}
variable {w0 : Base} {S : Nat → Prop} {M : List Blk} {R : List Row} {D : List DI} {I : List (Bool × MP)}
theorem op_makeO (hf : Fr a n L) (H : Mem w0 S M R D I w) {α : Type} [GoTy α] {T E : TypeId} {z : Value} {bytes : Nat} (hT : P.underlying T = some (.slice E)) (hE : AI P E (GoTy.n α) z bytes) (hz : z.cells.size = GoTy.n α) (hby : bytes ≤ 128) {x y : Operand} {i : Int} {z0 : α} {xs : List α}
    (hx : ev L x = some (.int .i64 i)) (hy : ev L y = some (.int .i64 i)) (hz0 : ∀ w, GoTy.own w [] z.cells.toList z0) (hmk : mk z0 i = some xs) (hdn : d < n)
    (k : ∀ A c Fs a' w', Fr a' n ((d, .slice A xs.length c) :: L) → Mem w0 S M (⟨.ow Fs, E, A, c, xs⟩ :: R) D I w' → K a' w') : Oper.wp P ⟨some d, .makeSlice T x y, ty, pos, af, g⟩ a w K Q := by
  unfold mk at hmk
  split at hmk
  case isFalse => cases hmk
  rename_i hi
  injection hmk with hmk
  subst hmk
  obtain ⟨inf, hinf, hpr⟩ := Option.map_eq_some_iff.1 hE
  simp only [Prod.mk.injEq] at hpr
  obtain ⟨hz1, hz2, hz3⟩ := hpr
  have hb : (inf.bytes : Int) * i ≤ 281474976710656 := by
    rw [hz3]
    have h1 : (bytes : Int) * i ≤ 128 * i := Int.mul_le_mul_of_nonneg_right (by omega) hi.1
    omega
  have hr := run_make (P := P) w T E inf z hT hinf hz1 .i64 .i64 i i hi.1 (Int.le_refl _) hb (by omega)
  have h1 : (execOp a.eval ⟨some d, .makeSlice T x y, ty, pos, af, g⟩).run P w = .ok (.value (.slice (some ⟨w.heap.size, 0, none⟩) i.toNat i.toNat)) (w.alloc (.cells (madeCells z.cells (i.toNat * inf.size)) E)) := by
    simp [execOp, hf.eval hx, hf.eval hy, hr]
  unfold Oper.wp
  rw [h1, Oper.upon_value]
  have H2 := H.newRow (.ow (List.replicate i.toNat [])) (flatten_nil _) E (List.replicate i.toNat z0) (madeCells z.cells (i.toNat * inf.size)).toList i.toNat (by simp) (by simp only [maxLen]; omega) (by simp [size_madeCells, hz2]) (by simp [Kd.fits]) (fun q e hq => by
    have hql : q < i.toNat := by have := (List.getElem?_eq_some_iff.1 hq).1; simpa using this
    have he : e = z0 := by
      rw [List.getElem?_replicate] at hq; simp [hql] at hq; exact hq.symm
    subst he
    intro Fi hFi
    have hFe : Fi = [] := by
      rw [List.getElem?_replicate] at hFi; simpa [hql] using hFi
    subst hFe
    show GoTy.own _ _ (part' α _ q) _
    unfold part'
    rw [hz2, made_part hz (GoTy.pos (α := α)) _ _ hql]
    exact hz0 _)
  rw [Array.toArray_toList] at H2
  exact k _ _ _ _ _ (by have := hf.put hdn (.slice (some ⟨w.heap.size, 0, none⟩) i.toNat i.toNat); simpa using this) H2
theorem ps0 : ∀ d ∈ ([] : List DI), d.p.pred w (· ∈ d.F) := fun _ h => by cases h
theorem ps1 {α : Type} [GoTy α] {F : List Nat} {cs : List Value} {x : α} {X : List DI} (h : GoTy.own w F cs x) (t : ∀ d ∈ X, d.p.pred w (· ∈ d.F)) : ∀ d ∈ ((⟨F, MP.own F cs x⟩ : DI) :: X), d.p.pred w (· ∈ d.F) := by
  intro d hd
  rcases List.mem_cons.1 hd with rfl | hd
  · exact ⟨h, fun b hb => hb⟩
  · exact t d hd
theorem Mem.arg (H : Mem ⟨w1, []⟩ S M R D I w) {p : MP} (h : p.pred w1 S) : Mem ⟨w1, []⟩ S M R D ((false, p) :: I) w := H.pushArg p h
theorem st_own {α : Type} [GoTy α] {Fs : List (List Nat)} {i off : Nat} {vs : List Value} {e e' : α} (h : ∀ F cs, GoTy.own w F cs e → GoTy.own w F (cs.take off ++ vs ++ cs.drop (off + vs.length)) e') {T : Nat → Prop} {fr : Bool} :
    ∀ cs, (Kd.ow Fs fr).holds w T i cs e → (Kd.ow Fs fr).holds w T i (cs.take off ++ vs ++ cs.drop (off + vs.length)) e' := fun cs hc Fi hFi => h Fi cs (hc Fi hFi)
end
end AT

namespace AT
open Go Go.RowKit
section
variable {P : Program} {Q : Exit → Act → World → Prop} {a : Act} {w w' w1 : World} {n : Nat} {L : List (Nat × Value)} {dst : Option Tmp} {ty : TypeId} {pos : String} {af : Array Edge} {g : Option (Nat × Bool)} {K : Act → World → Prop} {d : Nat}
variable {w0 : Base} {S : Nat → Prop} {M : List Blk} {R : List Row} {D : List DI} {I : List (Bool × MP)}
def evo (L : List (Nat × Value)) : Option Operand → Option (Option Value)
  | none => some none
  | some o => (ev L o).map some
theorem evo_map (hf : Fr a n L) {o : Option Operand} {v : Option Value} (h : evo L o = some v) : o.map a.eval = v := by
  cases o with
  | none => simpa [evo] using h
  | some o =>
    simp only [evo, Option.map_eq_some_iff] at h
    obtain ⟨u, hu, rfl⟩ := h
    simp [hf.eval hu]
theorem rq_sliceE (hf : Fr a n L) {T : TypeId} {x : Operand} {u r : Value} (hx : ev L x = some u) {lo hi : Option Operand} {lov hiv : Option Value} (hlo : evo L lo = some lov) (hhi : evo L hi = some hiv) (h : ∀ w', (Instr.sliceAt T u lov hiv none).run P w' = .ok r w') :
    ∀ w, (execOp a.eval ⟨dst, .slice T x lo hi none, ty, pos, af, g⟩).run P w = .ok (.value r) w := by
  intro w
  simp [execOp, hf.eval hx, evo_map hf hlo, evo_map hf hhi, h]
theorem pre_slice (H : Mem w0 S M R D I w) {α : Type} [GoTy α] {T E : TypeId} (hT : P.underlying T = some (.slice E)) (hE : SZ P E (GoTy.n α)) {A : Option Addr} {len cap : Nat} {i j : Int} {xs ys : List α} {f : Bool} (q : Nat) {lov hiv : Option Value}
    (hlo : lov = none ∧ i = 0 ∨ lov = some (.int .i64 i)) (hhi : hiv = none ∧ j = xs.length ∨ hiv = some (.int .i64 j)) (hq : I[q]? = some (f, MP.val [.slice A len cap] xs)) (hs : sub xs i j = some ys) :
    ∃ A' c', (∀ w', (Instr.sliceAt T (.slice A len cap) lov hiv none).run P w' = .ok (.slice A' ys.length c') w') ∧ Mem w0 S M R D ((f, MP.val [.slice A' ys.length c'] ys) :: I) w := by
  obtain ⟨A', cap', hcs, hlc, hcm, hel⟩ : lrep w (St w0 S M R D f) [.slice A len cap] xs := H.get q hq
  simp only [List.cons.injEq, Value.slice.injEq, and_true] at hcs
  obtain ⟨rfl, rfl, rfl⟩ := hcs
  unfold sub at hs
  split at hs
  case isFalse => cases hs
  rename_i hb
  obtain ⟨h0, h1, h2⟩ := hb
  injection hs with hs
  have hyl : ys.length = j.toNat - i.toNat := by rw [← hs]; simp; omega
  have hE' : ∀ w, (Go.sizeOf E).run P w = .ok (GoTy.n α) w := hE
  refine ⟨if cap = i.toNat then A else A.map (·.add (i.toNat * GoTy.n α)), cap - i.toNat, fun w' => ?_, H.push _ ?_⟩
  · have hj : (j.toNat : Int) = j := Int.toNat_of_nonneg (by omega)
    rw [hyl]
    have hsb : (Instr.sliceBounds true xs.length cap lov hiv none).run P w' = .ok (i.toNat, j.toNat, cap) w' := by
      rcases hlo with ⟨e1, rfl⟩ | e1 <;> rcases hhi with ⟨e2, e3⟩ | e2 <;> rw [e1, e2]
      · subst e3; simp [Instr.sliceBounds]
      · simp [Instr.sliceBounds, Instr.sliceBound, asIntOf, show 0 ≤ j by omega, show j ≤ cap by omega]
      · subst e3; simp [Instr.sliceBounds, Instr.sliceBound, asIntOf, h0, h1]
      · simp [Instr.sliceBounds, Instr.sliceBound, asIntOf, h0, show 0 ≤ j by omega, show j ≤ cap by omega, hj, h1]
    simp [Instr.sliceAt, Instr.slice, run_underlying hT, hsb, hE']
  refine ⟨_, _, rfl, by omega, by omega, fun t z hz => ?_⟩
  have hz' : xs[i.toNat + t]? = some z := by
    rw [← hs, List.getElem?_drop] at hz
    rw [List.getElem?_take] at hz
    split at hz
    · exact hz
    · cases hz
  obtain ⟨p, hp, hSp, cs, hc, hr⟩ := hel _ _ hz'
  have hlt := (List.getElem?_eq_some_iff.1 hz').1
  rw [if_neg (by omega), hp]
  refine ⟨p.add (i.toNat * GoTy.n α), rfl, by rw [block_add]; exact hSp, cs, fun u c hu => ?_, hr⟩
  rw [add_add, ← Nat.add_assoc, ← Nat.add_mul]
  exact hc u c hu
end
section
variable {P : Program} {l : List Oper} {Mid S : World → Prop} {a : Act} {w : World} {B : List Nat} {fuel : Nat} {bs : List Bool} {n : Nat} {L : List (Nat × Value)}
theorem on2 {Mid : Act → World → Prop} {i j : Nat} {oi oj : Oper} {bi bj : List Bool} (hr : Region.ready .any l.toArray bs.toArray = [i, j]) (hi : l[i]? = some oi) (hgi : oi.guard = none) (hbi : bs.set i true = bi) (hj : l[j]? = some oj) (hgj : oj.guard = none) (hbj : bs.set j true = bj)
    (h : oi.wp P a w (fun a' w' => (nb B bi.toArray = true → S w') ∧ DL P l Mid S B fuel bi a' w') (only Mid)) (h' : oj.wp P a w (fun a' w' => (nb B bj.toArray = true → S w') ∧ DL P l Mid S B fuel bj a' w') (only Mid)) : DL P l Mid S B (fuel + 1) bs a w := by
  refine ⟨fun h0 => (by rw [hr] at h0; cases h0), fun q hq => ?_⟩
  rw [hr] at hq
  simp only [List.mem_cons, List.not_mem_nil, or_false] at hq
  rcases hq with rfl | rfl
  · unfold wpOp
    have hi' : l.toArray[q]? = some oi := by simpa using hi
    simp only [hi', Region.wanted, hgi]
    rw [set_bs hbi]
    exact .inl h
  · unfold wpOp
    have hi' : l.toArray[q]? = some oj := by simpa using hj
    simp only [hi', Region.wanted, hgj]
    rw [set_bs hbj]
    exact .inl h'
end
instance : GoTy By where
  n := 1
  agg := false
  flat := true
  rep _ _ cs x := cs = [.int .u8 x.n]
  own _ F cs x := F = [] ∧ cs = [.int .u8 x.n]
  pos := by decide
  len := by rintro _ _ _ _ rfl; rfl
  one := by rintro _ _ _ _ rfl; simp [Value.oneCell']
  mono := fun h _ => h
  own_rep := fun h => h.2
  own_mono := fun h _ => h
  own_lt := by rintro _ _ _ _ ⟨rfl, _⟩ _ h; cases h
  own_flat := fun _ h => ⟨rfl, h⟩
instance : GoTy U64 where
  n := 1
  agg := false
  flat := true
  rep _ _ cs x := cs = [.int .u64 x.n]
  own _ F cs x := F = [] ∧ cs = [.int .u64 x.n]
  pos := by decide
  len := by rintro _ _ _ _ rfl; rfl
  one := by rintro _ _ _ _ rfl; simp [Value.oneCell']
  mono := fun h _ => h
  own_rep := fun h => h.2
  own_mono := fun h _ => h
  own_lt := by rintro _ _ _ _ ⟨rfl, _⟩ _ h; cases h
  own_flat := fun _ h => ⟨rfl, h⟩
theorem VR_by {w : World} {S : Nat → Prop} {v : Value} {x : By} (h : VR w S v x) : v = .int .u8 x.n := by obtain ⟨cs, rfl, rfl⟩ := h; rfl
theorem VR_u64 {w : World} {S : Nat → Prop} {v : Value} {x : U64} (h : VR w S v x) : v = .int .u64 x.n := by obtain ⟨cs, rfl, rfl⟩ := h; rfl
theorem mk_by {w : World} {S : Nat → Prop} {x : By} : VR w S (.int .u8 x.n) x := ⟨_, rfl, rfl⟩
theorem mk_u64 {w : World} {S : Nat → Prop} {x : U64} : VR w S (.int .u64 x.n) x := ⟨_, rfl, rfl⟩
section
variable {P : Program} {a : Act} {w : World} {n : Nat} {L : List (Nat × Value)} {dst : Option Tmp} {ty : TypeId} {pos : String} {af : Array Edge} {g : Option (Nat × Bool)}
variable {T U : TypeId} {x y : Operand} {k : IntKind} {i j : Int} {f : Int → Int}
theorem rq_ltK (hf : Fr a n L) (hx : ev L x = some (.int k i)) (hy : ev L y = some (.int k j)) : (execOp a.eval ⟨dst, .binOp .lss T x y U, ty, pos, af, g⟩).run P w = .ok (.value (.bool (decide (i < j)))) w := by
  simp [execOp, hf.eval hx, hf.eval hy, eqGuard, binOp, Op.intCmp]
theorem rq_leK (hf : Fr a n L) (hx : ev L x = some (.int k i)) (hy : ev L y = some (.int k j)) : (execOp a.eval ⟨dst, .binOp .leq T x y U, ty, pos, af, g⟩).run P w = .ok (.value (.bool (decide (i ≤ j)))) w := by
  simp [execOp, hf.eval hx, hf.eval hy, eqGuard, binOp, Op.intCmp]
theorem rq_gtK (hf : Fr a n L) (hx : ev L x = some (.int k i)) (hy : ev L y = some (.int k j)) : (execOp a.eval ⟨dst, .binOp .gtr T x y U, ty, pos, af, g⟩).run P w = .ok (.value (.bool (decide (i > j)))) w := by
  simp [execOp, hf.eval hx, hf.eval hy, eqGuard, binOp, Op.intCmp]
theorem rq_geK (hf : Fr a n L) (hx : ev L x = some (.int k i)) (hy : ev L y = some (.int k j)) : (execOp a.eval ⟨dst, .binOp .geq T x y U, ty, pos, af, g⟩).run P w = .ok (.value (.bool (decide (i ≥ j)))) w := by
  simp [execOp, hf.eval hx, hf.eval hy, eqGuard, binOp, Op.intCmp]
theorem rq_conv {k' : IntKind} {us : TypeDesc} (hk : ∀ n, k.wrap n = f n) (hs : P.underlying T = some us) (hd : P.underlying U = some (.int k)) (hf : Fr a n L) (hx : ev L x = some (.int k' i)) : (execOp a.eval ⟨dst, .convert T U x, ty, pos, af, g⟩).run P w = .ok (.value (.int k (f i))) w := by
  simp [execOp, hf.eval hx, convert, run_underlying hs, run_underlying hd, Conv.intToInt, hk]
end
section
variable {w w' w1 : World} {w0 : Base} {S : Nat → Prop} {M : List Blk} {R : List Row} {D : List DI} {I : List (Bool × MP)}
theorem Mem.boxAt (H : Mem w0 S M R D I w) (i : Nat) {b : Nat} {T : TypeId} {cs : List Value} (hi : M[i]? = some ⟨b, T, cs⟩) : w.heap[b]? = some (.cells cs.toArray T (0, 0)) :=
  MemZ.ok H (Blk.res ⟨b, T, cs⟩) (List.mem_append.2 (.inl (List.mem_map.2 ⟨_, List.mem_of_getElem? hi, rfl⟩)))
theorem box_fm {i b : Nat} {T : TypeId} {cs : List Value} (hi : M[i]? = some ⟨b, T, cs⟩) : b ∈ fmZ (zs M R D) :=
  List.mem_flatMap.2 ⟨Blk.res ⟨b, T, cs⟩, List.mem_append.2 (.inl (List.mem_map.2 ⟨_, List.mem_of_getElem? hi, rfl⟩)), by simp [Blk.res]⟩
theorem Mem.notSt (H : Mem w0 S M R D I w) (i : Nat) {b : Nat} {T : TypeId} {cs : List Value} (hi : M[i]? = some ⟨b, T, cs⟩) (f : Bool) : ¬ St w0 S M R D f b := by
  have h1 := box_fm (R := R) (D := D) hi
  rintro (⟨-, h, -⟩ | ⟨-, h⟩)
  · exact h (MemZ.lt H b (fm_all h1)).1
  · exact h h1
theorem Mem.argB {G : List Nat} (H : Mem ⟨w1, G⟩ S M R D I w) (hS : ∀ b ∈ G, ¬ S b) {p : MP} (h : p.pred w1 S) : Mem ⟨w1, G⟩ S M R D ((false, p) :: I) w := by
  refine H.push _ (p.mono h fun b hb hlt => ?_)
  have hn : ¬ (⟨w1, G⟩ : Base).nw b := by
    rintro (h1 | h1)
    · simp only at h1; omega
    · exact hS b h1 hb
  exact ⟨.inl ⟨rfl, hn, hb⟩, (MemZ.below H).block b hn⟩
theorem rep_endB {b : Nat} {T : TypeId} {bs : List Value} {i : Nat} {f : Bool} {α : Type} [GoTy α] {cs : List Value} {x : α} (hi : M[i]? = some ⟨b, T, bs⟩) (h : GoTy.rep w (St w0 S M R D f) cs x) : GoTy.rep w (St w0 S [⟨b, T, bs⟩] [] [] f) cs x :=
  GoTy.mono h fun c hc _ => by
    refine ⟨?_, rfl⟩
    rcases hc with hc | ⟨h1, h2⟩
    · exact .inl hc
    · refine .inr ⟨h1, fun h3 => h2 ?_⟩
      have : c = b := by simpa [fmZ, zs, Blk.res] using h3
      subst this; exact box_fm hi
end
section
variable {P : Program} {Q : Exit → Act → World → Prop} {a : Act} {w : World} {n : Nat} {L : List (Nat × Value)} {ty : TypeId} {pos : String} {af : Array Edge} {g : Option (Nat × Bool)} {K : Act → World → Prop} {d : Nat}
variable {w0 : Base} {S : Nat → Prop} {M : List Blk} {R : List Row} {D : List DI} {I : List (Bool × MP)}
theorem ownsRow_take {B : Nat} {E : TypeId} {s : Nat} {A : Option Addr} {m cap k : Nat} {cells : List Value} (h : w.ownsRow B E s (.slice A m cap) m cells) (hk : k ≤ m) : w.ownsRow B E s (.slice A k cap) k (cells.take (k * s)) := by
  obtain ⟨h1, h2⟩ := h
  have hks : k * s ≤ m * s := Nat.mul_le_mul_right s hk
  refine ⟨by rw [List.length_take, h1]; exact Nat.min_eq_left hks, ?_⟩
  rcases h2 with ⟨hv, hn⟩ | ⟨b, cap', cur, hv, hb, hg, hl, hm, hsz, ht⟩
  · simp only [Value.slice.injEq] at hv
    obtain ⟨rfl, rfl, rfl⟩ := hv
    obtain rfl : k = 0 := by omega
    exact .inl ⟨rfl, rfl⟩
  · simp only [Value.slice.injEq] at hv
    obtain ⟨rfl, -, rfl⟩ := hv
    exact .inr ⟨b, cap, cur, rfl, hb, hg, by omega, hm, hsz, by rw [← ht, List.take_take, Nat.min_eq_left hks]⟩
theorem op_sliceR (hf : Fr a n L) (H : Mem w0 S M R D I w) {α : Type} [GoTy α] {T E E' : TypeId} (hT : P.underlying T = some (.slice E)) (hE : SZ P E (GoTy.n α)) {x : Operand} {lo hi : Option Operand} {A : Option Addr} {cap : Nat} {j : Int} {xs ys : List α} {fr : Bool} (q : Nat) {lov hiv : Option Value}
    (hx : ev L x = some (.slice A xs.length cap)) (hlo : evo L lo = some lov) (hhi : evo L hi = some hiv) (hlo' : lov = none ∨ lov = some (.int .i64 0)) (hhi' : hiv = none ∧ j = xs.length ∨ hiv = some (.int .i64 j)) (hq : R[q]? = some ⟨.sh fr, E', A, cap, xs⟩) (hs : sub xs 0 j = some ys) (hdn : d < n)
    (k : ∀ a', Fr a' n ((d, .slice A ys.length cap) :: L) → Mem w0 S M (R.set q ⟨.sh fr, E', A, cap, ys⟩) D I w → K a' w) : Oper.wp P ⟨some d, .slice T x lo hi none, ty, pos, af, g⟩ a w K Q := by
  obtain ⟨cells, ho, hfit, hel⟩ := H.rowAt (List.mem_of_getElem? hq)
  unfold sub at hs
  split at hs
  case isFalse => cases hs
  rename_i hb
  obtain ⟨h0, h1, h2⟩ := hb
  injection hs with hs
  have hyl : ys.length = j.toNat := by rw [← hs]; simp; omega
  have hcap : xs.length ≤ cap := by
    rcases ho.2 with ⟨hv, hn⟩ | ⟨b, cap', cur, hv, hb, hg, hl, hm, hsz, ht⟩
    · have : xs.length = 0 := hn
      omega
    · simp only [Row.v, Value.slice.injEq] at hv
      obtain ⟨-, -, rfl⟩ := hv
      exact hl
  have hE' : ∀ w, (Go.sizeOf E).run P w = .ok (GoTy.n α) w := hE
  have hA : (A.map fun p => p.add 0) = A := by cases A <;> simp [Addr.add]
  have hval : (execOp a.eval ⟨some d, .slice T x lo hi none, ty, pos, af, g⟩).run P w = .ok (.value (.slice A ys.length cap)) w := by
    have hsl : (Instr.sliceAt T (.slice A xs.length cap) lov hiv none).run P w = .ok (.slice A ys.length cap) w := by
      rw [hyl]
      have hsb : (Instr.sliceBounds true xs.length cap lov hiv none).run P w = .ok (0, j.toNat, cap) w := by
        rcases hlo' with e1 | e1 <;> rcases hhi' with ⟨e2, e3⟩ | e2 <;> rw [e1, e2]
        · subst e3; simp [Instr.sliceBounds]
        · simp [Instr.sliceBounds, Instr.sliceBound, asIntOf, show 0 ≤ j by omega, show j ≤ cap by omega]
        · subst e3; simp [Instr.sliceBounds, Instr.sliceBound, asIntOf]
        · simp [Instr.sliceBounds, Instr.sliceBound, asIntOf, show 0 ≤ j by omega, show j ≤ cap by omega]
      simp [Instr.sliceAt, Instr.slice, run_underlying hT, hsb, hE', hA]
    simp [execOp, hf.eval hx, evo_map hf hlo, evo_map hf hhi, hsl]
  refine op_q hf hval rfl hdn fun a' hf' => k a' hf' (H.reRow hq ⟨rfl, rfl, rfl, Nat.le_refl _, fun _ _ _ => rfl⟩ (.inl (by cases A <;> rfl)) (List.Perm.refl _) fun hm => ?_)
  have hyx : ys.length ≤ xs.length := by omega
  refine ⟨cells.take (ys.length * GoTy.n α), ownsRow_take ho hyx, trivial, fun i y hy => ?_⟩
  have hi : i < ys.length := (List.getElem?_eq_some_iff.1 hy).1
  have hx' : xs[i]? = some y := by
    rw [← hs] at hy
    simp only [Int.toNat_zero, List.drop_zero] at hy
    rw [List.getElem?_take] at hy
    split at hy
    · exact hy
    · cases hy
  have e : part' α (cells.take (ys.length * GoTy.n α)) i = part' α cells i := by
    unfold part'
    have h3 : i * GoTy.n α + GoTy.n α ≤ ys.length * GoTy.n α := by
      have := Nat.mul_le_mul_right (GoTy.n α) (show i + 1 ≤ ys.length from hi)
      rwa [Nat.succ_mul] at this
    rw [List.drop_take, List.take_take, Nat.min_eq_left (by omega)]
  show GoTy.rep _ _ (part' α _ i) y
  rw [e]
  exact GoTy.mono (hel i y hx') (hm _)
end
end AT

namespace AT
open Go Go.RowKit
end AT

namespace AT
open Go Go.RowKit
def IA.cells {n : Nat} (x : IA n) : List Value := x.l.map (Value.int .i64)
theorem IA.cells_len {n : Nat} (x : IA n) : x.cells.length = n := by unfold IA.cells; rw [List.length_map]; exact x.h
@[reducible] def iaTy (n : Nat) (hn : 0 < n) : GoTy (IA n) where
  n := n
  agg := true
  flat := true
  rep _ _ cs x := cs = x.cells
  own _ F cs x := F = [] ∧ cs = x.cells
  pos := hn
  len := by rintro _ _ _ _ rfl; exact IA.cells_len _
  one := by
    rintro _ _ _ x rfl c hc
    obtain ⟨i, -, rfl⟩ := List.mem_map.1 hc
    simp [Value.oneCell']
  mono := fun h _ => h
  own_rep := fun h => h.2
  own_mono := fun h _ => h
  own_lt := by rintro _ _ _ _ ⟨rfl, _⟩ _ h; cases h
  own_flat := fun _ h => ⟨rfl, h⟩
section
variable {P : Program} {Q : Exit → Act → World → Prop} {a : Act} {w : World} {n : Nat} {L : List (Nat × Value)} {dst : Option Tmp} {ty : TypeId} {pos : String} {af : Array Edge} {g : Option (Nat × Bool)} {K : Act → World → Prop} {d : Nat}
variable {w0 : Base} {S : Nat → Prop} {M : List Blk} {R : List Row} {D : List DI} {I : List (Bool × MP)}
end
end AT
namespace AT
open Go Go.RowKit
theorem Mem.addRo {w w' : World} {w0 : Base} {S S' : Nat → Prop} {M : List Blk} {R : List Row} {D : List DI} {I : List (Bool × MP)} (H : Mem w0 S M R D I w) (hb : Below w.heap.size w w') {p : MP} (hp : p.pred w' (St ⟨w, []⟩ S' [] [] [] true)) : ∃ F, Mem w0 S M R (⟨F, p⟩ :: D) I w' := by
  have hF : ∀ b, b ∈ List.range' w.heap.size (w'.heap.size - w.heap.size) ↔ w.heap.size ≤ b ∧ b < w'.heap.size := fun b => by
    rw [List.mem_range'_1]
    have := hb.size
    omega
  refine ⟨List.range' w.heap.size (w'.heap.size - w.heap.size), H.addOwn hb (X := [⟨_, p⟩]) ?_ (fun d hd => ?_) (fun b h => ?_)⟩
  · simpa using List.nodup_range'
  · rw [List.mem_singleton] at hd; subst hd
    refine p.mono hp fun b h hlt => ⟨(hF b).2 ?_, rfl⟩
    rcases h with ⟨h, _⟩ | ⟨h1 | h1, _⟩
    · cases h
    · exact ⟨h1, hlt⟩
    · cases h1
  · simp only [List.flatMap_cons, List.flatMap_nil, List.append_nil] at h
    exact (hF b).1 h
end AT
namespace AT
open Go Go.RowKit
end AT
namespace AT
open Go Go.RowKit
section
variable {P : Program} {Q : Exit → Act → World → Prop} {a : Act} {w : World} {n : Nat} {L : List (Nat × Value)} {dst : Option Tmp} {ty : TypeId} {pos : String} {af : Array Edge} {g : Option (Nat × Bool)} {K : Act → World → Prop} {d : Nat}
variable {T U : TypeId} {x y : Operand} {s t : ByteArray}
theorem rq_indexS (hf : Fr a n L) (hT : P.underlying T = some .string) {k : IntKind} {i : Int} {e : By} (hx : ev L x = some (.string s)) (hy : ev L y = some (.int k i)) (h : sidx s i = some e) : (execOp a.eval ⟨dst, .index T x y, ty, pos, af, g⟩).run P w = .ok (.value (.int .u8 e.n)) w := by
  unfold sidx at h
  split at h
  case isFalse => cases h
  rename_i h0
  obtain ⟨b, hb, rfl⟩ := Option.map_eq_some_iff.1 h
  have h1 : (Instr.index T (.string s) (.int k i)).run P w = .ok (.int .u8 b.toNat) w := by
    simp [Instr.index, asIntOf, run_underlying hT, h0, hb]
  simp [execOp, hf.eval hx, hf.eval hy, h1]
theorem rq_scat (hf : Fr a n L) {u : ByteArray} (hx : ev L x = some (.string s)) (hy : ev L y = some (.string t)) (h : scat s t = some u) : (execOp a.eval ⟨dst, .binOp .add T x y U, ty, pos, af, g⟩).run P w = .ok (.value (.string u)) w := by
  unfold scat at h
  split at h
  case isFalse => cases h
  rename_i h0
  injection h with h; subst h
  have h1 : (Op.stringOp .add s t).run P w = .ok (.string (s ++ t)) w := by
    have : ¬ (((s.size + t.size : Nat) : Int) > IntKind.i64.max) := by
      simp only [IntKind.max, IntKind.signed, IntKind.bits]
      simp
      omega
    simp only [Op.stringOp, this, if_false]
    rfl
  simp [execOp, hf.eval hx, hf.eval hy, eqGuard, binOp, h1]
theorem run_bstr {S : Nat → Prop} {A : Option Addr} {len cap : Nat} {xs : List By} (h : lrep w S [.slice A len cap] xs) : (Conv.bytesToString (.slice A len cap)).run P w = .ok (.string (bstr xs)) w := by
  obtain ⟨A', cap', hcs, hlc, hcm, hel⟩ := h
  simp only [List.cons.injEq, Value.slice.injEq, and_true] at hcs
  obtain ⟨rfl, rfl, rfl⟩ := hcs
  cases A with
  | none =>
    cases xs with
    | nil => rfl
    | cons x xs => obtain ⟨p, hp, _⟩ := hel 0 x rfl; cases hp
  | some p =>
    have hl : (loadCells p xs.length).run P w = .ok ((xs.map By.n).map (Value.int .u8)).toArray w := by
      have := run_loadCells_list (P := P) (w := w) p ((xs.map By.n).map (Value.int .u8)) fun j v hj => by
        simp only [List.getElem?_map, Option.map_eq_some_iff] at hj
        obtain ⟨m, ⟨x, hx, rfl⟩, rfl⟩ := hj
        obtain ⟨p', hp', hS, cs, hc, hr⟩ := hel j x hx
        injection hp' with hp'; subst hp'
        have hr' : cs = [.int .u8 x.n] := hr
        subst hr'
        have := hc 0 _ rfl
        rw [Nat.add_zero] at this
        have e : j * GoTy.n By = j := Nat.mul_one j
        rw [e] at this
        exact this
      simpa using this
    rw [run_bytesToString w p xs.length cap (xs.map By.n) hl]
    unfold bstr
    rw [List.foldl_map]
theorem rq_convBS {S : Nat → Prop} {A : Option Addr} {len cap : Nat} {xs : List By} {e : TypeId} (hs : P.underlying T = some (.slice e)) (he : P.underlying e = some (.int .u8)) (hd : P.underlying U = some .string) (hf : Fr a n L) (hx : ev L x = some (.slice A len cap)) (h : lrep w S [.slice A len cap] xs) :
    (execOp a.eval ⟨dst, .convert T U x, ty, pos, af, g⟩).run P w = .ok (.value (.string (bstr xs))) w := by
  have h1 : (convert T U (.slice A len cap)).run P w = .ok (.string (bstr xs)) w := by
    rw [run_convert_bytes_string w T U e A len cap hs he hd]; exact run_bstr h
  simp [execOp, hf.eval hx, h1]
end
end AT
namespace AT
open Go Go.RowKit
end AT
namespace AT
open Go Go.RowKit
section
variable {P : Program} {Q : Exit → Act → World → Prop} {a : Act} {w : World} {n : Nat} {L : List (Nat × Value)} {dst : Option Tmp} {ty : TypeId} {pos : String} {af : Array Edge} {g : Option (Nat × Bool)} {K : Act → World → Prop} {d : Nat}
variable {w0 : Base} {S : Nat → Prop} {M : List Blk} {R : List Row} {D : List DI} {I : List (Bool × MP)}
theorem pre_iaddrR (H : Mem w0 S M R D I w) {α : Type} [GoTy α] {T E E' : TypeId} (hT : P.underlying T = some (.slice E)) (hE : SZ P E (GoTy.n α)) (j : Nat) {kd : Kd} {A : Option Addr} {cap : Nat} {xs : List α} {i : Int} {e : α}
    (hj : R[j]? = some ⟨kd, E', A, cap, xs⟩) (he : idx xs i = some e) :
    ∃ b o, RA A b o (i.toNat * GoTy.n α) ∧ ∀ w' k, (Instr.indexAt T (.slice A xs.length cap) (.int k i)).run P w' = .ok (.pointer (some ⟨b, o, none⟩)) w' := by
  obtain ⟨h0, h1, h2⟩ := idx_lt he
  obtain ⟨b, q, rfl, cs, hr, hc⟩ := row_cells H hj he
  refine ⟨b, _, ⟨q, rfl, rfl⟩, fun w' k => ?_⟩
  have hi := run_indexAt (P := P) (w := w') (cap := cap) hT hE h0 h1 (p := ⟨b, q, none⟩) (k := k)
  rw [add_lit] at hi
  exact hi
theorem rq_loadRow (hf : Fr a n L) (H : Mem w0 S M R D I w) {α : Type} [GoTy α] {T : TypeId} (hT : LS P T) (j : Nat) {x : Operand} {b o off : Nat} {kd : Kd} {E : TypeId} {A : Option Addr} {cap : Nat} {xs : List α} {i : Int} {e : α} {v : Value}
    (hx : ev L x = some (.pointer (some ⟨b, o + off, none⟩))) (hj : R[j]? = some ⟨kd, E, A, cap, xs⟩) (hA : RA A b o (i.toNat * GoTy.n α)) (he : idx xs i = some e) (hv : ∀ (w : World) (T : Nat → Prop) (cs : List Value), GoTy.rep w T cs e → cs[off]? = some v) :
    (execOp a.eval ⟨dst, .load T x, ty, pos, af, g⟩).run P w = .ok (.value v) w := by
  obtain ⟨b', q', hA', cs, hr, hc⟩ := row_cells H hj he
  obtain ⟨q0, rfl, rfl⟩ := hA
  injection hA' with hA'
  injection hA' with hA' hA2
  subst hA'
  subst hA2
  have := hc off v (hv _ _ _ hr)
  rw [add_lit] at this
  exact rq_load1 hf hT hx this
end
end AT
namespace AT
open Go Go.RowKit
theorem iteB {R : Type} {b : Bool} {x y r : R} {G : Prop} (h : (if b = true then x else y) = r) (h1 : b = true → x = r → G) (h2 : b = false → y = r → G) : G := by
  cases b
  · exact h2 rfl (by simpa using h)
  · exact h1 rfl (by simpa using h)
section
variable {P : Program} {Q : Exit → Act → World → Prop} {a : Act} {w : World} {n : Nat} {L : List (Nat × Value)}
variable {w0 : Base} {S : Nat → Prop} {M : List Blk} {R : List Row} {D : List DI} {I : List (Bool × MP)}
theorem midF {c : Code} (t : Nat) (v : Value) (hf : Fr a n L) (H : Mem w0 S M R D I w) (h : c.wp P (Exit.then (fun a w => Fr a n ((t, v) :: L) ∧ Mem w0 S M R D I w) Q) a w)
    (h2 : ∀ a w, Fr a n ((t, v) :: L) → Mem w0 S M R D I w → Q .normal a w) : c.wp P Q a w := mid _ h fun a w q => h2 a w q.1 q.2
theorem loopC {σ : Type} {id : Nat} {c : Code} (Inv : σ → Act → World → Prop) (G : Nat → σ → Prop) (E : σ → Prop) (s0 : σ) (k0 : Nat) (hL : G k0 s0) (hI : Inv s0 a w) (h0 : ∀ s, ¬ G 0 s)
    (round : ∀ k s a w, G (k + 1) s → Inv s a w → c.wp P (Exit.then (fun a' w' => ∃ s', G k s' ∧ Inv s' a' w') (Exit.inBlock id (Exit.then (fun a w => ∃ s, E s ∧ Inv s a w) Q))) a w)
    (after : ∀ a w, (∃ s, E s ∧ Inv s a w) → Q .normal a w) : (Code.block id (.loop c)).wp P Q a w :=
  mid _ (wp_block (loop_rule G Inv h0 round k0 s0 a w hL hI)) after
end
section
variable {P : Program} {S0 : World → Prop} {B : List Nat} {l : List Oper} {bs bs' : List Bool} {a : Act} {w : World} {n fuel d i : Nat} {L : List (Nat × Value)} {Mid : Act → World → Prop} {o : Oper} {v : Value}
variable {w0 : Base} {S : Nat → Prop} {M : List Blk} {R : List Row} {D : List DI} {I : List (Bool × MP)}
theorem strT (H : Mem w0 S M R D I w) (hs : ∀ w, Mem w0 S M R D I w → S0 w) (h : Mem w0 S M R D I w → DL P l Mid (fun w => Mem w0 S M R D I w) B fuel bs a w) : DL P l Mid S0 B fuel bs a w := str _ hs (h H)
theorem tP (i : Nat) (hi : l[i]? = some o) (hd : o.dst = some d) (hg : o.guard = none) (hdn : Nat.ble (d + 1) n = true) (hf : Fr a n L) (hc : takeB l bs i [] B = true) (hS : nb B bs.toArray = true → S0 w) (hy : ∀ w, (execOp a.eval o).run P w = .ok (.value v) w)
    (h : ∀ a', Fr a' n ((d, v) :: L) → DL P l Mid S0 B fuel (bs.set i true) a' w) : DL P l Mid S0 B (fuel + 1) bs a w := tkP hi hd hg (nle hdn) hf hc hS hy rfl h
theorem tPg (i : Nat) {j e : Nat} {b : Bool} (hi : l[i]? = some o) (hd : o.dst = some d) (hg : o.guard = some (j, b)) (hj : (l[j]?).bind (·.dst) = some e) (hv : lk L e = some (.bool b)) (hdn : Nat.ble (d + 1) n = true) (hf : Fr a n L) (hc : takeB l bs i [] B = true) (hS : nb B bs.toArray = true → S0 w) (hy : ∀ w, (execOp a.eval o).run P w = .ok (.value v) w)
    (h : ∀ a', Fr a' n ((d, v) :: L) → DL P l Mid S0 B fuel (bs.set i true) a' w) : DL P l Mid S0 B (fuel + 1) bs a w := tkPg hi hd hg hj hv (nle hdn) hf hc hS hy rfl h
theorem tS (i : Nat) (X : List Nat) (hi : l[i]? = some o) (hd : o.dst = some d) (hg : o.guard = none) (hdn : Nat.ble (d + 1) n = true) (hf : Fr a n L) (hc : takeB l bs i X B = true) (hBX : (B.all (X.contains ·)) = true) (hS : S0 w) (hy : ∀ w, S0 w → (execOp a.eval o).run P w = .ok (.value v) w)
    (h : ∀ a', Fr a' n ((d, v) :: L) → DL P l Mid S0 B fuel (bs.set i true) a' w) : DL P l Mid S0 B (fuel + 1) bs a w := tkS X hi hd hg (nle hdn) hf hc hBX hS hy rfl h
theorem tSg (i : Nat) (X : List Nat) {j e : Nat} {b : Bool} (hi : l[i]? = some o) (hd : o.dst = some d) (hg : o.guard = some (j, b)) (hj : (l[j]?).bind (·.dst) = some e) (hv : lk L e = some (.bool b)) (hdn : Nat.ble (d + 1) n = true) (hf : Fr a n L) (hc : takeB l bs i X B = true) (hBX : (B.all (X.contains ·)) = true) (hS : S0 w) (hy : ∀ w, S0 w → (execOp a.eval o).run P w = .ok (.value v) w)
    (h : ∀ a', Fr a' n ((d, v) :: L) → DL P l Mid S0 B fuel (bs.set i true) a' w) : DL P l Mid S0 B (fuel + 1) bs a w := tkSg X hi hd hg hj hv (nle hdn) hf hc hBX hS hy rfl h
theorem tUU (i : Nat) {j e : Nat} {b : Bool} (hi : l[i]? = some o) (hd : o.dst = some d) (hg : o.guard = some (j, b)) (hj : (l[j]?).bind (·.dst) = some e) (hv : lk L e = some undef) (hdn : Nat.ble (d + 1) n = true) (hf : Fr a n L) (hc : takeB l bs i [] B = true) (hS : nb B bs.toArray = true → S0 w)
    (h : ∀ a', Fr a' n ((d, undef) :: L) → DL P l Mid S0 B fuel (bs.set i true) a' w) : DL P l Mid S0 B (fuel + 1) bs a w := tkUU hi hd hg hj hv (nle hdn) hf hc hS rfl h
theorem tU (i : Nat) {j e : Nat} {b c : Bool} (hi : l[i]? = some o) (hd : o.dst = some d) (hg : o.guard = some (j, b)) (hj : (l[j]?).bind (·.dst) = some e) (hv : lk L e = some (.bool c)) (hne : (c == b) = false) (hdn : Nat.ble (d + 1) n = true) (hf : Fr a n L) (hc : takeB l bs i [] B = true) (hS : nb B bs.toArray = true → S0 w)
    (h : ∀ a', Fr a' n ((d, undef) :: L) → DL P l Mid S0 B fuel (bs.set i true) a' w) : DL P l Mid S0 B (fuel + 1) bs a w := tkU hi hd hg hj hv hne (nle hdn) hf hc hS rfl h
theorem n1 (i : Nat) (hr : Region.ready .any l.toArray bs.toArray = [i]) (hi : l[i]? = some o) (hg : o.guard = none)
    (h : o.wp P a w (fun a' w' => (nb B (bs.set i true).toArray = true → S0 w') ∧ DL P l Mid S0 B fuel (bs.set i true) a' w') (only Mid)) : DL P l Mid S0 B (fuel + 1) bs a w := on1 hr hi hg rfl h
theorem n1g (i : Nat) {j e : Nat} {b : Bool} (hr : Region.ready .any l.toArray bs.toArray = [i]) (hi : l[i]? = some o) (hg : o.guard = some (j, b)) (hj : (l[j]?).bind (·.dst) = some e) (hv : lk L e = some (.bool b)) (hf : Fr a n L)
    (h : o.wp P a w (fun a' w' => (nb B (bs.set i true).toArray = true → S0 w') ∧ DL P l Mid S0 B fuel (bs.set i true) a' w') (only Mid)) : DL P l Mid S0 B (fuel + 1) bs a w := on1g hr hi hg hj hv hf rfl h
end
end AT
namespace AT
open Go Go.RowKit
theorem ret_0r {P : Program} {w : World} {a : Act} {n : Nat} {L : List (Nat × Value)} {fn : Func} {Rr : Ending → World → Prop} (hf : Fr a n L) (hres : fn.results = #[]) (hR : Rr (.returned (.tuple #[])) w) : bodyPost P fn Rr .ret a w :=
  ⟨hf.defs, _, run_results (rs := []) hres .nil, by simpa using hR⟩
end AT
namespace AT
open Go Go.RowKit
theorem Mem.ownLen {w : World} {w0 : Base} {S : Nat → Prop} {M : List Blk} {R : List Row} {D : List DI} {I : List (Bool × MP)} (H : Mem w0 S M R D I w) {α : Type} [GoTy α] {F : List Nat} {A : Option Addr} {len cap : Nat} {xs : List α} (h : D[0]? = some ⟨F, MP.own F [.slice A len cap] xs⟩) : xs.length = len := by
  obtain ⟨⟨A', cap', E, cells, Fs, hcs, _⟩, -⟩ := H.diAt (List.mem_of_getElem? h)
  simp only [List.cons.injEq, Value.slice.injEq, and_true] at hcs
  exact hcs.2.1.symm
end AT
namespace AT
open Go Go.RowKit
def MP.and (p q : MP) : MP := ⟨fun w S => p.pred w S ∧ q.pred w S, fun h hm => ⟨p.mono h.1 hm, q.mono h.2 hm⟩⟩
theorem Mem.lendQ {w : World} {w0 : Base} {S : Nat → Prop} {M : List Blk} {R : List Row} {D : List DI} {I : List (Bool × MP)} (H : Mem w0 S M R D I w) (j : Nat) {F : List Nat} {p q : MP} (hj : D[j]? = some ⟨F, p⟩) (hq : ∀ w S, p.pred w S → q.pred w S) : Mem w0 S M R D ((true, q) :: I) w :=
  H.push _ (hq _ _ (p.mono (H.diAt (List.mem_of_getElem? hj)) fun b hb _ => ⟨MemZ.fd_st H (di_mem (List.mem_of_getElem? hj)) hb _, rfl⟩))
end AT

namespace AT
open Go Go.RowKit
section
variable {P : Program} {a : Act} {w : World} {n : Nat} {L : List (Nat × Value)} {dst : Option Tmp} {ty : TypeId} {pos : String} {af : Array Edge} {g : Option (Nat × Bool)}
structure QS (P : Program) (T : TypeId) (fs : List Field) (m : Nat) : Prop where
  u : P.underlying T = some (.struct fs.toArray)
  s : P.stoodInHeld T = false
  f : ∀ f ∈ fs, (f.name == "_") = false ∧ f.offset < m ∧ PT P f.type ∧ ∃ k, P.underlying f.type = some (.int k)
def flds (P : Program) (T : TypeId) : List Field := match P.underlying T with
  | some (.struct fs) => fs.toList
  | _ => []
structure EQT (P : Program) (T : TypeId) (m : Nat) (E : TypeId) : Prop where
  u : P.underlying T = some (.struct (flds P T).toArray)
  s : P.stoodInHeld T = false
  g : P.eqGuardType P.depth T = false
  o : (flds P T).map (·.offset) = List.range m
  f : ((flds P T).all fun f => !(f.name == "_") && f.type == E) = true
  p : PT P E
  i : ∃ k, P.underlying E = some (.int k)
theorem EQT.qs {T : TypeId} {m : Nat} {E : TypeId} (h : EQT P T m E) : QS P T (flds P T) m := by
  refine ⟨h.u, h.s, fun f hf => ?_⟩
  have h1 := List.all_eq_true.1 h.f f hf
  simp only [Bool.and_eq_true, Bool.not_eq_true', beq_iff_eq] at h1
  have h2 : f.offset ∈ List.range m := by rw [← h.o]; exact List.mem_map_of_mem hf
  exact ⟨h1.1, List.mem_range.1 h2, h1.2 ▸ h.p, h1.2 ▸ h.i⟩
end
end AT
namespace AT
open Go Go.RowKit
section
variable {P : Program} {Q : Exit → Act → World → Prop} {a : Act} {w : World} {w0 : Base} {n : Nat} {L : List (Nat × Value)} {K : Act → World → Prop} {S : Nat → Prop} {M : List Blk} {D : List DI} {I : List (Bool × MP)} {d : Tmp} {ty : TypeId} {pos : String} {af : Array Edge} {g : Option (Nat × Bool)}
end
end AT
namespace AT
open Go Go.RowKit
section
variable {P : Program} {Q : Exit → Act → World → Prop} {a : Act} {w : World} {n : Nat} {L : List (Nat × Value)} {K : Act → World → Prop} {d : Nat} {dst : Option Tmp} {ty : TypeId} {pos : String} {af : Array Edge} {g : Option (Nat × Bool)}
structure GS (w0 w : World) (g : Nat) (E : TypeId) (cur : List Value) : Prop where
  os : w.os = w0.os
  tape : w.tape = w0.tape
  output : w.output = w0.output
  size : w0.heap.size ≤ w.heap.size
  old : ∀ k, k < w0.heap.size → k ≠ g → w.heap[k]? = w0.heap[k]?
  at_ : w.heap[g]? = some (.cells cur.toArray E (0, 0))
theorem GS.below {w0 w w1 : World} {g : Nat} {E : TypeId} {cur : List Value} (h : GS w0 w g E cur) (hg : g < w0.heap.size) (hb : Below w.heap.size w w1) : GS w0 w1 g E cur :=
  ⟨hb.os.trans h.os, hb.tape.trans h.tape, hb.output.trans h.output, Nat.le_trans h.size hb.size, fun k hk hne => (hb.block k (by have := h.size; omega)).trans (h.old k hk hne), (hb.block g (by have := h.size; omega)).trans h.at_⟩
theorem GS.lt {w0 w : World} {g : Nat} {E : TypeId} {cur : List Value} (h : GS w0 w g E cur) : g < w.heap.size := (Array.getElem?_eq_some_iff.1 h.at_).1
theorem GS.set {w0 w : World} {g : Nat} {E : TypeId} {cur : List Value} (h : GS w0 w g E cur) (new : Array Value) : GS w0 (w.setRow g new) g E new.toList :=
  ⟨h.os, h.tape, h.output, by simpa using h.size, fun k hk hne => (setRow_other w g k new hne).trans (h.old k hk hne), by rw [Array.toArray_toList]; exact setRow_heap w g _ new E _ h.at_⟩
theorem GS.cell {w0 w : World} {g : Nat} {E : TypeId} {cur : List Value} (h : GS w0 w g E cur) (j : Nat) : w.cell? ⟨g, j, none⟩ = cur[j]? := by
  simp [World.cell?, h.at_]
theorem GS.start {w : World} {g : Nat} {E : TypeId} {cur : Array Value} (h : w.heap[g]? = some (.cells cur E (0, 0))) : GS w w g E cur.toList :=
  ⟨rfl, rfl, rfl, Nat.le_refl _, fun _ _ _ => rfl, by rw [Array.toArray_toList]; exact h⟩
theorem GS.alloc (w : World) (cs : Array Value) (E : TypeId) : GS w (w.drew.alloc (.cells cs E)) w.heap.size E cs.toList :=
  ⟨rfl, rfl, rfl, by simp, fun k hk _ => heap_alloc_old w.drew _ hk, by rw [Array.toArray_toList]; exact heap_alloc_new w.drew _⟩
variable {w0 : Base} {S : Nat → Prop} {M : List Blk} {R : List Row} {D : List DI} {I : List (Bool × MP)}
end
end AT

namespace AT
open Go Go.RowKit
section
variable {w w1 w2 : World} {S : Nat → Prop} {M : List Blk} {R : List Row} {D : List DI} {I : List (Bool × MP)}
end
end AT
namespace AT
open Go Go.RowKit
section
variable {w w' w1 : World} {w0 : Base} {S : Nat → Prop} {M : List Blk} {R : List Row} {D : List DI} {I : List (Bool × MP)}
theorem Mem.wroteBoxO (H : Mem w0 S M R D I w) (i : Nat) {b : Nat} {T : TypeId} {cs cs' : List Value} (hi : M[i]? = some ⟨b, T, cs⟩) (hc : Chg w w' [b]) (hb : w'.heap[b]? = some (.cells cs'.toArray T (0, 0)))
    {X : List DI} (hn : (X.flatMap DI.F).Nodup) (hX : ∀ d ∈ X, d.p.pred w' (· ∈ d.F)) (hl : ∀ b ∈ X.flatMap DI.F, w.heap.size ≤ b ∧ b < w'.heap.size) : Mem w0 S (M.set i ⟨b, T, cs'⟩) R (X ++ D) I w' := by
  have hblt : b < w.heap.size := by
    have h := H.boxAt i hi
    rcases Nat.lt_or_ge b w.heap.size with h' | h'
    · exact h'
    · rw [Array.getElem?_eq_none h'] at h; cases h
  have hp1 : (zs (M.set i ⟨b, T, cs'⟩) R (X ++ D)).Perm (([Blk.res ⟨b, T, cs'⟩] ++ X.map DI.res) ++ zs (M.eraseIdx i) R D) := by
    refine (zsM_set (R := R) (D := X ++ D) ⟨b, T, cs'⟩ hi).trans ?_
    rw [List.append_assoc]
    exact (zsD_app X).append_left _
  have ha : allZ ([Blk.res ⟨b, T, cs'⟩] ++ X.map DI.res) = b :: X.flatMap DI.F := by
    rw [allZ_app, allZ_one, allZ_di]; rfl
  have hf : fmZ ([Blk.res ⟨b, T, cs'⟩] ++ X.map DI.res) = [b] := by
    rw [fmZ_app, fmZ_one, fmZ_di]; rfl
  refine MemZ.perm (MemZ.step (rs := [Blk.res ⟨b, T, cs⟩]) (rs' := [Blk.res ⟨b, T, cs'⟩] ++ X.map DI.res) (MemZ.perm H (zsM_out hi)) (hc.sub fun x hx => ?_) (fun x hx => ?_) (fun x hx => ?_) ?_ (fun _ q hq => ?_)) hp1.symm
  · rw [fmZ_one]; simpa [Blk.res] using hx
  · rw [ha] at hx
    rcases List.mem_cons.1 hx with rfl | hx
    · left; rw [allZ_one]; simp [Res.all, Blk.res]
    · exact .inr (hl x hx)
  · rw [hf] at hx
    left; rw [fmZ_one]; simpa [Blk.res] using hx
  · rw [ha]
    exact List.nodup_cons.2 ⟨fun h => by have := (hl b h).1; omega, hn⟩
  · rcases List.mem_append.1 hq with h | h
    · rw [List.mem_singleton] at h; subst h; exact hb
    · obtain ⟨d, hd, rfl⟩ := List.mem_map.1 h
      exact ⟨hX d hd, fun c hc => (hl c (List.mem_flatMap.2 ⟨d, hd, hc⟩)).2⟩
theorem Mem.endsB {X : List DI} {b : Nat} {T : TypeId} {cs : List Value} (H : Mem ⟨w1, [b]⟩ S M R (X ++ D) I w) (i : Nat) (hi : M[i]? = some ⟨b, T, cs⟩) : New w1 w (X.flatMap DI.F) := by
  have H1 := MemZ.perm H (zsD_app X)
  have h1 := MemZ.nd H1
  rw [allZ_app, allZ_di] at h1
  refine ⟨(List.nodup_append.1 h1).1, fun c hc => ?_⟩
  obtain ⟨h2, h3⟩ := MemZ.lt H1 c (by rw [allZ_app, allZ_di]; exact List.mem_append.2 (.inl hc))
  rcases h2 with h2 | h2
  · exact ⟨h2, h3⟩
  · have e := List.mem_singleton.1 h2
    subst e
    exact absurd rfl ((List.nodup_append.1 h1).2.2 c hc c (fm_all (box_fm hi)))
end
section
variable {w w' : World} {w0 : Base} {S S1 : Nat → Prop} {I I' : List (Bool × MP)}
end
section
variable {w w' : World} {w0 : Base} {S S1 : Nat → Prop} {M : List Blk} {R R' : List Row} {D D' : List DI} {I I' : List (Bool × MP)}
end
def NB (b : Nat) : Nat → Prop := fun c => c ≠ b
theorem Mem.nb {w : World} {w0 : Base} {S : Nat → Prop} {M : List Blk} {R : List Row} {D : List DI} {I : List (Bool × MP)} (H : Mem w0 S M R D I w) (i : Nat) {b : Nat} {T : TypeId} {cs0 : List Value} (hi : M[i]? = some ⟨b, T, cs0⟩) {α : Type} [GoTy α] {f : Bool} {cs : List Value} {x : List α} (h : lrep w (St w0 S M R D f) cs x) : lrep w (NB b) cs x :=
  GoTy.mono (α := List α) h fun c hc _ => ⟨fun e => H.notSt i hi f (e ▸ hc), rfl⟩
section
variable {P : Program} {Q : Exit → Act → World → Prop} {a : Act} {w : World} {n : Nat} {L : List (Nat × Value)} {ty : TypeId} {pos : String} {af : Array Edge} {g : Option (Nat × Bool)} {K : Act → World → Prop} {d : Nat}
variable {w0 : Base} {S : Nat → Prop} {M : List Blk} {R : List Row} {D : List DI} {I : List (Bool × MP)}
end
section
variable {P : Program} {Q : Exit → Act → World → Prop} {a : Act} {w : World} {n : Nat} {L : List (Nat × Value)} {dst : Option Tmp} {ty : TypeId} {pos : String} {af : Array Edge} {g : Option (Nat × Bool)} {K : Act → World → Prop} {d : Nat}
variable {w0 : Base} {S : Nat → Prop} {M : List Blk} {R : List Row} {D : List DI} {I : List (Bool × MP)}
end
end AT

namespace AT
open Go Go.RowKit
section
variable {w w' w1 : World} {w0 : Base} {S : Nat → Prop} {M : List Blk} {R : List Row} {D : List DI} {I : List (Bool × MP)}
theorem Mem.startBO {α : Type} [GoTy α] (S : Nat → Prop) {b : Nat} {T : TypeId} {cs : List Value} {F : List Nat} {x : α} (h : w1.heap[b]? = some (.cells cs.toArray T (0, 0))) (hO : GoTy.own w1 F cs x) (hn : (b :: F).Nodup) :
    Mem ⟨w1, b :: F⟩ S [⟨b, T, cs⟩] [] [⟨F, MP.own F cs x⟩] [] w1 := by
  have hlt : b < w1.heap.size := by
    rcases Nat.lt_or_ge b w1.heap.size with h' | h'
    · exact h'
    · rw [Array.getElem?_eq_none h'] at h; cases h
  have ha : allZ (zs [⟨b, T, cs⟩] [] [⟨F, MP.own F cs x⟩]) = b :: F := by simp [allZ, zs, Res.all, Blk.res, DI.res]
  refine ⟨⟨rfl, rfl, rfl, Nat.le_refl _, fun _ _ => rfl⟩, fun c hc => ?_, by rw [ha]; exact hn, fun r hr => ?_, fun f hf => (by cases hf)⟩
  · rw [ha] at hc
    refine ⟨.inr hc, ?_⟩
    rcases List.mem_cons.1 hc with rfl | hc
    · exact hlt
    · exact GoTy.own_lt hO c hc
  · have : r = Blk.res ⟨b, T, cs⟩ ∨ r = DI.res ⟨F, MP.own F cs x⟩ := by simpa [zs] using hr
    rcases this with rfl | rfl
    · exact h
    · exact ⟨⟨hO, fun b hb => hb⟩, fun b hb => GoTy.own_lt hO b hb⟩
theorem Mem.wroteBO {α : Type} [GoTy α] {F F' : List Nat} {cs cs' : List Value} {x x' : α} (H : Mem w0 S M R (⟨F, MP.own F cs x⟩ :: D) I w) (i : Nat) {b : Nat} {T : TypeId} {c0 : List Value} (hi : M[i]? = some ⟨b, T, c0⟩) (hR : R.all Row.tightB = true) (hc : Chg w w' (b :: F))
    (hb : w'.heap[b]? = some (.cells cs'.toArray T (0, 0))) (ho : GoTy.own w' F' cs' x') (hbk : Back w w' F F') (hbF : b ∉ F') : Mem w0 S (M.set i ⟨b, T, cs'⟩) R (⟨F', MP.own F' cs' x'⟩ :: D) [] w' := by
  have hall : ∀ (m : Blk) (e : DI), allZ [m.res, e.res] = m.b :: e.F := fun m e => by simp [allZ, Res.all, Blk.res, DI.res]
  have hp : (zs M R (⟨F, MP.own F cs x⟩ :: D)).Perm ([Blk.res ⟨b, T, c0⟩, DI.res ⟨F, MP.own F cs x⟩] ++ zs (M.eraseIdx i) R D) :=
    (zsM_out hi).trans ((zsD_cons _).append_left [_])
  have hp' : (zs (M.set i ⟨b, T, cs'⟩) R (⟨F', MP.own F' cs' x'⟩ :: D)).Perm ([Blk.res ⟨b, T, cs'⟩, DI.res ⟨F', MP.own F' cs' x'⟩] ++ zs (M.eraseIdx i) R D) :=
    (zsM_set _ hi).trans ((zsD_cons _).append_left [_])
  have H1 := MemZ.perm H hp
  have hblt : b < w.heap.size := (MemZ.lt H1 b (by rw [allZ_app, hall]; simp)).2
  refine MemZ.perm (MemZ.turn (rs' := [Blk.res ⟨b, T, cs'⟩, DI.res ⟨F', MP.own F' cs' x'⟩]) H1 (by rw [hall]; exact hc) (fun c h => ?_) ?_ (zs_tight hR) (fun q hq => ?_)) hp'.symm
  · rw [hall] at h ⊢
    rcases List.mem_cons.1 h with rfl | h
    · exact .inl (List.mem_cons_self ..)
    · obtain ⟨h1, h2⟩ := hbk.2 c h
      exact h1.elim (fun h => .inr ⟨h, h2⟩) fun h => .inl (List.mem_cons_of_mem _ h)
  · rw [hall]
    exact List.nodup_cons.2 ⟨hbF, hbk.1⟩
  · have : q = Blk.res ⟨b, T, cs'⟩ ∨ q = DI.res ⟨F', MP.own F' cs' x'⟩ := by simpa using hq
    rcases this with rfl | rfl
    · exact hb
    · exact ⟨⟨ho, fun b h => h⟩, fun b h => (hbk.2 b h).2⟩
theorem Mem.endBO {F : List Nat} {d : DI} {b : Nat} {T : TypeId} {cs : List Value} (H : Mem ⟨w1, b :: F⟩ S M R (d :: D) I w) (i : Nat) (hi : M[i]? = some ⟨b, T, cs⟩) : Back w1 w F d.F ∧ b ∉ d.F := by
  have hall : ∀ (m : Blk) (e : DI), allZ [m.res, e.res] = m.b :: e.F := fun m e => by simp [allZ, Res.all, Blk.res, DI.res]
  have hp : (zs M R (d :: D)).Perm ([Blk.res ⟨b, T, cs⟩, d.res] ++ zs (M.eraseIdx i) R D) := (zsM_out hi).trans ((zsD_cons _).append_left [_])
  have H1 := MemZ.perm H hp
  have hnd := MemZ.nd H1
  rw [allZ_app, hall] at hnd
  obtain ⟨h1, h2⟩ := List.nodup_cons.1 (List.nodup_append.1 hnd).1
  refine ⟨⟨h2, fun c hc => ?_⟩, h1⟩
  obtain ⟨h3, h4⟩ := MemZ.lt H1 c (by rw [allZ_app, hall]; exact List.mem_append.2 (.inl (List.mem_cons_of_mem _ hc)))
  refine ⟨?_, h4⟩
  rcases h3 with h3 | h3
  · exact .inl h3
  · rcases List.mem_cons.1 h3 with e | h3
    · subst e; exact absurd hc h1
    · exact .inr h3
end
section
variable {P : Program} {l : List Oper} {S : World → Prop} {a : Act} {w : World} {B : List Nat} {fuel : Nat} {bs : List Bool}
end
section
variable {P : Program} {a : Act} {w : World} {n : Nat} {L : List (Nat × Value)} {dst : Option Tmp} {ty : TypeId} {pos : String} {af : Array Edge} {g : Option (Nat × Bool)}
end
end AT

namespace AT
open Go Go.RowKit
section
variable {w w' w1 : World} {w0 : Base} {S : Nat → Prop} {M : List Blk} {R : List Row} {D : List DI} {I : List (Bool × MP)}
def NF (b : Nat) (F : List Nat) : Nat → Prop := fun c => c ∉ List.cons b F
theorem Mem.boPerm {b : Nat} {T : TypeId} {cs : List Value} {d : DI} (i : Nat) (hi : M[i]? = some ⟨b, T, cs⟩) : (zs M R (d :: D)).Perm ([Blk.res ⟨b, T, cs⟩, d.res] ++ zs (M.eraseIdx i) R D) := (zsM_out hi).trans ((zsD_cons _).append_left [_])
theorem Mem.boAll {b : Nat} {T : TypeId} {cs : List Value} (d : DI) : allZ [Blk.res ⟨b, T, cs⟩, d.res] = b :: d.F := by simp [allZ, Res.all, Blk.res, DI.res]
theorem Mem.boNd {d : DI} {b : Nat} {T : TypeId} {cs : List Value} (H : Mem w0 S M R (d :: D) I w) (i : Nat) (hi : M[i]? = some ⟨b, T, cs⟩) : List.Nodup (List.cons b d.F) := by
  have hnd := MemZ.nd (MemZ.perm H (Mem.boPerm i hi))
  rw [allZ_app, Mem.boAll] at hnd
  exact (List.nodup_append.1 hnd).1
theorem Mem.boDisj {d : DI} {b : Nat} {T : TypeId} {cs : List Value} (H : Mem w0 S M R (d :: D) I w) (i : Nat) (hi : M[i]? = some ⟨b, T, cs⟩) {c : Nat} (hc : c ∈ allZ (zs (M.eraseIdx i) R D)) : NF b d.F c := by
  have hnd := MemZ.nd (MemZ.perm H (Mem.boPerm i hi))
  rw [allZ_app, Mem.boAll] at hnd
  exact fun h => (List.nodup_append.1 hnd).2.2 c h c hc rfl
theorem Mem.argN {G : List Nat} {d : DI} {b : Nat} {T : TypeId} {cs : List Value} (H : Mem ⟨w1, G⟩ S M R (d :: D) I w) (i : Nat) (hi : M[i]? = some ⟨b, T, cs⟩) (hS : ∀ c ∈ G, ¬ S c) {p : MP} (h : p.pred w1 S) : p.pred w (NF b d.F) := by
  refine p.mono h fun c hc hlt => ?_
  have hn : ¬ (⟨w1, G⟩ : Base).nw c := by
    rintro (h1 | h1)
    · simp only at h1; omega
    · exact hS c h1 hc
  refine ⟨fun hx => ?_, (MemZ.below H).block c hn⟩
  exact hn (MemZ.lt (MemZ.perm H (Mem.boPerm i hi)) c (by rw [allZ_app, Mem.boAll]; exact List.mem_append.2 (.inl hx))).1
theorem Mem.argNv {G : List Nat} {d : DI} {b : Nat} {T : TypeId} {cs : List Value} (H : Mem ⟨w1, G⟩ S M R (d :: D) I w) (i : Nat) (hi : M[i]? = some ⟨b, T, cs⟩) (hS : ∀ c ∈ G, ¬ S c) {α : Type} [GoTy α] {cv : List Value} {x : α} (h : GoTy.rep w1 S cv x) : GoTy.rep w (NF b d.F) cv x := Mem.argN H i hi hS (p := MP.val cv x) h
theorem Mem.boxN {d : DI} {b : Nat} {T : TypeId} {cs : List Value} (H : Mem w0 S M R (d :: D) I w) (i : Nat) (hi : M[i]? = some ⟨b, T, cs⟩) (j : Nat) {b2 : Nat} {T2 : TypeId} {cs2 : List Value} (hj : M[j]? = some ⟨b2, T2, cs2⟩) (hij : Nat.beq j i = false) : (MP.cells ⟨b2, 0, none⟩ cs2).pred w (NF b d.F) := by
  have hne : j ≠ i := fun e => by subst e; simp at hij
  have hm : (⟨b2, T2, cs2⟩ : Blk) ∈ M.eraseIdx i := List.mem_eraseIdx_iff_getElem?.2 ⟨j, hne, hj⟩
  have ht := H.boxTrue j hj
  refine ⟨Mem.boDisj H i hi (List.mem_flatMap.2 ⟨Blk.res ⟨b2, T2, cs2⟩, List.mem_append.2 (.inl (List.mem_map.2 ⟨_, hm, rfl⟩)), ?_⟩), ht.2.1, ht.2.2⟩
  simp [Res.all, Blk.res]
end
section
variable {P : Program} {Q : Exit → Act → World → Prop} {a : Act} {w : World} {n : Nat} {L : List (Nat × Value)} {ty : TypeId} {pos : String} {af : Array Edge} {g : Option (Nat × Bool)} {K : Act → World → Prop} {d : Nat}
variable {w0 : Base} {S : Nat → Prop} {M : List Blk} {R : List Row} {D : List DI} {I : List (Bool × MP)}
end
section
variable {w : World} {w0 : Base} {S : Nat → Prop} {M : List Blk} {R : List Row} {D : List DI} {I : List (Bool × MP)}
end
section
variable {w w1 : World} {w0 : Base} {S : Nat → Prop} {M : List Blk} {R : List Row} {D : List DI} {I : List (Bool × MP)}
def NO (F : List Nat) : Nat → Prop := fun c => c ∉ F
theorem Mem.argO {G : List Nat} {d : DI} (H : Mem ⟨w1, G⟩ S M R (d :: D) I w) (hS : ∀ c ∈ G, ¬ S c) {α : Type} [GoTy α] {cv : List Value} {x : α} (h : GoTy.rep w1 S cv x) : GoTy.rep w (NO d.F) cv x := by
  refine GoTy.mono h fun c hc hlt => ?_
  have hn : ¬ (⟨w1, G⟩ : Base).nw c := by
    rintro (h1 | h1)
    · simp only at h1; omega
    · exact hS c h1 hc
  exact ⟨fun hx => hn (H.diNd.2 c hx).1, (MemZ.below H).block c hn⟩
end
end AT
