/- Elements put into a row and taken out of it, by the library (Insert, Delete): what a call does to rows that own their elements, once it is known what it does to cells. -/
import Derived.Test.YtokhhjepjbhhpaaGreatAtZ
import Derived.Test.YtokhhjepjbhhpaaGreatAtP4
set_option linter.unusedSimpArgs false
set_option linter.unusedVariables false
namespace AT
open Go Go.RowKit
def DelSpec (P : Program) (f : FuncId) (s : Nat) : Prop := ∀ (w : World) (A : Option Addr) (n cap : Nat) (E : TypeId) (cells : List Value) (i j : Nat), w.ownsRow 0 E s (.slice A n cap) n cells → (∀ u ∈ cells, u.oneCell' = true) → i ≤ j → j ≤ n →
  Calls P f #[.slice A n cap, .int .i64 i, .int .i64 j] w fun e w' => ∃ v, e = .returned v ∧ v = .slice A (n - (j - i)) cap ∧ w.grownBy w' (Value.slice A n cap).ownBlock ∧ w'.ownsRow 0 E s (.slice A (n - (j - i)) cap) (n - (j - i)) (cells.take (i * s) ++ cells.drop (j * s))
def InsSpec (P : Program) (f : FuncId) (s : Nat) : Prop := ∀ (w : World) (A A2 : Option Addr) (n cap m cap2 : Nat) (E E2 : TypeId) (cells vs : List Value) (i : Nat), w.ownsRow 0 E s (.slice A n cap) n cells → w.ownsRow 0 E2 s (.slice A2 m cap2) m vs → (∀ u ∈ cells, u.oneCell' = true) → (∀ u ∈ vs, u.oneCell' = true) →
  (∀ b, (Value.slice A n cap).ownBlock = some b → (Value.slice A2 m cap2).ownBlock ≠ some b) → i ≤ n → n + m ≤ 1099511627776 →
  Calls P f #[.slice A n cap, .int .i64 i, .slice A2 m cap2] w fun e w' => ∃ v, e = .returned v ∧ ∃ E1 A1 cap1, v = .slice A1 (n + m) cap1 ∧ w.grownBy w' (Value.slice A n cap).ownBlock ∧
    ((Value.slice A1 (n + m) cap1).ownBlock = (Value.slice A n cap).ownBlock ∨ ((Value.slice A1 (n + m) cap1).ownBlock = some w.heap.size ∧ w.heap.size < w'.heap.size)) ∧ w'.ownsRow 0 E1 s (.slice A1 (n + m) cap1) (n + m) (cells.take (i * s) ++ (vs ++ cells.drop (i * s)))
section
variable {P : Program} {Q : Exit → Act → World → Prop} {a : Act} {w : World} {w0 : Base} {n : Nat} {L : List (Nat × Value)} {K : Act → World → Prop} {S : Nat → Prop} {M : List Blk} {D : List DI} {I : List (Bool × MP)} {d : Tmp} {ty : TypeId} {pos : String} {af : Array Edge} {g : Option (Nat × Bool)}
theorem part_drop {α : Type} [GoTy α] (cells : List Value) (j q : Nat) : part' α (cells.drop (j * GoTy.n α)) q = part' α cells (q + j) := by
  unfold part'
  rw [List.drop_drop, Nat.add_mul, Nat.add_comm]
theorem part_take {α : Type} [GoTy α] (cells : List Value) {i q : Nat} (h : q < i) : part' α (cells.take (i * GoTy.n α)) q = part' α cells q := by
  unfold part'
  have h1 : (q + 1) * GoTy.n α ≤ i * GoTy.n α := Nat.mul_le_mul_right _ h
  rw [Nat.add_mul, Nat.one_mul] at h1
  rw [List.drop_take, List.take_take]
  congr 1
  omega
theorem take_len {α : Type} [GoTy α] {cells : List Value} {m i : Nat} (hl : cells.length = m * GoTy.n α) (h : i ≤ m) : (cells.take (i * GoTy.n α)).length = i * GoTy.n α := by
  have := Nat.mul_le_mul_right (GoTy.n α) h
  rw [List.length_take]
  omega
theorem row_one {α : Type} [GoTy α] {E : TypeId} {A : Option Addr} {cap : Nat} {xs : List α} {cells : List Value} (h : lrep w (fun _ => True) [.slice A xs.length cap] xs) (ho : w.ownsRow 0 E (GoTy.n α) (.slice A xs.length cap) xs.length cells) : ∀ u ∈ cells, u.oneCell' = true := by
  obtain ⟨A', c', hcs, hyc, hcm, hel⟩ := h
  simp only [List.cons.injEq, Value.slice.injEq, and_true] at hcs
  obtain ⟨rfl, -, rfl⟩ := hcs
  rcases ho.2 with ⟨hv, h0⟩ | ⟨gb, cap', cur, hv, hrest⟩
  · have : cells = [] := List.eq_nil_of_length_eq_zero (by rw [ho.1, h0, Nat.zero_mul])
    subst this
    intro u hu; cases hu
  · simp only [Value.slice.injEq] at hv
    obtain ⟨rfl, -, rfl⟩ := hv
    obtain ⟨news, g1, g2, g3, _⟩ := gather (w := w) (T := fun _ => True) (p := ⟨gb, 0, none⟩) xs 0 (fun k x hx => by
      obtain ⟨p', hp', _, h⟩ := hel k x hx
      injection hp' with hp'; subst hp'
      rwa [Nat.zero_add])
    simp only [Nat.zero_mul, Nat.zero_add] at g2
    intro u hu
    obtain ⟨j, hj, rfl⟩ := List.mem_iff_getElem.1 hu
    have hc := ho.cells (g := gb) rfl j _ (List.getElem?_eq_getElem hj)
    have hjn : j < news.length := by rw [g1, ← ho.1]; exact hj
    have hn := g2 j _ (List.getElem?_eq_getElem hjn)
    rw [hc] at hn
    injection hn with hn
    rw [hn]
    exact g3 _ (List.getElem_mem hjn)
theorem op_delR {R : List Row} (hf : Fr a n L) {α : Type} [GoTy α] {f : FuncId} {E0 : TypeId} {Fs : List (List Nat)} {A : Option Addr} {cap : Nat} {xs zs : List α} {i j : Int}
    (H : Mem w0 S M (⟨.ow Fs, E0, A, cap, xs⟩ :: R) D I w) (hk : CL P f) (hs : DelSpec P f (GoTy.n α)) {x y z : Operand} (hxs : evs L [x, y, z] = some [.slice A xs.length cap, .int .i64 i, .int .i64 j]) {ats : Array TypeId} (hd : dell xs i j = some zs) (hdn : d < n)
    (k : ∀ Fs' a' w', Fr a' n ((d, .slice A zs.length cap) :: L) → Mem w0 S M (⟨.ow Fs', E0, A, cap, zs⟩ :: R) D I w' → K a' w') : Oper.wp P ⟨some d, .call ⟨.value (.func f), [x, y, z].toArray, ats⟩, ty, pos, af, g⟩ a w K Q := by
  obtain ⟨cells, ho, hfit, he⟩ := H.rowAt (r := ⟨.ow Fs, E0, A, cap, xs⟩) (by simp)
  unfold dell at hd
  split at hd
  case isFalse => cases hd
  rename_i hij
  injection hd with hd
  obtain ⟨i, rfl⟩ := Int.eq_ofNat_of_zero_le hij.1
  obtain ⟨j, rfl⟩ := Int.eq_ofNat_of_zero_le (show 0 ≤ j by omega)
  simp only [Int.ofNat_eq_natCast, Int.toNat_natCast] at hd hij hxs
  have hzl : zs.length = xs.length - (j - i) := by rw [← hd]; simp; omega
  have hcl : cells.length = xs.length * GoTy.n α := ho.1
  have hfl : Fs.length = xs.length := hfit
  refine op_call hf hk hxs hdn (hs w A xs.length cap E0 cells i j ho (row_one (H.rowTrue 0 rfl) ho) (by omega) (by omega)) fun v w' a' hp hf' => ?_
  obtain ⟨rfl, h2, h3⟩ := hp
  rw [← hzl] at h3 hf'
  refine k (Fs.take i ++ Fs.drop j) a' w' hf' ?_
  have H1 := MemZ.perm H (zsR_cons _)
  have hnd := MemZ.nd H1
  rw [allZ_app, allZ_one] at hnd
  have hnd' := (List.nodup_append.1 hnd).1
  have e0 : (Row.res ⟨.ow Fs, E0, A, cap, xs⟩).all = (Value.slice A xs.length cap).ownBlock.toList ++ List.flatten Fs := rfl
  have eb : (Value.slice A zs.length cap).ownBlock = (Value.slice A xs.length cap).ownBlock := by cases A <;> rfl
  have e2 : (Row.res ⟨.ow (Fs.take i ++ Fs.drop j), E0, A, cap, zs⟩).all = (Value.slice A xs.length cap).ownBlock.toList ++ List.flatten (Fs.take i ++ Fs.drop j) := by rw [← eb]; rfl
  have hsl : (Fs.take i ++ Fs.drop j).Sublist Fs := by
    have h1 : (Fs.drop j).Sublist (Fs.drop i) := List.drop_sublist_drop_left _ (by omega)
    have := (List.Sublist.refl (Fs.take i)).append h1
    rwa [List.take_append_drop] at this
  have hfs : (List.flatten (Fs.take i ++ Fs.drop j)).Sublist (List.flatten Fs) := sub_flat hsl
  refine MemZ.perm (MemZ.step (rs' := [Row.res ⟨.ow (Fs.take i ++ Fs.drop j), E0, A, cap, zs⟩]) H1 ⟨h2.os, h2.tape, h2.output, h2.size, fun b hb hx => h2.block b hb fun e => hx ?_⟩ (fun b hb => .inl ?_) (fun b hb => .inl ?_) ?_ (fun hm q hq => ?_)) (zsR_cons _).symm
  · rw [fmZ_one]; show b ∈ (Value.slice A xs.length cap).ownBlock.toList; rw [← e]; simp
  · rw [allZ_one, e2] at hb
    rw [allZ_one, e0]
    exact ((List.Sublist.refl _).append hfs).mem hb
  · rw [fmZ_one] at hb ⊢
    have e : (Row.res ⟨.ow (Fs.take i ++ Fs.drop j), E0, A, cap, zs⟩).fm = (Row.res ⟨.ow Fs, E0, A, cap, xs⟩).fm := by
      show (Value.slice A zs.length cap).ownBlock.toList = (Value.slice A xs.length cap).ownBlock.toList
      rw [eb]
    rw [e] at hb; exact hb
  · rw [allZ_one, e2]
    rw [e0] at hnd'
    exact ((List.Sublist.refl _).append hfs).nodup hnd'
  · rw [List.mem_singleton] at hq; subst hq
    have hlt : ∀ b ∈ List.flatten Fs, b < w.heap.size := fun b hb => (MemZ.lt H1 b (by rw [allZ_app, allZ_one, e0]; exact List.mem_append.2 (.inl (List.mem_append.2 (.inr hb))))).2
    have hsame : ∀ b, b ∈ List.flatten Fs → w'.heap[b]? = w.heap[b]? := fun b hb => by
      refine h2.block b (hlt b hb) fun e => ?_
      have hm : b ∈ (Value.slice A xs.length cap).ownBlock.toList := by rw [← e]; simp
      rw [e0] at hnd'
      exact (List.nodup_append.1 hnd').2.2 b hm b hb rfl
    refine ⟨_, h3, by simp only [Kd.fits, List.length_append, List.length_take, List.length_drop]; omega, fun q e hi Fi hFi => ?_⟩
    simp only at hi
    rw [← hd] at hi
    have htl : (xs.take i).length = i := by rw [List.length_take]; omega
    have htf : (Fs.take i).length = i := by rw [List.length_take]; omega
    rw [List.getElem?_append] at hi hFi
    rw [htl] at hi
    rw [htf] at hFi
    split at hi
    · rename_i hq
      rw [if_pos hq, List.getElem?_take_of_lt hq] at hFi
      rw [List.getElem?_take_of_lt hq] at hi
      rw [part_app1 (take_len hcl (show i ≤ xs.length by omega)) hq, part_take _ hq]
      exact GoTy.own_mono (he q e hi Fi hFi) fun b hb => hsame b (mem_fs hFi hb)
    · rename_i hq
      rw [if_neg hq, List.getElem?_drop] at hFi
      rw [List.getElem?_drop] at hi
      rw [part_app2 (take_len hcl (show i ≤ xs.length by omega)) (by omega), part_drop, Nat.add_comm]
      exact GoTy.own_mono (he _ e hi Fi hFi) fun b hb => hsame b (mem_fs hFi hb)
theorem op_insR {R : List Row} (hf : Fr a n L) {α : Type} [GoTy α] {f : FuncId} {E0 E' : TypeId} {Fs Gs : List (List Nat)} {A A' : Option Addr} {cap cap' : Nat} {xs ys zs : List α} {i : Int}
    (H : Mem w0 S M (⟨.ow Fs, E0, A, cap, xs⟩ :: ⟨.ow Gs, E', A', cap', ys⟩ :: R) D I w) (hk : CL P f) (hs : InsSpec P f (GoTy.n α)) {x y z : Operand} (hxs : evs L [x, y, z] = some [.slice A xs.length cap, .int .i64 i, .slice A' ys.length cap']) {ats : Array TypeId} (hd : insl xs i ys = some zs) (hdn : d < n)
    (k : ∀ Fs' E1 A2 cap2 a' w', Fr a' n ((d, .slice A2 zs.length cap2) :: L) → Mem w0 S M (⟨.ow Fs', E1, A2, cap2, zs⟩ :: R) D I w' → K a' w') : Oper.wp P ⟨some d, .call ⟨.value (.func f), [x, y, z].toArray, ats⟩, ty, pos, af, g⟩ a w K Q := by
  obtain ⟨cells, ho, hfit, he⟩ := H.rowAt (r := ⟨.ow Fs, E0, A, cap, xs⟩) (by simp)
  obtain ⟨cells', ho', hfit', he'⟩ := H.rowAt (r := ⟨.ow Gs, E', A', cap', ys⟩) (by simp)
  unfold insl at hd
  split at hd
  case isFalse => cases hd
  rename_i hij
  injection hd with hd
  obtain ⟨i, rfl⟩ := Int.eq_ofNat_of_zero_le hij.1
  simp only [Int.ofNat_eq_natCast, Int.toNat_natCast] at hd hij hxs
  have hzl : zs.length = xs.length + ys.length := by rw [← hd]; simp; omega
  have hcl : cells.length = xs.length * GoTy.n α := ho.1
  have hcl' : cells'.length = ys.length * GoTy.n α := ho'.1
  have hfl : Fs.length = xs.length := hfit
  have hfl' : Gs.length = ys.length := hfit'
  have hp : (AT.zs M (⟨.ow Fs, E0, A, cap, xs⟩ :: ⟨.ow Gs, E', A', cap', ys⟩ :: R) D).Perm ([Row.res ⟨.ow Fs, E0, A, cap, xs⟩, Row.res ⟨.ow Gs, E', A', cap', ys⟩] ++ AT.zs M R D) := (zsR_cons _).trans ((zsR_cons _).append_left [_])
  have H1 := MemZ.perm H hp
  have hnd := MemZ.nd H1
  rw [allZ_app, allZ_two] at hnd
  have hnd' := (List.nodup_append.1 hnd).1
  have hlt : ∀ b ∈ allZ [Row.res ⟨.ow Fs, E0, A, cap, xs⟩, Row.res ⟨.ow Gs, E', A', cap', ys⟩], b < w.heap.size := fun b hb => (MemZ.lt H1 b (by rw [allZ_app]; exact List.mem_append.2 (.inl hb))).2
  have e0 : (Row.res ⟨.ow Fs, E0, A, cap, xs⟩).all = (Value.slice A xs.length cap).ownBlock.toList ++ List.flatten Fs := rfl
  have e1 : (Row.res ⟨.ow Gs, E', A', cap', ys⟩).all = (Value.slice A' ys.length cap').ownBlock.toList ++ List.flatten Gs := rfl
  rw [e0, e1] at hnd'
  refine op_call hf hk hxs hdn (hs w A A' xs.length cap ys.length cap' E0 E' cells cells' i ho ho' (row_one (H.rowTrue 0 rfl) ho) (row_one (H.rowTrue 1 rfl) ho') (fun b hb hb' => ?_) (by omega) (by omega)) fun v w' a' hp hf' => ?_
  · have h1 : b ∈ (Value.slice A xs.length cap).ownBlock.toList := by rw [hb]; simp
    have h2 : b ∈ (Value.slice A' ys.length cap').ownBlock.toList := by rw [hb']; simp
    exact (List.nodup_append.1 hnd').2.2 b (List.mem_append.2 (.inl h1)) b (List.mem_append.2 (.inl h2)) rfl
  obtain ⟨E1, A2, cap2, rfl, h2, h4, h3⟩ := hp
  rw [← hzl] at h3 hf' h4
  refine k (Fs.take i ++ (Gs ++ Fs.drop i)) E1 A2 cap2 a' w' hf' ?_
  have hperm : (List.flatten (Fs.take i ++ (Gs ++ Fs.drop i))).Perm (List.flatten Fs ++ List.flatten Gs) := by
    have h : List.flatten Fs = List.flatten (Fs.take i) ++ List.flatten (Fs.drop i) := by rw [← List.flatten_append, List.take_append_drop]
    rw [List.flatten_append, List.flatten_append, h, List.append_assoc]
    exact List.perm_append_comm.append_left _
  have e2 : (Row.res ⟨.ow (Fs.take i ++ (Gs ++ Fs.drop i)), E1, A2, cap2, zs⟩).all = (Value.slice A2 zs.length cap2).ownBlock.toList ++ List.flatten (Fs.take i ++ (Gs ++ Fs.drop i)) := rfl
  have hxg : ∀ b, b ∈ (Value.slice A2 zs.length cap2).ownBlock.toList → b ∈ (Value.slice A xs.length cap).ownBlock.toList ∨ (w.heap.size ≤ b ∧ b < w'.heap.size) := fun b hb => by
    rcases h4 with h | ⟨h, h'⟩
    · rw [h] at hb; exact .inl hb
    · rw [h] at hb; simp at hb; subst hb; exact .inr ⟨Nat.le_refl _, h'⟩
  have hflat : (List.flatten Fs ++ List.flatten Gs).Nodup := by
    refine List.Sublist.nodup ?_ hnd'
    exact (List.sublist_append_right _ _).append (List.sublist_append_right _ _)
  refine MemZ.perm (MemZ.step (rs' := [Row.res ⟨.ow (Fs.take i ++ (Gs ++ Fs.drop i)), E1, A2, cap2, zs⟩]) H1 ⟨h2.os, h2.tape, h2.output, h2.size, fun b hb hx => h2.block b hb fun e => hx ?_⟩ (fun b hb => ?_) (fun b hb => ?_) ?_ (fun hm q hq => ?_)) (zsR_cons _).symm
  · rw [fmZ_two]; exact List.mem_append.2 (.inl (by show b ∈ (Value.slice A xs.length cap).ownBlock.toList; rw [← e]; simp))
  · rw [allZ_one, e2] at hb
    rw [allZ_two, e0, e1]
    rcases List.mem_append.1 hb with h | h
    · exact (hxg b h).imp (fun h => List.mem_append.2 (.inl (List.mem_append.2 (.inl h)))) id
    · rcases List.mem_append.1 (hperm.mem_iff.1 h) with h | h
      · exact .inl (List.mem_append.2 (.inl (List.mem_append.2 (.inr h))))
      · exact .inl (List.mem_append.2 (.inr (List.mem_append.2 (.inr h))))
  · rw [fmZ_one] at hb; rw [fmZ_two]
    exact (hxg b hb).imp (fun h => List.mem_append.2 (.inl h)) (·.1)
  · rw [allZ_one, e2]
    refine ((List.Perm.refl _).append hperm).nodup_iff.2 ?_
    rcases h4 with h | ⟨h, h'⟩
    · rw [h]
      refine List.Sublist.nodup ?_ hnd'
      rw [← List.append_assoc]
      exact (List.Sublist.refl _).append (List.sublist_append_right _ _)
    · rw [h]
      simp only [Option.toList_some, List.singleton_append, List.nodup_cons]
      refine ⟨fun hb => ?_, hflat⟩
      have := hlt w.heap.size (by
        rw [allZ_two, e0, e1]
        simp only [List.mem_append] at hb ⊢
        exact hb.imp .inr .inr)
      omega
  · rw [List.mem_singleton] at hq; subst hq
    have hsame : ∀ b, b ∈ List.flatten Fs ++ List.flatten Gs → w'.heap[b]? = w.heap[b]? := fun b hb => by
      refine h2.block b (hlt b ?_) fun e => ?_
      · rw [allZ_two, e0, e1]
        simp only [List.mem_append] at hb ⊢
        exact hb.imp .inr .inr
      · have hm : b ∈ (Value.slice A xs.length cap).ownBlock.toList := by rw [← e]; simp
        rw [List.append_assoc] at hnd'
        refine (List.nodup_append.1 hnd').2.2 b hm b ?_ rfl
        simp only [List.mem_append] at hb ⊢
        exact hb.imp id .inr
    refine ⟨_, h3, by simp only [Kd.fits, List.length_append, List.length_take, List.length_drop]; omega, fun q e hi Fi hFi => ?_⟩
    simp only at hi
    rw [← hd] at hi
    have htl : (xs.take i).length = i := by rw [List.length_take]; omega
    have htf : (Fs.take i).length = i := by rw [List.length_take]; omega
    have htc := take_len hcl (show i ≤ xs.length by omega)
    rw [List.getElem?_append] at hi hFi
    rw [htl] at hi
    rw [htf] at hFi
    split at hi
    · rename_i hq
      rw [if_pos hq, List.getElem?_take_of_lt hq] at hFi
      rw [List.getElem?_take_of_lt hq] at hi
      rw [part_app1 htc hq, part_take _ hq]
      exact GoTy.own_mono (he q e hi Fi hFi) fun b hb => hsame b (List.mem_append.2 (.inl (mem_fs hFi hb)))
    · rename_i hq
      rw [if_neg hq] at hFi
      rw [part_app2 htc (by omega)]
      rw [List.getElem?_append] at hi hFi
      rw [hfl'] at hFi
      split at hi
      · rename_i hq2
        rw [if_pos hq2] at hFi
        rw [part_app1 hcl' hq2]
        exact GoTy.own_mono (he' _ e hi Fi hFi) fun b hb => hsame b (List.mem_append.2 (.inr (mem_fs hFi hb)))
      · rename_i hq2
        rw [if_neg hq2, List.getElem?_drop] at hFi
        rw [List.getElem?_drop] at hi
        rw [part_app2 hcl' (by omega), part_drop, Nat.add_comm]
        exact GoTy.own_mono (he _ e hi Fi hFi) fun b hb => hsame b (List.mem_append.2 (.inl (mem_fs hFi hb)))
end
end AT
