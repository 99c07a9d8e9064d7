/- The library's functions on texts, in the words of the walks; the library's variables that they read. -/
import Derived.Test.YtlemonjnolciiaaGreatDoorAtPX
import Derived.Test.YtlemonjnolciiaaGreatDoorRows
import Derived.Test.YtlemonjnolciiaaGreatDoorAtZ
import Derived.Shelf.Strings.Split
import Derived.Shelf.Strings.OnBuilder
import Derived.Shelf.Strings.Cut
import Derived.Shelf.Strconv.Itoa3
import Derived.Shelf.Strconv.Atoi
import Derived.Shelf.Strconv.AtoiErr
import Derived.BigCall
import Derived.Lib.AtoiBound
import Derived.Shelf.SlSortCmp.WholeK
import Derived.Shelf.SlSortCmp.NoneTotal
import Derived.Shelf.Sort.Plain
import Derived.Shelf.Slices.In.SortNone
import Derived.Shelf.Slices.CompactI
set_option linter.unusedSimpArgs false
set_option linter.unusedVariables false
namespace AT
open Go Go.RowKit Go.Proofs Go.Shelf
abbrev pwName : String := Go.Proofs.YtlemonjnolciiaaGreatDoor.Rows.fnTextsRow.named.headD ""
theorem Below.ofKit {B : Nat} {w w' : World} (h : Go.RowKit.Below B w w') : Below B w w' := ⟨h.os, h.tape, h.output, h.size, h.block, Nat.le_refl _⟩
theorem cell_of_heap {w : World} {g : Nat} {v : Value} {E : TypeId} {f : Nat × Nat} (h : w.heap[g]? = some (.cells #[v] E f)) : w.cell? ⟨g, 0, none⟩ = some v := by
  simp [World.cell?, h]
def GLm (gM gP gE : Nat) : MP := ⟨fun w S => (S gM ∧ S gP ∧ S gE) ∧ (∃ m E f, w.heap[gM]? = some (.cells #[.int .i64 m] E f)) ∧ (∃ E f, w.heap[gP]? = some (.cells (Go.Lib.pow10Tab.map (Value.int .u64)).toArray E f)) ∧ (∃ tp p E f, w.heap[gE]? = some (.cells #[.iface tp p] E f)), by
  rintro w w' S S' ⟨⟨s1, s2, s3⟩, ⟨m, E1, f1, h1⟩, ⟨E2, f2, h2⟩, ⟨tp, p, E3, f3, h3⟩⟩ hm
  have lt : ∀ {g : Nat} {o : Obj}, w.heap[g]? = some o → g < w.heap.size := fun {g o} h => by
    rcases Nat.lt_or_ge g w.heap.size with hl | hl
    · exact hl
    · rw [Array.getElem?_eq_none hl] at h; cases h
  obtain ⟨t1, e1⟩ := hm _ s1 (lt h1)
  obtain ⟨t2, e2⟩ := hm _ s2 (lt h2)
  obtain ⟨t3, e3⟩ := hm _ s3 (lt h3)
  exact ⟨⟨t1, t2, t3⟩, ⟨m, E1, f1, e1.trans h1⟩, ⟨E2, f2, e2.trans h2⟩, ⟨tp, p, E3, f3, e3.trans h3⟩⟩⟩
theorem glo_lt {w : World} {g : Nat} {o : Obj} (h : w.heap[g]? = some o) : g < w.heap.size := by
  rcases Nat.lt_or_ge g w.heap.size with hl | hl
  · exact hl
  · rw [Array.getElem?_eq_none hl] at h; cases h
theorem tx_tab {w0 w : World} {gP : Nat} {E : TypeId} {f : Nat × Nat} {P : Program} (hg : P.globalNamed pwName = some gP) (hp : w0.heap[gP]? = some (.cells (Go.Lib.pow10Tab.map (Value.int .u64)).toArray E f)) (hb : Go.RowKit.Below w0.heap.size w0 w) : Go.Lib.TabIs P w pwName .u64 Go.Lib.pow10Tab := by
  unfold Go.Lib.TabIs World.var?
  rw [hg, Option.bind_some, hb.block gP (glo_lt hp), hp]
section
variable {P : Program} {ρ : Ren} {w0 : World} {S : Nat → Prop} {gM gP gE : Nat}
theorem tx_cut (L : Lays.n145 P ρ) (hg : ρ.g 1 = gM) {T : Nat → Prop} {f : FuncId} (hf : ρ.f 145 = f) {v0_ v1_ : Value} {s sep : ByteArray} {r : ByteArray × ByteArray × Bool} (h0 : VR w0 S v0_ s) (h1 : VR w0 S v1_ sep) (hG : (GLm gM gP gE).pred w0 S) (hF : cutO s sep = some r) :
    Calls P f [v0_, v1_].toArray w0 fun e w' => ∃ v, e = .returned v ∧ (Below w0.heap.size w0 w' ∧ ∃ u0 u1 u2, v = .tuple #[u0, u1, u2] ∧ VR w' T u0 r.1 ∧ VR w' T u1 r.2.1 ∧ VR w' T u2 r.2.2) := by
  obtain rfl := VR_str h0
  obtain rfl := VR_str h1
  obtain ⟨-, ⟨m, E1, f1, hm⟩, -, -⟩ := hG
  unfold cutO at hF
  split at hF
  · rename_i hs
    obtain rfl := Option.some.inj hF
    subst hg hf
    refine (Any.strings_Cut L s sep m w0 hs (cell_of_heap hm)).mono fun e w' ⟨he, n, hw⟩ => ⟨_, he, ?_, _, _, _, rfl, mk_str, mk_str, mk_bool⟩
    subst hw
    exact ⟨rfl, rfl, rfl, Nat.le_refl _, fun _ _ => rfl, Nat.le_refl _⟩
  · cases hF
theorem tx_itoa (L : LaysM.n171 P ρ) (hg : P.globalNamed pwName = some gP) {T : Nat → Prop} {f : FuncId} (hf : ρ.f 171 = f) {v0_ : Value} {i : Int} {r : ByteArray} (h0 : VR w0 S v0_ i) (hG : (GLm gM gP gE).pred w0 S) (hF : itoaO i = some r) :
    Calls P f [v0_].toArray w0 fun e w' => ∃ v, e = .returned v ∧ (Below w0.heap.size w0 w' ∧ VR w' T v r) := by
  obtain rfl := VR_int h0
  obtain ⟨-, -, ⟨E, fz, hp⟩, -⟩ := hG
  unfold itoaO at hF
  split at hF
  · rename_i hi
    obtain rfl := Option.some.inj hF
    subst hf
    refine (Any.strconv_Itoa L i hi.1 hi.2 w0 ?_).mono fun e w' ⟨he, k, os, hw⟩ => ⟨_, he, ?_, mk_str⟩
    · show Go.Lib.TabIs P w0 pwName .u64 Go.Lib.pow10Tab
      unfold Go.Lib.TabIs World.var?
      rw [hg, Option.bind_some, hp]
    · subst hw
      exact Below.ofKit ⟨rfl, rfl, rfl, by simp [Go.Sort.grow, World.drewN], fun k hk => by simp [Go.Sort.grow, World.drewN, Array.getElem?_append, hk]⟩
  · cases hF
theorem tx_join (L : Lays.n156 P ρ) (X : Builder.Extra P ρ) {T : Nat → Prop} {f : FuncId} (hf : ρ.f 156 = f) {v0_ v1_ : Value} {elems : List ByteArray} {sep : ByteArray} {r : ByteArray} (h0 : VR w0 S v0_ elems) (h1 : VR w0 S v1_ sep) (hG : (GLm gM gP gE).pred w0 S) (hF : joinO elems sep = some r) :
    Calls P f [v0_, v1_].toArray w0 fun e w' => ∃ v, e = .returned v ∧ (Below w0.heap.size w0 w' ∧ VR w' T v r) := by
  obtain ⟨A, c, rfl, A', c', hcs, hle, hmx, hel⟩ := VR_list h0
  obtain rfl := VR_str h1
  simp only [List.cons.injEq, Value.slice.injEq, and_true, true_and] at hcs
  obtain ⟨rfl, rfl⟩ := hcs
  unfold joinO at hF
  split at hF
  · rename_i hi
    obtain rfl := Option.some.inj hF
    subst hf
    cases elems with
    | nil =>
      refine (Any.strings_Join_none L X A c sep w0).mono fun e w' ⟨he, hw⟩ => ?_
      subst hw
      exact ⟨_, he, Below.refl _ _, mk_str⟩
    | cons x xs =>
      obtain ⟨p, rfl, hS, cs0, hc0, hr0⟩ := hel 0 x rfl
      obtain rfl : cs0 = [.string x] := hr0
      have hp0 := hc0 0 _ rfl
      have ha : p.add (0 * GoTy.n ByteArray + 0) = p := by unfold Addr.add; rw [if_pos (by simp)]
      rw [ha] at hp0
      have hsp := World.cell?_spot hp0
      obtain ⟨b, o, sp⟩ := p
      have hb : sp = none := hsp
      subst hb
      refine (Any.strings_Join L X b o c (x :: xs) sep w0 (fun j y hj => ?_) ?_ hi.1 hle hi.2).mono fun e w' ⟨he, hw⟩ => ⟨_, he, Below.ofKit hw, mk_str⟩
      · obtain ⟨q, hq, -, cs, hc, hr⟩ := hel j y hj
        obtain rfl := Option.some.inj hq
        obtain rfl : cs = [.string y] := hr
        have := hc 0 _ rfl
        rw [add_lit] at this
        simpa [GoTy.n] using this
      · exact World.block_lt_of_cell? _ _ hp0
  · cases hF
theorem tx_split (L : Lays.n146 P ρ) (hi9 : (P.info? (ρ.t 9)).map (fun i => (i.zero, i.size, i.bytes)) = some (some (.string ByteArray.empty), 1, 16)) (hg : ρ.g 1 = gM) {f : FuncId} (hf : ρ.f 146 = f) {v0_ v1_ : Value} {s sep : ByteArray} {r : List ByteArray} (h0 : VR w0 S v0_ s) (h1 : VR w0 S v1_ sep) (hG : (GLm gM gP gE).pred w0 S) (hF : splitO s sep = some r) :
    Calls P f [v0_, v1_].toArray w0 fun e w' => ∃ v, e = .returned v ∧ (Below w0.heap.size w0 w' ∧ ∃ F0, VO w' F0 v r ∧ New w0 w' F0) := by
  obtain rfl := VR_str h0
  obtain rfl := VR_str h1
  obtain ⟨-, ⟨m, E1, f1, hm⟩, -, -⟩ := hG
  unfold splitO at hF
  split at hF
  · rename_i hs
    obtain rfl := Option.some.inj hF
    subst hg hf
    have hlen := Go.Lib.splitB_all sep hs.2 0 _ s rfl
    have hcnt := Go.Lib.countB_le sep hs.2 s.size s (Nat.le_refl _)
    refine (Any.strings_Split L hi9 s sep m w0 hs.1 (cell_of_heap hm) hs.2).mono fun e w' ⟨he, hw⟩ => ⟨_, he, ?_, [w0.heap.size], ⟨_, ⟨some ⟨w0.heap.size, 0, none⟩, Go.Lib.countB s sep + 1, ρ.t 9, (Go.Lib.splitB sep 0 (Go.Lib.countB s sep) s).map Value.string, List.replicate (Go.Lib.splitB sep 0 (Go.Lib.countB s sep) s).length [], rfl, ?_, ?_, ?_, ?_⟩, ?_⟩, ?_⟩
    · subst hw
      exact ⟨rfl, rfl, rfl, by rw [World.size_alloc]; exact Nat.le_succ _, fun k hk => Below.heap_alloc _ _ _ hk, Nat.le_refl _⟩
    · subst hw
      refine ⟨by simp [GoTy.n], .inr ⟨w0.heap.size, Go.Lib.countB s sep + 1, ((Go.Lib.splitB sep 0 (Go.Lib.countB s sep) s).map Value.string).toArray, rfl, Nat.zero_le _, heap_alloc_new _ _, by rw [hlen]; exact Nat.le_refl _, by unfold maxLen; omega, by simp [GoTy.n, hlen], ?_⟩⟩
      simp only [GoTy.n, Nat.mul_one]
      exact List.take_of_length_le (by simp)
    · simp [Value.ownBlock]
    · simp
    · intro i x Fi hx hFi
      have hFi' : Fi = [] := by
        rw [List.getElem?_replicate] at hFi
        split at hFi
        · exact (Option.some.inj hFi).symm
        · cases hFi
      subst hFi'
      refine ⟨rfl, ?_⟩
      unfold part'
      simp only [GoTy.n, Nat.mul_one]
      rw [← List.map_drop, ← List.map_take]
      have hil := (List.getElem?_eq_some_iff.1 hx)
      obtain ⟨hi, rfl⟩ := hil
      rw [← List.getElem_cons_drop hi]
      rfl
    · rw [hlen]; rfl
    · subst hw
      exact ⟨by simp, fun b hb => by
        simp only [List.mem_singleton] at hb
        subst hb
        rw [World.size_alloc]
        exact ⟨Nat.le_refl _, Nat.lt_succ_self _⟩⟩
  · cases hF
end
end AT

namespace AT
open Go Go.RowKit Go.Proofs Go.Sort Go.Lib Go.Shelf
theorem some_of_row {w : World} {E : TypeId} {s n cap : Nat} {A : Option Addr} {cells : List Value} (h0 : 0 < n) (ho : w.ownsRow 0 E s (.slice A n cap) n cells) : ∃ b, A = some ⟨b, 0, none⟩ ∧ b < w.heap.size ∧ n ≤ cap ∧ cap ≤ maxLen := by
  rcases ho.2 with ⟨-, hz⟩ | ⟨g', cap'', cur, hv, -, hg, hnc, hcm, -, -⟩
  · omega
  · simp only [Value.slice.injEq] at hv
    obtain ⟨hA, -, rfl⟩ := hv
    exact ⟨g', hA, (Array.getElem?_eq_some_iff.1 hg).1, hnc, hcm⟩
end AT

namespace AT
open Go Go.RowKit
structure Ix (C : List (List Value)) where
  i : Nat
@[reducible] def ixTy (C : List (List Value)) (k : Nat) (ag : Bool) (hk : 0 < k) (hC : ∀ c ∈ C, c.length = k ∧ ∀ v ∈ c, v.oneCell' = true) : GoTy (Ix C) where
  n := k
  agg := ag
  flat := true
  rep _ _ cs x := C[x.i]? = some cs
  own _ F cs x := F = [] ∧ C[x.i]? = some cs
  pos := hk
  len := fun h => (hC _ (List.mem_of_getElem? h)).1
  one := fun h => (hC _ (List.mem_of_getElem? h)).2
  mono := fun h _ => h
  own_rep := fun h => h.2
  own_mono := fun h _ => h
  own_lt := by rintro _ _ _ _ ⟨rfl, _⟩ _ h; cases h
  own_flat := fun _ h => ⟨rfl, h⟩
section
variable {w w' w1 : World} {w0 : Base} {S : Nat → Prop} {M : List Blk} {R : List Row} {D : List DI} {I : List (Bool × MP)}
end
section
variable {w w' : World} {w0 : World} {S : Nat → Prop} {M : List Blk} {R : List Row} {D : List DI} {I : List (Bool × MP)}
end
structure DelSt (α σ : Type) where
  i : Nat
  j : Nat
  s : σ
  G : List Nat
  y : List α
structure DelInv {α σ : Type} (del : α → σ → Option (Bool × σ)) (x r : List α) (s1 : σ) (z : DelSt α σ) : Prop where
  lt : z.i < z.j
  le : z.j ≤ x.length
  len : z.y.length = x.length
  drop : z.y.drop z.j = x.drop z.j
  rest : ∃ q, delO del (x.drop z.j) z.s = some (q, s1) ∧ r = z.y.take z.i ++ q
theorem DelInv.start {α σ : Type} {del : α → σ → Option (Bool × σ)} {x r l2 q2 : List α} {a0 : α} {s1 s : σ} {k : Nat} {G : List Nat} (hk : k < x.length) (hd : x.drop k = a0 :: l2) (hq : delO del l2 s = some (q2, s1)) (hr : r = x.take k ++ q2) : DelInv del x r s1 ⟨k, k + 1, s, G, x⟩ := by
  have h2 : x.drop (k + 1) = l2 := by rw [← List.drop_drop, hd]; rfl
  exact ⟨Nat.lt_succ_self _, hk, rfl, rfl, q2, by rw [h2]; exact hq, hr⟩
theorem DelInv.at_ {α σ : Type} {del : α → σ → Option (Bool × σ)} {x r : List α} {s1 : σ} {z : DelSt α σ} (h : DelInv del x r s1 z) (hj : z.j < z.y.length) : ∃ q, del z.y[z.j] z.s = some q ∧
    (q.1 = true → ∀ G, DelInv del x r s1 ⟨z.i, z.j + 1, q.2, G, z.y⟩) ∧ (q.1 = false → ∀ G, DelInv del x r s1 ⟨z.i + 1, z.j + 1, q.2, G, z.y.set z.i z.y[z.j]⟩) := by
  obtain ⟨i, j, s, G, y⟩ := z
  obtain ⟨lt, le, len, drop, q, hq, hr⟩ := h
  change j < y.length at hj
  simp only at lt le len drop hq hr ⊢
  have hjx : j < x.length := by omega
  have e1 : x.drop j = y[j] :: x.drop (j + 1) := by
    rw [← drop, ← List.getElem_cons_drop hj]
    congr 1
    rw [← List.drop_drop, ← List.drop_drop, drop]
  have e2 : y.drop (j + 1) = x.drop (j + 1) := by rw [← List.drop_drop, ← List.drop_drop, drop]
  rw [e1] at hq
  obtain ⟨b, s', q', h1, h2, h3⟩ := delO_cons hq
  refine ⟨(b, s'), h1, fun hb G => ?_, fun hb G => ?_⟩
  · simp only at hb
    subst hb
    exact ⟨by simp only; omega, by simp only; omega, len, e2, q', h2, by rw [hr]; simp only at h3 ⊢; rw [h3]; rfl⟩
  · simp only at hb
    subst hb
    refine ⟨by simp only; omega, by simp only; omega, by simp only; rw [List.length_set]; exact len, ?_, q', h2, ?_⟩
    · simp only
      rw [List.drop_set_of_lt (by omega)]
      exact e2
    · simp only at h3 ⊢
      have hi : i < y.length := Nat.lt_trans lt hj
      rw [hr, h3]
      simp only [Bool.false_eq_true, if_false]
      rw [List.take_succ_eq_append_getElem (by rw [List.length_set]; exact hi), List.getElem_set_self, List.take_set_of_le (Nat.le_refl _), List.append_assoc]
      rfl
theorem Below.chg {w w' : World} (h : Below w.heap.size w w') (X : List Nat) : Chg w w' X := ⟨h.os, h.tape, h.output, h.size, fun k hk _ => h.block k hk, h.drawn⟩
section
variable {w w' w1 : World} {w0 : Base} {S : Nat → Prop} {M : List Blk} {R : List Row} {D : List DI} {I : List (Bool × MP)}
theorem Mem.wroteC {α : Type} [GoTy α] {F F' : List Nat} {c c' : List Value} {x x' : α} (H : Mem w0 S M R (⟨F, MP.own F c x⟩ :: D) I w) (hR : R.all Row.tightB = true) (hc : Chg w w' F) (ho : GoTy.own w' F' c' x') (hb : Back w w' F F') : Mem w0 S M R (⟨F', MP.own F' c' x'⟩ :: D) [] w' :=
  H.wroteP hR hc ⟨ho, fun _ h => h⟩ hb
end
end AT

namespace AT
open Go Go.RowKit Go.Proofs Go.Sort Go.Lib Go.Shelf
theorem lownI {w : World} {F : List Nat} {A : Option Addr} {cap : Nat} {x : List Int} (h : lown w F [.slice A x.length cap] x) : ∃ E, w.ownsRow 0 E 1 (.slice A x.length cap) x.length (x.map (Value.int .i64)) ∧ F = (Value.slice A x.length cap).ownBlock.toList := by
  obtain ⟨A', cap', E, cells, Fs, hcs, ho, hF, hl, hel⟩ := h
  obtain ⟨rfl, rfl⟩ : A = A' ∧ cap = cap' := by simpa using hcs
  have hlen : cells.length = x.length * 1 := ho.1
  have hE : ∀ (i : Nat) (y : Int) (Fi : List Nat), x[i]? = some y → Fs[i]? = some Fi → Fi = [] ∧ part' Int cells i = [.int .i64 y] := hel
  have hc : cells = x.map (Value.int .i64) := by
    apply List.ext_getElem?
    intro i
    by_cases hi : i < x.length
    · obtain ⟨Fi, hFi⟩ := get_fs hl (List.getElem?_eq_getElem hi)
      have h2 := (hE i _ Fi (List.getElem?_eq_getElem hi) hFi).2
      have h3 : (part' Int cells i)[0]? = some (.int .i64 x[i]) := by rw [h2]; rfl
      unfold part' at h3
      rw [show GoTy.n Int = 1 from rfl, Nat.mul_one, List.getElem?_take_of_lt (by omega), List.getElem?_drop, Nat.add_zero] at h3
      rw [h3, List.getElem?_map, List.getElem?_eq_getElem hi]; rfl
    · rw [List.getElem?_eq_none (by omega), List.getElem?_eq_none (by simp; omega)]
  have hz : List.flatten Fs = [] := by
    rw [List.flatten_eq_nil_iff]
    intro Fi hFi
    obtain ⟨i, hi⟩ := List.mem_iff_getElem?.1 hFi
    have hlt : i < x.length := by rw [← hl]; exact (List.getElem?_eq_some_iff.1 hi).1
    exact (hE i _ Fi (List.getElem?_eq_getElem hlt) hi).1
  exact ⟨E, by rw [← hc]; exact ho, by rw [hF, hz, List.append_nil]⟩
theorem lownI_of {w : World} {A : Option Addr} {cap : Nat} {E : TypeId} {x : List Int} (h : w.ownsRow 0 E 1 (.slice A x.length cap) x.length (x.map (Value.int .i64))) : lown w (Value.slice A x.length cap).ownBlock.toList [.slice A x.length cap] x := by
  refine ⟨A, cap, E, _, List.replicate x.length [], rfl, h, by rw [flatten_nil, List.append_nil], List.length_replicate, fun i y Fi hy hF => ?_⟩
  have hi := (List.getElem?_eq_some_iff.1 hy).1
  rw [List.getElem?_replicate, if_pos hi, Option.some.injEq] at hF
  subst hF
  refine ⟨rfl, ?_⟩
  unfold part'
  rw [show GoTy.n Int = 1 from rfl, Nat.mul_one, ← List.map_drop, ← List.map_take]
  obtain ⟨h1, rfl⟩ := List.getElem?_eq_some_iff.1 hy
  rw [← List.getElem_cons_drop h1]
  rfl
theorem putI_chg (w : World) (b m : Nat) (d : Array Int) (os : Array Obj) : Chg w (grow (putRow (Value.int .i64) (Sort.ahead w m) b 0 d) os) [b] := by
  unfold putRow mapBlock Go.Sort.grow Go.Sort.ahead
  refine ⟨rfl, rfl, rfl, by simp, fun c hc hn => ?_, Nat.le_refl _⟩
  simp only
  rw [Array.getElem?_append_left (by simpa using hc), Array.getElem?_modify, if_neg (fun e => hn (by simp [e]))]
theorem putI {w : World} {b n cap m : Nat} {E : TypeId} {cells : List Value} {d r : List Int} {os : Array Obj} (hd : d.length = n) (hr : r = d.take r.length) (hrl : r.length ≤ n) (ho : w.ownsRow 0 E 1 (.slice (some ⟨b, 0, none⟩) n cap) n cells) :
    (grow (putRow (Value.int .i64) (Sort.ahead w m) b 0 d.toArray) os).ownsRow 0 E 1 (.slice (some ⟨b, 0, none⟩) r.length cap) r.length (r.map (Value.int .i64)) := by
  refine ⟨by simp, ?_⟩
  rcases ho.2 with ⟨h', _⟩ | ⟨g', cap', cur, h', hB, hg, hnc, hcm, hcs, htake⟩
  · simp at h'
  · simp only [Value.slice.injEq, Option.some.injEq, Addr.mk.injEq, and_true, true_and] at h'
    obtain ⟨rfl, rfl⟩ := h'
    have hlt : b < w.heap.size := (Array.getElem?_eq_some_iff.1 hg).1
    have hsz : (putCells (Value.int .i64) 0 d.toArray cur).size = cur.size := by simp [putCells]
    refine .inr ⟨b, cap, putCells (Value.int .i64) 0 d.toArray cur, rfl, hB, ?_, by omega, hcm, by rw [hsz]; exact hcs, ?_⟩
    · unfold putRow mapBlock Go.Sort.grow Go.Sort.ahead
      simp only
      rw [Array.getElem?_append_left (by simpa using hlt), Array.getElem?_modify, if_pos rfl, hg]
      rfl
    · apply List.ext_getElem
      · rw [List.length_take, List.length_map, Array.length_toList (xs := putCells (Value.int .i64) 0 d.toArray cur), hsz]
        omega
      · intro i h1 h2
        have hi : i < r.length := by simpa using h2
        rw [List.getElem_take, Array.getElem_toList]
        simp only [putCells, Array.getElem_mapIdx]
        rw [if_pos ⟨Nat.zero_le _, by rw [List.size_toArray]; omega⟩]
        simp only [Nat.sub_zero]
        rw [List.getElem_map]
        congr 1
        have e : d.toArray[i]! = d[i]'(by omega) := by rw [getElem!_pos _ _ (by rw [List.size_toArray]; omega)]; simp
        rw [e]
        have h5 : r[i]? = (d.take r.length)[i]? := by rw [← hr]
        rw [List.getElem?_eq_getElem hi, List.getElem?_take_of_lt hi, List.getElem?_eq_getElem (by omega)] at h5
        exact (Option.some.inj h5).symm
theorem holdsI {w : World} {b n cap : Nat} {E : TypeId} {x : List Int} (hx : x.length = n) (ho : w.ownsRow 0 E 1 (.slice (some ⟨b, 0, none⟩) n cap) n (x.map (Value.int .i64))) : Holds (Value.int .i64) w b 0 x.toArray := by
  intro j hj
  rw [List.size_toArray] at hj
  have h1 := ho.cells (g := b) rfl j (.int .i64 x[j]) (by rw [List.getElem?_map, List.getElem?_eq_getElem hj]; rfl)
  rw [add_lit] at h1
  refine ⟨?_, ho.frozenAt _⟩
  rw [h1, getElem!_pos _ _ (by simpa using hj)]
  simp
theorem sortI_own {P : Program} {ρ : Ren} (L : Lays.n189 P ρ) {w0 : World} {F : List Nat} {A : Option Addr} {cap : Nat} {x r : List Int} (hO : lown w0 F [.slice A x.length cap] x) (hn : F.Nodup) (hr : sortI x = some r) :
    Calls P (ρ.f 189) #[.slice A x.length cap] w0 fun e w' => ∃ v, e = .returned v ∧ (Chg w0 w' F ∧ v = .tuple #[] ∧ ∃ F', lown w' F' [.slice A x.length cap] r ∧ Back w0 w' F F') := by
  have hlt := GoTy.own_lt (α := List Int) hO
  unfold sortI at hr
  split at hr
  case isFalse => cases hr
  rename_i hsz
  injection hr with hr
  have hrl : r.length = x.length := by rw [← hr]; simp
  rcases Nat.eq_zero_or_pos x.length with h0 | h0
  · have hx : x = [] := List.eq_nil_of_length_eq_zero h0
    subst hx
    have hr0 : r = [] := List.length_eq_zero_iff.1 hrl
    subst hr0
    refine (Any.slices_Sort_int_none L A cap w0).mono fun e w' ⟨he, hw⟩ => ⟨_, he, ?_⟩
    subst hw
    exact ⟨Chg.refl _ _, rfl, F, hO, hn, fun b hb => ⟨.inr hb, hlt b hb⟩⟩
  · obtain ⟨E, ho, rfl⟩ := lownI hO
    obtain ⟨b, rfl, hb, -, -⟩ := some_of_row h0 ho
    refine (Any.slices_Sort_int L b 0 cap x w0 (holdsI rfl ho) hb hsz).mono fun e w' ⟨he, m, os, hw⟩ => ⟨_, he, ?_⟩
    rw [hr] at hw
    have hc := putI_chg w0 b m r.toArray os
    have hp := putI (m := m) (os := os) (r := r) hrl (by simp) (by omega) ho
    rw [← hw] at hc hp
    refine ⟨hc, rfl, [b], ?_, by simp, fun c hcb => ⟨.inr hcb, Nat.lt_of_lt_of_le (hlt c hcb) hc.size⟩⟩
    rw [← hrl]
    exact lownI_of hp
theorem compact_eq (x : List Int) : Lib.compact x = compI x := by
  have h : ∀ m, m ≤ x.length → compactUpTo x.toArray m = compI (x.take m) := by
    intro m
    induction m with
    | zero => intro _; simp [compactUpTo, compI]
    | succ m ih =>
      intro hm
      rw [compactUpTo_succ, ih (by omega), List.take_succ_eq_append_getElem (by omega), compI_snoc]
      congr 1
      have e1 : x.toArray[m]! = x[m] := by rw [getElem!_pos _ _ (by simp; omega)]; simp
      by_cases h0 : m = 0
      · subst h0; simp [keeps, e1]
      · have e2 : x.toArray[m - 1]! = x[m - 1] := by rw [getElem!_pos _ _ (by simp; omega)]; simp
        have e3 : ((x.take m).getLast?).getD 0 = x[m - 1] := by
          rw [List.getLast?_eq_getElem?, List.length_take, Nat.min_eq_left (by omega), List.getElem?_take_of_lt (by omega), List.getElem?_eq_getElem (by omega)]; rfl
        have e4 : x.take m ≠ [] := by
          intro h
          have := congrArg List.length h
          rw [List.length_take, List.length_nil, Nat.min_eq_left (by omega)] at this
          omega
        rw [e3, e1]
        by_cases h5 : x[m] = x[m - 1]
        · simp [keeps, e1, e2, h5, h0, e4]
        · simp [keeps, e1, e2, h5, h0, e4]
  have := h x.length (Nat.le_refl _)
  rw [List.take_length] at this
  exact this
theorem compI_len (x : List Int) : (compI x).length ≤ x.length := by
  rw [← compact_eq]
  unfold Lib.compact compactUpTo
  rw [List.length_map]
  exact Nat.le_trans (List.length_filter_le _ _) (by simp)
theorem compI_own {P : Program} {ρ : Ren} (L : Lays2.n20 P ρ) {w0 : World} {F : List Nat} {A : Option Addr} {cap : Nat} {x r : List Int} (hO : lown w0 F [.slice A x.length cap] x) (hn : F.Nodup) (hr : some (compI x) = some r) :
    Calls P (ρ.f 20) #[.slice A x.length cap] w0 fun e w' => ∃ v, e = .returned v ∧ (Chg w0 w' F ∧ v = .slice A r.length cap ∧ ∃ F', lown w' F' [.slice A r.length cap] r ∧ Back w0 w' F F') := by
  have hlt := GoTy.own_lt (α := List Int) hO
  injection hr with hr
  rcases Nat.eq_zero_or_pos x.length with h0 | h0
  · have hx : x = [] := List.eq_nil_of_length_eq_zero h0
    subst hx
    subst hr
    refine (Any.slices_Compact_int_empty L A cap w0).mono fun e w' ⟨he, hw⟩ => ⟨_, he, ?_⟩
    subst hw
    exact ⟨Chg.refl _ _, rfl, F, hO, hn, fun b hb => ⟨.inr hb, hlt b hb⟩⟩
  · obtain ⟨E, ho, rfl⟩ := lownI hO
    obtain ⟨b, rfl, hb, hcap, hcm⟩ := some_of_row h0 ho
    have hx1 : x.length ≤ 9223372036854775807 := by
      have : maxLen ≤ 9223372036854775807 := by simp [maxLen]
      omega
    refine (Any.slices_Compact_int L b 0 cap x w0 (holdsI rfl ho) hx1 hcap).mono fun e w' ⟨he, q, hw⟩ => ⟨_, he, ?_⟩
    rw [compact_eq, hr] at hw
    rw [compact_eq, hr]
    have hrl : r.length ≤ x.length := by rw [← hr]; exact compI_len x
    rw [← grow_empty (putRow _ _ _ _ _)] at hw
    have hc := putI_chg w0 b q (r ++ List.replicate (x.length - r.length) 0).toArray #[]
    have hp := putI (m := q) (os := #[]) (r := r) (d := r ++ List.replicate (x.length - r.length) 0) (by simp; omega) (by simp) hrl ho
    rw [← hw] at hc hp
    exact ⟨hc, rfl, [b], lownI_of hp, by simp, fun c hcb => ⟨.inr hcb, Nat.lt_of_lt_of_le (hlt c hcb) hc.size⟩⟩
end AT
