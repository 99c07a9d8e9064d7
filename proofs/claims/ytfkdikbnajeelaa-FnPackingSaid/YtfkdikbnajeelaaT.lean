/- The types and closed facts on the program, by program (gen.py). -/
import Derived.Test.YtfkdikbnajeelaaAtBP
import Derived.Test.YtfkdikbnajeelaaF
import Derived.Test.YtfkdikbnajeelaaRows
set_option linter.unusedVariables false
set_option maxRecDepth 100000
namespace AT
open Go Go.RowKit Go.Proofs
instance : GoTy L1CurP := GoTy.via (α := (List By) × (Int) × (U64)) (fun x => (x.code, x.at_, x.seed))
theorem L1CurP_cells {w : World} {S : Nat → Prop} {cs : List Value} {x : L1CurP} (h : GoTy.rep w S cs x) : ∃ A1 c1, cs = [(.slice A1 x.code.length c1), (.int .i64 x.at_), (.int .u64 x.seed.n)] ∧ lrep w S [.slice A1 x.code.length c1] x.code := by
  obtain ⟨p0, q0, rfl, g0, k0⟩ := h
  obtain ⟨A1, c1, rfl, l1⟩ := list_cells g0
  obtain ⟨p1, q1, rfl, g1, k1⟩ := k0
  obtain rfl := g1
  obtain rfl := k1
  exact ⟨A1, c1, rfl, l1⟩
theorem L1CurP_mk {w : World} {S : Nat → Prop} {x : L1CurP} {A1 : Option Addr} {m1 c1 : Nat} (l1 : lrep w S [.slice A1 m1 c1] x.code) : GoTy.rep w S [(.slice A1 m1 c1), (.int .i64 x.at_), (.int .u64 x.seed.n)] x := ⟨_, _, rfl, l1, ⟨_, _, rfl, rfl, rfl⟩⟩
theorem Lens.via {N α β : Type} [GoTy α] [GoTy β] {f : N → α} {q : Nat} {get : α → β} {put : α → β → α} (h : Lens α β q get put) (g : N → β) (p : N → β → N) (hg : ∀ e, g e = get (f e)) (hp : ∀ e y, f (p e y) = put (f e) y) : @Lens N β (GoTy.via f) _ q g p := by
  refine @Lens.mk N β (GoTy.via f) _ q g p ?_
  intro w F cs e ho
  obtain ⟨Fa, F1, Fc, c, hF, hc, h1, h2⟩ := h.at_ (e := f e) ho
  refine ⟨Fa, F1, Fc, c, hF, hc, by rw [hg]; exact h1, fun w1 F2 y a b d => ?_⟩
  have := h2 w1 F2 y a b d
  rw [← hp] at this; exact this
namespace TF
theorem ai3 : AI Try.prog 3 1 (.int .i64 0) 8 := by unfold AI; kernel_rfl
theorem cl10 : CL Try.prog 10 := fun _ _ => by kernel_rfl
theorem cl11 : CL Try.prog 11 := fun _ _ => by kernel_rfl
theorem cl12 : CL Try.prog 12 := fun _ _ => by kernel_rfl
theorem cl13 : CL Try.prog 13 := fun _ _ => by kernel_rfl
theorem cl14 : CL Try.prog 14 := fun _ _ => by kernel_rfl
theorem cl15 : CL Try.prog 15 := fun _ _ => by kernel_rfl
theorem cl16 : CL Try.prog 16 := fun _ _ => by kernel_rfl
theorem cl17 : CL Try.prog 17 := fun _ _ => by kernel_rfl
theorem cl18 : CL Try.prog 18 := fun _ _ => by kernel_rfl
theorem cl19 : CL Try.prog 19 := fun _ _ => by kernel_rfl
theorem cl20 : CL Try.prog 20 := fun _ _ => by kernel_rfl
theorem cl21 : CL Try.prog 21 := fun _ _ => by kernel_rfl
theorem cl22 : CL Try.prog 22 := fun _ _ => by kernel_rfl
theorem cl23 : CL Try.prog 23 := fun _ _ => by kernel_rfl
theorem cl24 : CL Try.prog 24 := fun _ _ => by kernel_rfl
theorem cl25 : CL Try.prog 25 := fun _ _ => by kernel_rfl
theorem cl26 : CL Try.prog 26 := fun _ _ => by kernel_rfl
theorem cl27 : CL Try.prog 27 := fun _ _ => by kernel_rfl
theorem cl28 : CL Try.prog 28 := fun _ _ => by kernel_rfl
theorem cl29 : CL Try.prog 29 := fun _ _ => by kernel_rfl
theorem cl30 : CL Try.prog 30 := fun _ _ => by kernel_rfl
theorem cl31 : CL Try.prog 31 := fun _ _ => by kernel_rfl
theorem cl32 : CL Try.prog 32 := fun _ _ => by kernel_rfl
theorem cl33 : CL Try.prog 33 := fun _ _ => by kernel_rfl
theorem cl34 : CL Try.prog 34 := fun _ _ => by kernel_rfl
theorem cl35 : CL Try.prog 35 := fun _ _ => by kernel_rfl
theorem cl36 : CL Try.prog 36 := fun _ _ => by kernel_rfl
theorem cl37 : CL Try.prog 37 := fun _ _ => by kernel_rfl
theorem cl38 : CL Try.prog 38 := fun _ _ => by kernel_rfl
theorem cl39 : CL Try.prog 39 := fun _ _ => by kernel_rfl
theorem cl4 : CL Try.prog 4 := fun _ _ => by kernel_rfl
theorem cl40 : CL Try.prog 40 := fun _ _ => by kernel_rfl
theorem cl41 : CL Try.prog 41 := fun _ _ => by kernel_rfl
theorem cl42 : CL Try.prog 42 := fun _ _ => by kernel_rfl
theorem cl43 : CL Try.prog 43 := fun _ _ => by kernel_rfl
theorem cl5 : CL Try.prog 5 := fun _ _ => by kernel_rfl
theorem cl52 : CL Try.prog 52 := fun _ _ => by kernel_rfl
theorem cl53 : CL Try.prog 53 := fun _ _ => by kernel_rfl
theorem cl55 : CL Try.prog 55 := fun _ _ => by kernel_rfl
theorem cl6 : CL Try.prog 6 := fun _ _ => by kernel_rfl
theorem cl7 : CL Try.prog 7 := fun _ _ => by kernel_rfl
theorem cl8 : CL Try.prog 8 := fun _ _ => by kernel_rfl
theorem cl9 : CL Try.prog 9 := fun _ _ => by kernel_rfl
theorem ls22 : LS Try.prog 22 := fun _ _ => by kernel_rfl
theorem ls24 : LS Try.prog 24 := fun _ _ => by kernel_rfl
theorem ls3 : LS Try.prog 3 := fun _ _ => by kernel_rfl
theorem ls34 : LS Try.prog 34 := fun _ _ => by kernel_rfl
theorem ls5 : LS Try.prog 5 := fun _ _ => by kernel_rfl
theorem sz3 : SZ Try.prog 3 1 := fun _ => by kernel_rfl
theorem sz34 : SZ Try.prog 34 1 := fun _ => by kernel_rfl
theorem sz5 : SZ Try.prog 5 1 := fun _ => by kernel_rfl
theorem zv3 : ZV Try.prog 3 (.int .i64 0) := fun _ => by kernel_rfl
end TF
def tab : Tab := ⟨[22, 24], [4], [], [(36, 0, 0), (36, 1, 1), (36, 2, 2)]⟩
theorem inl_mem : ∀ {l : List Nat} {x : Nat}, inl l x = true → x ∈ l
  | y :: r, x, h => by
    unfold inl at h
    cases hb : Nat.beq y x <;> rw [hb] at h
    · exact List.mem_cons_of_mem _ (inl_mem h)
    · rw [Nat.eq_of_beq_eq_true hb]; exact List.mem_cons_self
theorem foff_mem : ∀ {l : List (TypeId × Nat × Nat)} {t f o : Nat}, foff l t f = some o → (t, f, o) ∈ l
  | (t', f', o') :: r, t, f, o, h => by
    unfold foff at h
    cases hb : (Nat.beq t' t && Nat.beq f' f) <;> rw [hb] at h
    · exact List.mem_cons_of_mem _ (foff_mem h)
    · simp only [Bool.and_eq_true] at hb
      injection h with h
      rw [Nat.eq_of_beq_eq_true hb.1, Nat.eq_of_beq_eq_true hb.2, h]; exact List.mem_cons_self
theorem tabOk : TabOk Try.prog tab where
  sl := fun T h => by
    have h := inl_mem h
    simp only [tab, List.mem_cons, List.not_mem_nil, or_false] at h
    rcases h with rfl | rfl
    · exact ⟨_, Try.underlying22⟩
    · exact ⟨_, Try.underlying24⟩
  bo := fun T h => by
    have h := inl_mem h
    simp only [tab, List.mem_cons, List.not_mem_nil, or_false] at h
    rcases h with rfl
    · exact Try.underlying4
  st := fun T h => absurd (inl_mem h) (by simp [tab])
  fa := fun T f o h => by
    have h := foff_mem h
    simp only [tab, List.mem_cons, List.not_mem_nil, or_false, Prod.mk.injEq] at h
    rcases h with ⟨rfl, rfl, rfl⟩ | ⟨rfl, rfl, rfl⟩ | ⟨rfl, rfl, rfl⟩
    · exact fun _ _ => by kernel_rfl
    · exact fun _ _ => by kernel_rfl
    · exact fun _ _ => by kernel_rfl
section
variable {Q : Exit → Act → World → Prop} {w : World} {n : Nat}
theorem pr {ops : List Oper} (k : Nat) {L : List (Nat × Value)} {l : List Oper} {L' : List (Nat × Value)} {l' : List Oper} {a : Act} (hf : Fr a n L) (hd : dstOk n l = true) (h : pRun tab ops k L l = (L', l')) (hk : ∀ a', Fr a' n L' → wpList Try.prog ops.toArray Q l' a' w) : wpList Try.prog ops.toArray Q l a w := pRun_ok tabOk k L l hf hd h hk
variable {S0 : World → Prop} {B : List Nat} {bs : List Bool} {a : Act} {fuel d : Nat} {L : List (Nat × Value)} {Mid : Act → World → Prop} {op : Op} {v : Value} {l : List Oper} {t : TypeId} {ps : String} {af : Array Edge}
theorem tp (i : Nat) (hi : l[i]? = some ⟨some d, op, t, ps, af, none⟩) (hdn : Nat.ble (d + 1) n = true) (hf : Fr a n L) (hc : takeB l bs i [] B = true) (hS : nb B bs.toArray = true → S0 w) (hv : pOp tab L op = some v) (h : ∀ a', Fr a' n ((d, v) :: L) → DL Try.prog l Mid S0 B fuel (bs.set i true) a' w) : DL Try.prog l Mid S0 B (fuel + 1) bs a w := tP i hi rfl rfl hdn hf hc hS (fun _ => pOp_ok tabOk hf hv) h
theorem tpg (i : Nat) {j e : Nat} {b : Bool} (hi : l[i]? = some ⟨some d, op, t, ps, af, some (j, b)⟩) (hj : (l[j]?).bind (·.dst) = some e) (hb : lk L e = some (.bool b)) (hdn : Nat.ble (d + 1) n = true) (hf : Fr a n L) (hc : takeB l bs i [] B = true) (hS : nb B bs.toArray = true → S0 w) (hv : pOp tab L op = some v) (h : ∀ a', Fr a' n ((d, v) :: L) → DL Try.prog l Mid S0 B fuel (bs.set i true) a' w) : DL Try.prog l Mid S0 B (fuel + 1) bs a w := tPg i hi rfl rfl hj hb hdn hf hc hS (fun _ => pOp_ok tabOk hf hv) h
end
end AT
