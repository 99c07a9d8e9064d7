/- The types and closed facts on the program, by program (gen.py). -/
import Derived.Test.YtijgfgfolkbkoaaAtW
import Derived.Test.YtijgfgfolkbkoaaF
import Derived.Test.YtijgfgfolkbkoaaRows
set_option linter.unusedVariables false
set_option maxRecDepth 100000
namespace AT
open Go Go.RowKit Go.Proofs
instance : GoTy Frame := GoTy.via (α := (Int) × (Int) × (List Int)) (fun x => (x.Counter, x.Pointer, x.Payload))
theorem Frame_cells {w : World} {S : Nat → Prop} {cs : List Value} {x : Frame} (h : GoTy.rep w S cs x) : ∃ A1 c1, cs = [(.int .i64 x.Counter), (.int .i64 x.Pointer), (.slice A1 x.Payload.length c1)] ∧ lrep w S [.slice A1 x.Payload.length c1] x.Payload := by
  obtain ⟨p0, q0, rfl, g0, k0⟩ := h
  obtain rfl := g0
  obtain ⟨p1, q1, rfl, g1, k1⟩ := k0
  obtain rfl := g1
  obtain ⟨A1, c1, rfl, l1⟩ := list_cells k1
  exact ⟨A1, c1, rfl, l1⟩
theorem Frame_open {w : World} {S : Nat → Prop} {v : Value} {x : Frame} (h : VR w S v x) : ∃ A1 c1, v = (.agg #[(.int .i64 x.Counter), (.int .i64 x.Pointer), (.slice A1 x.Payload.length c1)]) ∧ lrep w S [.slice A1 x.Payload.length c1] x.Payload := by
  obtain ⟨cs, h, rfl⟩ := h
  obtain ⟨A1, c1, rfl, l1⟩ := Frame_cells h
  exact ⟨A1, c1, rfl, l1⟩
theorem Frame_mk {w : World} {S : Nat → Prop} {x : Frame} {A1 : Option Addr} {m1 c1 : Nat} (l1 : lrep w S [.slice A1 m1 c1] x.Payload) : GoTy.rep w S [(.int .i64 x.Counter), (.int .i64 x.Pointer), (.slice A1 m1 c1)] x := ⟨_, _, rfl, rfl, ⟨_, _, rfl, rfl, l1⟩⟩
theorem Frame_mkv {w : World} {S : Nat → Prop} {x : Frame} {A1 : Option Addr} {m1 c1 : Nat} (l1 : lrep w S [.slice A1 m1 c1] x.Payload) : VR w S (.agg #[(.int .i64 x.Counter), (.int .i64 x.Pointer), (.slice A1 m1 c1)]) x := ⟨_, Frame_mk l1, rfl⟩
theorem Frame_ownmk {w : World} {x : Frame} {A1 : Option Addr} {m1 c1 : Nat} {F1 : List Nat} (l1 : lown w F1 [.slice A1 m1 c1] x.Payload) : GoTy.own w F1 [(.int .i64 x.Counter), (.int .i64 x.Pointer), (.slice A1 m1 c1)] x := ⟨_, _, [], F1, rfl, by simp, ⟨rfl, rfl⟩, ⟨_, _, [], F1, rfl, by simp, ⟨rfl, rfl⟩, l1⟩⟩
theorem Frame_own {w : World} {F : List Nat} {cs : List Value} {x : Frame} (h : GoTy.own w F cs x) : ∃ A1 c1 F1, cs = [(.int .i64 x.Counter), (.int .i64 x.Pointer), (.slice A1 x.Payload.length c1)] ∧ F1 = F ∧ lown w F1 [.slice A1 x.Payload.length c1] x.Payload := by
  obtain ⟨p0, q0, X0, Y0, rfl, rfl, g0, k0⟩ := h
  obtain ⟨rfl, rfl⟩ := g0
  obtain ⟨p1, q1, X1, Y1, rfl, rfl, g1, k1⟩ := k0
  obtain ⟨rfl, rfl⟩ := g1
  obtain ⟨A1, c1, rfl, l1⟩ := own_list k1
  exact ⟨A1, c1, _, rfl, by simp, l1⟩
theorem Frame_vo {w : World} {F : List Nat} {v : Value} {x : Frame} (h : VO w F v x) : ∃ A1 c1 F1, v = (.agg #[(.int .i64 x.Counter), (.int .i64 x.Pointer), (.slice A1 x.Payload.length c1)]) ∧ F1 = F ∧ lown w F1 [.slice A1 x.Payload.length c1] x.Payload := by
  obtain ⟨cs, h, rfl⟩ := h
  obtain ⟨A1, c1, F1, rfl, rfl, l1⟩ := Frame_own h
  exact ⟨_, _, _, rfl, rfl, l1⟩
theorem Frame_ownc {w : World} {F : List Nat} {A1 : Option Addr} {m1 c1 : Nat} {i0 : Int} {i1 : Int} {x : Frame} (h : GoTy.own w F [(.int .i64 i0), (.int .i64 i1), (.slice A1 m1 c1)] x) : ∃ F1, F1 = F ∧ lown w F1 [.slice A1 m1 c1] x.Payload := by
  obtain ⟨A'1, c'1, F1, hcs, hFe, l1⟩ := Frame_own h
  simp only [List.cons.injEq, Value.slice.injEq, and_true] at hcs
  refine ⟨F1, hFe, ?_⟩
  · simp_all
theorem Lens.via {N α β : Type} [GoTy α] [GoTy β] {f : N → α} {q : Nat} {get : α → β} {put : α → β → α} (h : Lens α β q get put) (g : N → β) (p : N → β → N) (hg : ∀ e, g e = get (f e)) (hp : ∀ e y, f (p e y) = put (f e) y) : @Lens N β (GoTy.via f) _ q g p := by
  refine @Lens.mk N β (GoTy.via f) _ q g p ?_
  intro w F cs e ho
  obtain ⟨Fa, F1, Fc, c, hF, hc, h1, h2⟩ := h.at_ (e := f e) ho
  refine ⟨Fa, F1, Fc, c, hF, hc, by rw [hg]; exact h1, fun w1 F2 y a b d => ?_⟩
  have := h2 w1 F2 y a b d
  rw [← hp] at this; exact this
namespace TF
theorem ai3 : AI Try.prog 3 1 (.int .i64 0) 8 := by unfold AI; kernel_rfl
theorem cl110 : CL Try.prog 110 := fun _ _ => by kernel_rfl
theorem cl111 : CL Try.prog 111 := fun _ _ => by kernel_rfl
theorem cl115 : CL Try.prog 115 := fun _ _ => by kernel_rfl
theorem cl118 : CL Try.prog 118 := fun _ _ => by kernel_rfl
theorem cl119 : CL Try.prog 119 := fun _ _ => by kernel_rfl
theorem cl126 : CL Try.prog 126 := fun _ _ => by kernel_rfl
theorem cl127 : CL Try.prog 127 := fun _ _ => by kernel_rfl
theorem cl128 : CL Try.prog 128 := fun _ _ => by kernel_rfl
theorem cl129 : CL Try.prog 129 := fun _ _ => by kernel_rfl
theorem cl130 : CL Try.prog 130 := fun _ _ => by kernel_rfl
theorem cl153 : CL Try.prog 153 := fun _ _ => by kernel_rfl
theorem cl155 : CL Try.prog 155 := fun _ _ => by kernel_rfl
theorem cl156 : CL Try.prog 156 := fun _ _ => by kernel_rfl
theorem cl38 : CL Try.prog 38 := fun _ _ => by kernel_rfl
theorem cl39 : CL Try.prog 39 := fun _ _ => by kernel_rfl
theorem cl41 : CL Try.prog 41 := fun _ _ => by kernel_rfl
theorem cl43 : CL Try.prog 43 := fun _ _ => by kernel_rfl
theorem cl44 : CL Try.prog 44 := fun _ _ => by kernel_rfl
theorem cl45 : CL Try.prog 45 := fun _ _ => by kernel_rfl
theorem cl53 : CL Try.prog 53 := fun _ _ => by kernel_rfl
theorem cl65 : CL Try.prog 65 := fun _ _ => by kernel_rfl
theorem cl66 : CL Try.prog 66 := fun _ _ => by kernel_rfl
theorem cl67 : CL Try.prog 67 := fun _ _ => by kernel_rfl
theorem cl97 : CL Try.prog 97 := fun _ _ => by kernel_rfl
theorem cl98 : CL Try.prog 98 := fun _ _ => by kernel_rfl
theorem la40 : LA Try.prog 40 3 := fun _ _ => by kernel_rfl
theorem ls3 : LS Try.prog 3 := fun _ _ => by kernel_rfl
theorem ls35 : LS Try.prog 35 := fun _ _ => by kernel_rfl
theorem sz3 : SZ Try.prog 3 1 := fun _ => by kernel_rfl
theorem sz40 : SZ Try.prog 40 3 := fun _ => by kernel_rfl
theorem zv40 : ZV Try.prog 40 (.agg #[(.int .i64 0), (.int .i64 0), (.slice none 0 0)]) := fun _ => by kernel_rfl
end TF
def tab : Tab := ⟨[35], [4], [], [(40, 0, 0), (40, 1, 1), (40, 2, 2)]⟩
theorem inl_mem : ∀ {l : List Nat} {x : Nat}, inl l x = true → x ∈ l
  | y :: r, x, h => by
    unfold inl at h
    cases hb : Nat.beq y x <;> rw [hb] at h
    · exact List.mem_cons_of_mem _ (inl_mem h)
    · rw [Nat.eq_of_beq_eq_true hb]; exact List.mem_cons_self
theorem foff_mem : ∀ {l : List (TypeId × Nat × Nat)} {t f o : Nat}, foff l t f = some o → (t, f, o) ∈ l
  | (t', f', o') :: r, t, f, o, h => by
    unfold foff at h
    cases hb : (Nat.beq t' t && Nat.beq f' f) <;> rw [hb] at h
    · exact List.mem_cons_of_mem _ (foff_mem h)
    · simp only [Bool.and_eq_true] at hb
      injection h with h
      rw [Nat.eq_of_beq_eq_true hb.1, Nat.eq_of_beq_eq_true hb.2, h]; exact List.mem_cons_self
theorem tabOk : TabOk Try.prog tab where
  sl := fun T h => by
    have h := inl_mem h
    simp only [tab, List.mem_cons, List.not_mem_nil, or_false] at h
    rcases h with rfl
    · exact ⟨_, Try.underlying35⟩
  bo := fun T h => by
    have h := inl_mem h
    simp only [tab, List.mem_cons, List.not_mem_nil, or_false] at h
    rcases h with rfl
    · exact Try.underlying4
  st := fun T h => absurd (inl_mem h) (by simp [tab])
  fa := fun T f o h => by
    have h := foff_mem h
    simp only [tab, List.mem_cons, List.not_mem_nil, or_false, Prod.mk.injEq] at h
    rcases h with ⟨rfl, rfl, rfl⟩ | ⟨rfl, rfl, rfl⟩ | ⟨rfl, rfl, rfl⟩
    · exact fun _ _ => by kernel_rfl
    · exact fun _ _ => by kernel_rfl
    · exact fun _ _ => by kernel_rfl
end AT
