/- The types and closed facts on the program, by program (gen.py). -/
import Derived.Test.YtijgfgfolkbkoaaAtZ
import Derived.Test.YtijgfgfolkbkoaaF
import Derived.Test.YtijgfgfolkbkoaaRows
set_option linter.unusedVariables false
set_option maxRecDepth 100000
namespace AT
open Go Go.RowKit Go.Proofs
instance : GoTy Span := GoTy.via (α := (Int) × (Int) × (Int)) (fun x => (x.Length, x.Loss, x.Splices))
theorem Span_cells {w : World} {S : Nat → Prop} {cs : List Value} {x : Span} (h : GoTy.rep w S cs x) : cs = [(.int .i64 x.Length), (.int .i64 x.Loss), (.int .i64 x.Splices)] := by
  obtain ⟨p0, q0, rfl, g0, k0⟩ := h
  obtain rfl := g0
  obtain ⟨p1, q1, rfl, g1, k1⟩ := k0
  obtain rfl := g1
  obtain rfl := k1
  exact rfl
theorem Span_open {w : World} {S : Nat → Prop} {v : Value} {x : Span} (h : VR w S v x) : v = (.agg #[(.int .i64 x.Length), (.int .i64 x.Loss), (.int .i64 x.Splices)]) := by
  obtain ⟨cs, h, rfl⟩ := h
  obtain rfl := Span_cells h
  exact rfl
theorem Span_mk {w : World} {S : Nat → Prop} {x : Span} : GoTy.rep w S [(.int .i64 x.Length), (.int .i64 x.Loss), (.int .i64 x.Splices)] x := ⟨_, _, rfl, rfl, ⟨_, _, rfl, rfl, rfl⟩⟩
theorem Span_mkv {w : World} {S : Nat → Prop} {x : Span} : VR w S (.agg #[(.int .i64 x.Length), (.int .i64 x.Loss), (.int .i64 x.Splices)]) x := ⟨_, Span_mk, rfl⟩
theorem Span_ownmk {w : World} {x : Span} : GoTy.own w [] [(.int .i64 x.Length), (.int .i64 x.Loss), (.int .i64 x.Splices)] x := ⟨_, _, [], [], rfl, by simp, ⟨rfl, rfl⟩, ⟨_, _, [], [], rfl, by simp, ⟨rfl, rfl⟩, ⟨rfl, rfl⟩⟩⟩
theorem Span_ownF {w : World} {F : List Nat} {cs : List Value} {x : Span} (h : GoTy.own w F cs x) : F = [] := by
  obtain ⟨p0, q0, X0, Y0, rfl, rfl, g0, k0⟩ := h
  obtain ⟨rfl, rfl⟩ := g0
  obtain ⟨p1, q1, X1, Y1, rfl, rfl, g1, k1⟩ := k0
  obtain ⟨rfl, rfl⟩ := g1
  obtain ⟨rfl, rfl⟩ := k1
  rfl
instance : GoTy Amplifier := GoTy.via (α := (Int) × (Int) × (Int) × (Int)) (fun x => (x.After, x.Gain, x.Output, x.Noise))
theorem Amplifier_cells {w : World} {S : Nat → Prop} {cs : List Value} {x : Amplifier} (h : GoTy.rep w S cs x) : cs = [(.int .i64 x.After), (.int .i64 x.Gain), (.int .i64 x.Output), (.int .i64 x.Noise)] := by
  obtain ⟨p0, q0, rfl, g0, k0⟩ := h
  obtain rfl := g0
  obtain ⟨p1, q1, rfl, g1, k1⟩ := k0
  obtain rfl := g1
  obtain ⟨p2, q2, rfl, g2, k2⟩ := k1
  obtain rfl := g2
  obtain rfl := k2
  exact rfl
theorem Amplifier_open {w : World} {S : Nat → Prop} {v : Value} {x : Amplifier} (h : VR w S v x) : v = (.agg #[(.int .i64 x.After), (.int .i64 x.Gain), (.int .i64 x.Output), (.int .i64 x.Noise)]) := by
  obtain ⟨cs, h, rfl⟩ := h
  obtain rfl := Amplifier_cells h
  exact rfl
theorem Amplifier_mk {w : World} {S : Nat → Prop} {x : Amplifier} : GoTy.rep w S [(.int .i64 x.After), (.int .i64 x.Gain), (.int .i64 x.Output), (.int .i64 x.Noise)] x := ⟨_, _, rfl, rfl, ⟨_, _, rfl, rfl, ⟨_, _, rfl, rfl, rfl⟩⟩⟩
theorem Amplifier_mkv {w : World} {S : Nat → Prop} {x : Amplifier} : VR w S (.agg #[(.int .i64 x.After), (.int .i64 x.Gain), (.int .i64 x.Output), (.int .i64 x.Noise)]) x := ⟨_, Amplifier_mk, rfl⟩
theorem Amplifier_ownmk {w : World} {x : Amplifier} : GoTy.own w [] [(.int .i64 x.After), (.int .i64 x.Gain), (.int .i64 x.Output), (.int .i64 x.Noise)] x := ⟨_, _, [], [], rfl, by simp, ⟨rfl, rfl⟩, ⟨_, _, [], [], rfl, by simp, ⟨rfl, rfl⟩, ⟨_, _, [], [], rfl, by simp, ⟨rfl, rfl⟩, ⟨rfl, rfl⟩⟩⟩⟩
theorem Amplifier_ownF {w : World} {F : List Nat} {cs : List Value} {x : Amplifier} (h : GoTy.own w F cs x) : F = [] := by
  obtain ⟨p0, q0, X0, Y0, rfl, rfl, g0, k0⟩ := h
  obtain ⟨rfl, rfl⟩ := g0
  obtain ⟨p1, q1, X1, Y1, rfl, rfl, g1, k1⟩ := k0
  obtain ⟨rfl, rfl⟩ := g1
  obtain ⟨p2, q2, X2, Y2, rfl, rfl, g2, k2⟩ := k1
  obtain ⟨rfl, rfl⟩ := g2
  obtain ⟨rfl, rfl⟩ := k2
  rfl
theorem Lens.via {N α β : Type} [GoTy α] [GoTy β] {f : N → α} {q : Nat} {get : α → β} {put : α → β → α} (h : Lens α β q get put) (g : N → β) (p : N → β → N) (hg : ∀ e, g e = get (f e)) (hp : ∀ e y, f (p e y) = put (f e) y) : @Lens N β (GoTy.via f) _ q g p := by
  refine @Lens.mk N β (GoTy.via f) _ q g p ?_
  intro w F cs e ho
  obtain ⟨Fa, F1, Fc, c, hF, hc, h1, h2⟩ := h.at_ (e := f e) ho
  refine ⟨Fa, F1, Fc, c, hF, hc, by rw [hg]; exact h1, fun w1 F2 y a b d => ?_⟩
  have := h2 w1 F2 y a b d
  rw [← hp] at this; exact this
namespace TF
theorem ai28 : AI Try.prog 28 3 (.agg #[(.int .i64 0), (.int .i64 0), (.int .i64 0)]) 24 := by unfold AI; kernel_rfl
theorem ai3 : AI Try.prog 3 1 (.int .i64 0) 8 := by unfold AI; kernel_rfl
theorem ai88 : AI Try.prog 88 4 (.agg #[(.int .i64 0), (.int .i64 0), (.int .i64 0), (.int .i64 0)]) 32 := by unfold AI; kernel_rfl
theorem cl100 : CL Try.prog 100 := fun _ _ => by kernel_rfl
theorem cl101 : CL Try.prog 101 := fun _ _ => by kernel_rfl
theorem cl102 : CL Try.prog 102 := fun _ _ => by kernel_rfl
theorem cl106 : CL Try.prog 106 := fun _ _ => by kernel_rfl
theorem cl107 : CL Try.prog 107 := fun _ _ => by kernel_rfl
theorem cl120 : CL Try.prog 120 := fun _ _ => by kernel_rfl
theorem cl121 : CL Try.prog 121 := fun _ _ => by kernel_rfl
theorem cl122 : CL Try.prog 122 := fun _ _ => by kernel_rfl
theorem cl138 : CL Try.prog 138 := fun _ _ => by kernel_rfl
theorem cl139 : CL Try.prog 139 := fun _ _ => by kernel_rfl
theorem cl140 : CL Try.prog 140 := fun _ _ => by kernel_rfl
theorem cl141 : CL Try.prog 141 := fun _ _ => by kernel_rfl
theorem cl142 : CL Try.prog 142 := fun _ _ => by kernel_rfl
theorem cl143 : CL Try.prog 143 := fun _ _ => by kernel_rfl
theorem cl144 : CL Try.prog 144 := fun _ _ => by kernel_rfl
theorem cl145 : CL Try.prog 145 := fun _ _ => by kernel_rfl
theorem cl146 : CL Try.prog 146 := fun _ _ => by kernel_rfl
theorem cl147 : CL Try.prog 147 := fun _ _ => by kernel_rfl
theorem cl148 : CL Try.prog 148 := fun _ _ => by kernel_rfl
theorem cl161 : CL Try.prog 161 := fun _ _ => by kernel_rfl
theorem cl162 : CL Try.prog 162 := fun _ _ => by kernel_rfl
theorem cl163 : CL Try.prog 163 := fun _ _ => by kernel_rfl
theorem cl164 : CL Try.prog 164 := fun _ _ => by kernel_rfl
theorem cl166 : CL Try.prog 166 := fun _ _ => by kernel_rfl
theorem cl27 : CL Try.prog 27 := fun _ _ => by kernel_rfl
theorem cl54 : CL Try.prog 54 := fun _ _ => by kernel_rfl
theorem cl56 : CL Try.prog 56 := fun _ _ => by kernel_rfl
theorem cl58 : CL Try.prog 58 := fun _ _ => by kernel_rfl
theorem cl80 : CL Try.prog 80 := fun _ _ => by kernel_rfl
theorem cl82 : CL Try.prog 82 := fun _ _ => by kernel_rfl
theorem cl83 : CL Try.prog 83 := fun _ _ => by kernel_rfl
theorem cl85 : CL Try.prog 85 := fun _ _ => by kernel_rfl
theorem cl91 : CL Try.prog 91 := fun _ _ => by kernel_rfl
theorem cl92 : CL Try.prog 92 := fun _ _ => by kernel_rfl
theorem cl97 : CL Try.prog 97 := fun _ _ => by kernel_rfl
theorem cl98 : CL Try.prog 98 := fun _ _ => by kernel_rfl
theorem cl99 : CL Try.prog 99 := fun _ _ => by kernel_rfl
theorem la26 : LA Try.prog 26 3 := fun _ _ => by kernel_rfl
theorem la28 : LA Try.prog 28 3 := fun _ _ => by kernel_rfl
theorem la88 : LA Try.prog 88 4 := fun _ _ => by kernel_rfl
theorem la92 : LA Try.prog 92 4 := fun _ _ => by kernel_rfl
theorem ls3 : LS Try.prog 3 := fun _ _ => by kernel_rfl
theorem sz26 : SZ Try.prog 26 3 := fun _ => by kernel_rfl
theorem sz28 : SZ Try.prog 28 3 := fun _ => by kernel_rfl
theorem sz3 : SZ Try.prog 3 1 := fun _ => by kernel_rfl
theorem sz88 : SZ Try.prog 88 4 := fun _ => by kernel_rfl
theorem sz92 : SZ Try.prog 92 4 := fun _ => by kernel_rfl
theorem zv28 : ZV Try.prog 28 (.agg #[(.int .i64 0), (.int .i64 0), (.int .i64 0)]) := fun _ => by kernel_rfl
theorem zv88 : ZV Try.prog 88 (.agg #[(.int .i64 0), (.int .i64 0), (.int .i64 0), (.int .i64 0)]) := fun _ => by kernel_rfl
end TF
def tab : Tab := ⟨[35, 60, 63, 91, 96], [4], [], [(26, 0, 0), (26, 1, 1), (26, 2, 2), (28, 0, 0), (28, 1, 1), (28, 2, 2), (88, 0, 0), (88, 1, 1), (88, 2, 2), (88, 3, 3), (92, 0, 0), (92, 1, 1), (92, 2, 2), (92, 3, 3)]⟩
theorem inl_mem : ∀ {l : List Nat} {x : Nat}, inl l x = true → x ∈ l
  | y :: r, x, h => by
    unfold inl at h
    cases hb : Nat.beq y x <;> rw [hb] at h
    · exact List.mem_cons_of_mem _ (inl_mem h)
    · rw [Nat.eq_of_beq_eq_true hb]; exact List.mem_cons_self
theorem foff_mem : ∀ {l : List (TypeId × Nat × Nat)} {t f o : Nat}, foff l t f = some o → (t, f, o) ∈ l
  | (t', f', o') :: r, t, f, o, h => by
    unfold foff at h
    cases hb : (Nat.beq t' t && Nat.beq f' f) <;> rw [hb] at h
    · exact List.mem_cons_of_mem _ (foff_mem h)
    · simp only [Bool.and_eq_true] at hb
      injection h with h
      rw [Nat.eq_of_beq_eq_true hb.1, Nat.eq_of_beq_eq_true hb.2, h]; exact List.mem_cons_self
theorem tabOk : TabOk Try.prog tab where
  sl := fun T h => by
    have h := inl_mem h
    simp only [tab, List.mem_cons, List.not_mem_nil, or_false] at h
    rcases h with rfl | rfl | rfl | rfl | rfl
    · exact ⟨_, Try.underlying35⟩
    · exact ⟨_, Try.underlying60⟩
    · exact ⟨_, Try.underlying63⟩
    · exact ⟨_, Try.underlying91⟩
    · exact ⟨_, Try.underlying96⟩
  bo := fun T h => by
    have h := inl_mem h
    simp only [tab, List.mem_cons, List.not_mem_nil, or_false] at h
    rcases h with rfl
    · exact Try.underlying4
  st := fun T h => absurd (inl_mem h) (by simp [tab])
  fa := fun T f o h => by
    have h := foff_mem h
    simp only [tab, List.mem_cons, List.not_mem_nil, or_false, Prod.mk.injEq] at h
    rcases h with ⟨rfl, rfl, rfl⟩ | ⟨rfl, rfl, rfl⟩ | ⟨rfl, rfl, rfl⟩ | ⟨rfl, rfl, rfl⟩ | ⟨rfl, rfl, rfl⟩ | ⟨rfl, rfl, rfl⟩ | ⟨rfl, rfl, rfl⟩ | ⟨rfl, rfl, rfl⟩ | ⟨rfl, rfl, rfl⟩ | ⟨rfl, rfl, rfl⟩ | ⟨rfl, rfl, rfl⟩ | ⟨rfl, rfl, rfl⟩ | ⟨rfl, rfl, rfl⟩ | ⟨rfl, rfl, rfl⟩
    · exact fun _ _ => by kernel_rfl
    · exact fun _ _ => by kernel_rfl
    · exact fun _ _ => by kernel_rfl
    · exact fun _ _ => by kernel_rfl
    · exact fun _ _ => by kernel_rfl
    · exact fun _ _ => by kernel_rfl
    · exact fun _ _ => by kernel_rfl
    · exact fun _ _ => by kernel_rfl
    · exact fun _ _ => by kernel_rfl
    · exact fun _ _ => by kernel_rfl
    · exact fun _ _ => by kernel_rfl
    · exact fun _ _ => by kernel_rfl
    · exact fun _ _ => by kernel_rfl
    · exact fun _ _ => by kernel_rfl
end AT
