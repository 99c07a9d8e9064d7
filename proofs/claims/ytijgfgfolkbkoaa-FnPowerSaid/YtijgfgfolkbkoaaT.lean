/- The types and closed facts on the program, by program (gen.py). -/
import Derived.Test.YtijgfgfolkbkoaaAtA
import Derived.Test.YtijgfgfolkbkoaaF
import Derived.Test.YtijgfgfolkbkoaaRows
set_option linter.unusedVariables false
set_option maxRecDepth 100000
namespace AT
open Go Go.RowKit Go.Proofs
instance : GoTy L1CurP := GoTy.via (α := (List By) × (Int) × (U64)) (fun x => (x.code, x.at_, x.seed))
theorem L1CurP_cells {w : World} {S : Nat → Prop} {cs : List Value} {x : L1CurP} (h : GoTy.rep w S cs x) : ∃ A1 c1, cs = [(.slice A1 x.code.length c1), (.int .i64 x.at_), (.int .u64 x.seed.n)] ∧ lrep w S [.slice A1 x.code.length c1] x.code := by
  obtain ⟨p0, q0, rfl, g0, k0⟩ := h
  obtain ⟨A1, c1, rfl, l1⟩ := list_cells g0
  obtain ⟨p1, q1, rfl, g1, k1⟩ := k0
  obtain rfl := g1
  obtain rfl := k1
  exact ⟨A1, c1, rfl, l1⟩
theorem L1CurP_open {w : World} {S : Nat → Prop} {v : Value} {x : L1CurP} (h : VR w S v x) : ∃ A1 c1, v = (.agg #[(.slice A1 x.code.length c1), (.int .i64 x.at_), (.int .u64 x.seed.n)]) ∧ lrep w S [.slice A1 x.code.length c1] x.code := by
  obtain ⟨cs, h, rfl⟩ := h
  obtain ⟨A1, c1, rfl, l1⟩ := L1CurP_cells h
  exact ⟨A1, c1, rfl, l1⟩
theorem L1CurP_mk {w : World} {S : Nat → Prop} {x : L1CurP} {A1 : Option Addr} {m1 c1 : Nat} (l1 : lrep w S [.slice A1 m1 c1] x.code) : GoTy.rep w S [(.slice A1 m1 c1), (.int .i64 x.at_), (.int .u64 x.seed.n)] x := ⟨_, _, rfl, l1, ⟨_, _, rfl, rfl, rfl⟩⟩
theorem L1CurP_mkv {w : World} {S : Nat → Prop} {x : L1CurP} {A1 : Option Addr} {m1 c1 : Nat} (l1 : lrep w S [.slice A1 m1 c1] x.code) : VR w S (.agg #[(.slice A1 m1 c1), (.int .i64 x.at_), (.int .u64 x.seed.n)]) x := ⟨_, L1CurP_mk l1, rfl⟩
theorem L1CurP_ownmk {w : World} {x : L1CurP} {A1 : Option Addr} {m1 c1 : Nat} {F1 : List Nat} (l1 : lown w F1 [.slice A1 m1 c1] x.code) : GoTy.own w F1 [(.slice A1 m1 c1), (.int .i64 x.at_), (.int .u64 x.seed.n)] x := ⟨_, _, F1, [], rfl, by simp, l1, ⟨_, _, [], [], rfl, by simp, ⟨rfl, rfl⟩, ⟨rfl, rfl⟩⟩⟩
theorem L1CurP_own {w : World} {F : List Nat} {cs : List Value} {x : L1CurP} (h : GoTy.own w F cs x) : ∃ A1 c1 F1, cs = [(.slice A1 x.code.length c1), (.int .i64 x.at_), (.int .u64 x.seed.n)] ∧ F1 = F ∧ lown w F1 [.slice A1 x.code.length c1] x.code := by
  obtain ⟨p0, q0, X0, Y0, rfl, rfl, g0, k0⟩ := h
  obtain ⟨A1, c1, rfl, l1⟩ := own_list g0
  obtain ⟨p1, q1, X1, Y1, rfl, rfl, g1, k1⟩ := k0
  obtain ⟨rfl, rfl⟩ := g1
  obtain ⟨rfl, rfl⟩ := k1
  exact ⟨A1, c1, _, rfl, by simp, l1⟩
theorem L1CurP_vo {w : World} {F : List Nat} {v : Value} {x : L1CurP} (h : VO w F v x) : ∃ A1 c1 F1, v = (.agg #[(.slice A1 x.code.length c1), (.int .i64 x.at_), (.int .u64 x.seed.n)]) ∧ F1 = F ∧ lown w F1 [.slice A1 x.code.length c1] x.code := by
  obtain ⟨cs, h, rfl⟩ := h
  obtain ⟨A1, c1, F1, rfl, rfl, l1⟩ := L1CurP_own h
  exact ⟨_, _, _, rfl, rfl, l1⟩
theorem L1CurP_ownc {w : World} {F : List Nat} {A1 : Option Addr} {m1 c1 : Nat} {i1 : Int} {i2 : Int} {x : L1CurP} (h : GoTy.own w F [(.slice A1 m1 c1), (.int .i64 i1), (.int .u64 i2)] x) : ∃ F1, F1 = F ∧ lown w F1 [.slice A1 m1 c1] x.code := by
  obtain ⟨A'1, c'1, F1, hcs, hFe, l1⟩ := L1CurP_own h
  simp only [List.cons.injEq, Value.slice.injEq, and_true] at hcs
  refine ⟨F1, hFe, ?_⟩
  · simp_all
instance : GoTy Span := GoTy.via (α := (Int) × (Int) × (Int)) (fun x => (x.Length, x.Loss, x.Splices))
theorem Span_cells {w : World} {S : Nat → Prop} {cs : List Value} {x : Span} (h : GoTy.rep w S cs x) : cs = [(.int .i64 x.Length), (.int .i64 x.Loss), (.int .i64 x.Splices)] := by
  obtain ⟨p0, q0, rfl, g0, k0⟩ := h
  obtain rfl := g0
  obtain ⟨p1, q1, rfl, g1, k1⟩ := k0
  obtain rfl := g1
  obtain rfl := k1
  exact rfl
theorem Span_open {w : World} {S : Nat → Prop} {v : Value} {x : Span} (h : VR w S v x) : v = (.agg #[(.int .i64 x.Length), (.int .i64 x.Loss), (.int .i64 x.Splices)]) := by
  obtain ⟨cs, h, rfl⟩ := h
  obtain rfl := Span_cells h
  exact rfl
theorem Span_mk {w : World} {S : Nat → Prop} {x : Span} : GoTy.rep w S [(.int .i64 x.Length), (.int .i64 x.Loss), (.int .i64 x.Splices)] x := ⟨_, _, rfl, rfl, ⟨_, _, rfl, rfl, rfl⟩⟩
theorem Span_mkv {w : World} {S : Nat → Prop} {x : Span} : VR w S (.agg #[(.int .i64 x.Length), (.int .i64 x.Loss), (.int .i64 x.Splices)]) x := ⟨_, Span_mk, rfl⟩
theorem Span_ownmk {w : World} {x : Span} : GoTy.own w [] [(.int .i64 x.Length), (.int .i64 x.Loss), (.int .i64 x.Splices)] x := ⟨_, _, [], [], rfl, by simp, ⟨rfl, rfl⟩, ⟨_, _, [], [], rfl, by simp, ⟨rfl, rfl⟩, ⟨rfl, rfl⟩⟩⟩
theorem Span_ownF {w : World} {F : List Nat} {cs : List Value} {x : Span} (h : GoTy.own w F cs x) : F = [] := by
  obtain ⟨p0, q0, X0, Y0, rfl, rfl, g0, k0⟩ := h
  obtain ⟨rfl, rfl⟩ := g0
  obtain ⟨p1, q1, X1, Y1, rfl, rfl, g1, k1⟩ := k0
  obtain ⟨rfl, rfl⟩ := g1
  obtain ⟨rfl, rfl⟩ := k1
  rfl
instance : GoTy Amplifier := GoTy.via (α := (Int) × (Int) × (Int) × (Int)) (fun x => (x.After, x.Gain, x.Output, x.Noise))
theorem Amplifier_cells {w : World} {S : Nat → Prop} {cs : List Value} {x : Amplifier} (h : GoTy.rep w S cs x) : cs = [(.int .i64 x.After), (.int .i64 x.Gain), (.int .i64 x.Output), (.int .i64 x.Noise)] := by
  obtain ⟨p0, q0, rfl, g0, k0⟩ := h
  obtain rfl := g0
  obtain ⟨p1, q1, rfl, g1, k1⟩ := k0
  obtain rfl := g1
  obtain ⟨p2, q2, rfl, g2, k2⟩ := k1
  obtain rfl := g2
  obtain rfl := k2
  exact rfl
theorem Amplifier_open {w : World} {S : Nat → Prop} {v : Value} {x : Amplifier} (h : VR w S v x) : v = (.agg #[(.int .i64 x.After), (.int .i64 x.Gain), (.int .i64 x.Output), (.int .i64 x.Noise)]) := by
  obtain ⟨cs, h, rfl⟩ := h
  obtain rfl := Amplifier_cells h
  exact rfl
theorem Amplifier_mk {w : World} {S : Nat → Prop} {x : Amplifier} : GoTy.rep w S [(.int .i64 x.After), (.int .i64 x.Gain), (.int .i64 x.Output), (.int .i64 x.Noise)] x := ⟨_, _, rfl, rfl, ⟨_, _, rfl, rfl, ⟨_, _, rfl, rfl, rfl⟩⟩⟩
theorem Amplifier_mkv {w : World} {S : Nat → Prop} {x : Amplifier} : VR w S (.agg #[(.int .i64 x.After), (.int .i64 x.Gain), (.int .i64 x.Output), (.int .i64 x.Noise)]) x := ⟨_, Amplifier_mk, rfl⟩
theorem Amplifier_ownmk {w : World} {x : Amplifier} : GoTy.own w [] [(.int .i64 x.After), (.int .i64 x.Gain), (.int .i64 x.Output), (.int .i64 x.Noise)] x := ⟨_, _, [], [], rfl, by simp, ⟨rfl, rfl⟩, ⟨_, _, [], [], rfl, by simp, ⟨rfl, rfl⟩, ⟨_, _, [], [], rfl, by simp, ⟨rfl, rfl⟩, ⟨rfl, rfl⟩⟩⟩⟩
theorem Amplifier_ownF {w : World} {F : List Nat} {cs : List Value} {x : Amplifier} (h : GoTy.own w F cs x) : F = [] := by
  obtain ⟨p0, q0, X0, Y0, rfl, rfl, g0, k0⟩ := h
  obtain ⟨rfl, rfl⟩ := g0
  obtain ⟨p1, q1, X1, Y1, rfl, rfl, g1, k1⟩ := k0
  obtain ⟨rfl, rfl⟩ := g1
  obtain ⟨p2, q2, X2, Y2, rfl, rfl, g2, k2⟩ := k1
  obtain ⟨rfl, rfl⟩ := g2
  obtain ⟨rfl, rfl⟩ := k2
  rfl
theorem Lens.via {N α β : Type} [GoTy α] [GoTy β] {f : N → α} {q : Nat} {get : α → β} {put : α → β → α} (h : Lens α β q get put) (g : N → β) (p : N → β → N) (hg : ∀ e, g e = get (f e)) (hp : ∀ e y, f (p e y) = put (f e) y) : @Lens N β (GoTy.via f) _ q g p := by
  refine @Lens.mk N β (GoTy.via f) _ q g p ?_
  intro w F cs e ho
  obtain ⟨Fa, F1, Fc, c, hF, hc, h1, h2⟩ := h.at_ (e := f e) ho
  refine ⟨Fa, F1, Fc, c, hF, hc, by rw [hg]; exact h1, fun w1 F2 y a b d => ?_⟩
  have := h2 w1 F2 y a b d
  rw [← hp] at this; exact this
namespace TF
theorem ai28 : AI Try.prog 28 3 (.agg #[(.int .i64 0), (.int .i64 0), (.int .i64 0)]) 24 := by unfold AI; kernel_rfl
theorem ai3 : AI Try.prog 3 1 (.int .i64 0) 8 := by unfold AI; kernel_rfl
theorem ai88 : AI Try.prog 88 4 (.agg #[(.int .i64 0), (.int .i64 0), (.int .i64 0), (.int .i64 0)]) 32 := by unfold AI; kernel_rfl
theorem cl100 : CL Try.prog 100 := fun _ _ => by kernel_rfl
theorem cl101 : CL Try.prog 101 := fun _ _ => by kernel_rfl
theorem cl102 : CL Try.prog 102 := fun _ _ => by kernel_rfl
theorem cl106 : CL Try.prog 106 := fun _ _ => by kernel_rfl
theorem cl107 : CL Try.prog 107 := fun _ _ => by kernel_rfl
theorem cl120 : CL Try.prog 120 := fun _ _ => by kernel_rfl
theorem cl121 : CL Try.prog 121 := fun _ _ => by kernel_rfl
theorem cl133 : CL Try.prog 133 := fun _ _ => by kernel_rfl
theorem cl134 : CL Try.prog 134 := fun _ _ => by kernel_rfl
theorem cl135 : CL Try.prog 135 := fun _ _ => by kernel_rfl
theorem cl136 : CL Try.prog 136 := fun _ _ => by kernel_rfl
theorem cl137 : CL Try.prog 137 := fun _ _ => by kernel_rfl
theorem cl138 : CL Try.prog 138 := fun _ _ => by kernel_rfl
theorem cl139 : CL Try.prog 139 := fun _ _ => by kernel_rfl
theorem cl140 : CL Try.prog 140 := fun _ _ => by kernel_rfl
theorem cl141 : CL Try.prog 141 := fun _ _ => by kernel_rfl
theorem cl142 : CL Try.prog 142 := fun _ _ => by kernel_rfl
theorem cl143 : CL Try.prog 143 := fun _ _ => by kernel_rfl
theorem cl145 : CL Try.prog 145 := fun _ _ => by kernel_rfl
theorem cl146 : CL Try.prog 146 := fun _ _ => by kernel_rfl
theorem cl147 : CL Try.prog 147 := fun _ _ => by kernel_rfl
theorem cl148 : CL Try.prog 148 := fun _ _ => by kernel_rfl
theorem cl149 : CL Try.prog 149 := fun _ _ => by kernel_rfl
theorem cl150 : CL Try.prog 150 := fun _ _ => by kernel_rfl
theorem cl151 : CL Try.prog 151 := fun _ _ => by kernel_rfl
theorem cl159 : CL Try.prog 159 := fun _ _ => by kernel_rfl
theorem cl160 : CL Try.prog 160 := fun _ _ => by kernel_rfl
theorem cl161 : CL Try.prog 161 := fun _ _ => by kernel_rfl
theorem cl162 : CL Try.prog 162 := fun _ _ => by kernel_rfl
theorem cl163 : CL Try.prog 163 := fun _ _ => by kernel_rfl
theorem cl164 : CL Try.prog 164 := fun _ _ => by kernel_rfl
theorem cl166 : CL Try.prog 166 := fun _ _ => by kernel_rfl
theorem cl76 : CL Try.prog 76 := fun _ _ => by kernel_rfl
theorem cl81 : CL Try.prog 81 := fun _ _ => by kernel_rfl
theorem cl84 : CL Try.prog 84 := fun _ _ => by kernel_rfl
theorem cl89 : CL Try.prog 89 := fun _ _ => by kernel_rfl
theorem cl90 : CL Try.prog 90 := fun _ _ => by kernel_rfl
theorem cl92 : CL Try.prog 92 := fun _ _ => by kernel_rfl
theorem cl94 : CL Try.prog 94 := fun _ _ => by kernel_rfl
theorem cl95 : CL Try.prog 95 := fun _ _ => by kernel_rfl
theorem cl96 : CL Try.prog 96 := fun _ _ => by kernel_rfl
theorem cl97 : CL Try.prog 97 := fun _ _ => by kernel_rfl
theorem cl98 : CL Try.prog 98 := fun _ _ => by kernel_rfl
theorem cl99 : CL Try.prog 99 := fun _ _ => by kernel_rfl
theorem la28 : LA Try.prog 28 3 := fun _ _ => by kernel_rfl
theorem la88 : LA Try.prog 88 4 := fun _ _ => by kernel_rfl
theorem ls136 : LS Try.prog 136 := fun _ _ => by kernel_rfl
theorem ls3 : LS Try.prog 3 := fun _ _ => by kernel_rfl
theorem ls5 : LS Try.prog 5 := fun _ _ => by kernel_rfl
theorem ls83 : LS Try.prog 83 := fun _ _ => by kernel_rfl
theorem sz136 : SZ Try.prog 136 1 := fun _ => by kernel_rfl
theorem sz28 : SZ Try.prog 28 3 := fun _ => by kernel_rfl
theorem sz3 : SZ Try.prog 3 1 := fun _ => by kernel_rfl
theorem sz5 : SZ Try.prog 5 1 := fun _ => by kernel_rfl
theorem sz88 : SZ Try.prog 88 4 := fun _ => by kernel_rfl
theorem zv28 : ZV Try.prog 28 (.agg #[(.int .i64 0), (.int .i64 0), (.int .i64 0)]) := fun _ => by kernel_rfl
theorem zv88 : ZV Try.prog 88 (.agg #[(.int .i64 0), (.int .i64 0), (.int .i64 0), (.int .i64 0)]) := fun _ => by kernel_rfl
end TF
def tab : Tab := ⟨[35, 63, 83, 96], [4], [], [(28, 0, 0), (28, 1, 1), (28, 2, 2), (88, 0, 0), (88, 1, 1), (88, 2, 2), (88, 3, 3), (138, 0, 0), (138, 1, 1), (138, 2, 2)]⟩
theorem inl_mem : ∀ {l : List Nat} {x : Nat}, inl l x = true → x ∈ l
  | y :: r, x, h => by
    unfold inl at h
    cases hb : Nat.beq y x <;> rw [hb] at h
    · exact List.mem_cons_of_mem _ (inl_mem h)
    · rw [Nat.eq_of_beq_eq_true hb]; exact List.mem_cons_self
theorem foff_mem : ∀ {l : List (TypeId × Nat × Nat)} {t f o : Nat}, foff l t f = some o → (t, f, o) ∈ l
  | (t', f', o') :: r, t, f, o, h => by
    unfold foff at h
    cases hb : (Nat.beq t' t && Nat.beq f' f) <;> rw [hb] at h
    · exact List.mem_cons_of_mem _ (foff_mem h)
    · simp only [Bool.and_eq_true] at hb
      injection h with h
      rw [Nat.eq_of_beq_eq_true hb.1, Nat.eq_of_beq_eq_true hb.2, h]; exact List.mem_cons_self
theorem tabOk : TabOk Try.prog tab where
  sl := fun T h => by
    have h := inl_mem h
    simp only [tab, List.mem_cons, List.not_mem_nil, or_false] at h
    rcases h with rfl | rfl | rfl | rfl
    · exact ⟨_, Try.underlying35⟩
    · exact ⟨_, Try.underlying63⟩
    · exact ⟨_, Try.underlying83⟩
    · exact ⟨_, Try.underlying96⟩
  bo := fun T h => by
    have h := inl_mem h
    simp only [tab, List.mem_cons, List.not_mem_nil, or_false] at h
    rcases h with rfl
    · exact Try.underlying4
  st := fun T h => absurd (inl_mem h) (by simp [tab])
  fa := fun T f o h => by
    have h := foff_mem h
    simp only [tab, List.mem_cons, List.not_mem_nil, or_false, Prod.mk.injEq] at h
    rcases h with ⟨rfl, rfl, rfl⟩ | ⟨rfl, rfl, rfl⟩ | ⟨rfl, rfl, rfl⟩ | ⟨rfl, rfl, rfl⟩ | ⟨rfl, rfl, rfl⟩ | ⟨rfl, rfl, rfl⟩ | ⟨rfl, rfl, rfl⟩ | ⟨rfl, rfl, rfl⟩ | ⟨rfl, rfl, rfl⟩ | ⟨rfl, rfl, rfl⟩
    · exact fun _ _ => by kernel_rfl
    · exact fun _ _ => by kernel_rfl
    · exact fun _ _ => by kernel_rfl
    · exact fun _ _ => by kernel_rfl
    · exact fun _ _ => by kernel_rfl
    · exact fun _ _ => by kernel_rfl
    · exact fun _ _ => by kernel_rfl
    · exact fun _ _ => by kernel_rfl
    · exact fun _ _ => by kernel_rfl
    · exact fun _ _ => by kernel_rfl
end AT
