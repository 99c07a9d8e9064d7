/- The types and closed facts on the program, by program (gen.py). -/
import Derived.Test.YtijgfgfolkbkoaaAtB
import Derived.Test.YtijgfgfolkbkoaaF
import Derived.Test.YtijgfgfolkbkoaaRows
set_option linter.unusedVariables false
set_option maxRecDepth 100000
namespace AT
open Go Go.RowKit Go.Proofs
instance : GoTy (IA 8) := iaTy 8 (by decide)
instance : GoTy (IA 40) := iaTy 40 (by decide)
instance : GoTy Item := GoTy.via (α := (Int) × (Int) × (Int)) (fun x => (x.Kind, x.Node, x.Count))
theorem Item_cells {w : World} {S : Nat → Prop} {cs : List Value} {x : Item} (h : GoTy.rep w S cs x) : cs = [(.int .i64 x.Kind), (.int .i64 x.Node), (.int .i64 x.Count)] := by
  obtain ⟨p0, q0, rfl, g0, k0⟩ := h
  obtain rfl := g0
  obtain ⟨p1, q1, rfl, g1, k1⟩ := k0
  obtain rfl := g1
  obtain rfl := k1
  exact rfl
theorem Item_open {w : World} {S : Nat → Prop} {v : Value} {x : Item} (h : VR w S v x) : v = (.agg #[(.int .i64 x.Kind), (.int .i64 x.Node), (.int .i64 x.Count)]) := by
  obtain ⟨cs, h, rfl⟩ := h
  obtain rfl := Item_cells h
  exact rfl
theorem Item_mk {w : World} {S : Nat → Prop} {x : Item} : GoTy.rep w S [(.int .i64 x.Kind), (.int .i64 x.Node), (.int .i64 x.Count)] x := ⟨_, _, rfl, rfl, ⟨_, _, rfl, rfl, rfl⟩⟩
theorem Item_mkv {w : World} {S : Nat → Prop} {x : Item} : VR w S (.agg #[(.int .i64 x.Kind), (.int .i64 x.Node), (.int .i64 x.Count)]) x := ⟨_, Item_mk, rfl⟩
theorem Item_ownmk {w : World} {x : Item} : GoTy.own w [] [(.int .i64 x.Kind), (.int .i64 x.Node), (.int .i64 x.Count)] x := ⟨_, _, [], [], rfl, by simp, ⟨rfl, rfl⟩, ⟨_, _, [], [], rfl, by simp, ⟨rfl, rfl⟩, ⟨rfl, rfl⟩⟩⟩
theorem Item_ownF {w : World} {F : List Nat} {cs : List Value} {x : Item} (h : GoTy.own w F cs x) : F = [] := by
  obtain ⟨p0, q0, X0, Y0, rfl, rfl, g0, k0⟩ := h
  obtain ⟨rfl, rfl⟩ := g0
  obtain ⟨p1, q1, X1, Y1, rfl, rfl, g1, k1⟩ := k0
  obtain ⟨rfl, rfl⟩ := g1
  obtain ⟨rfl, rfl⟩ := k1
  rfl
theorem Lens.via {N α β : Type} [GoTy α] [GoTy β] {f : N → α} {q : Nat} {get : α → β} {put : α → β → α} (h : Lens α β q get put) (g : N → β) (p : N → β → N) (hg : ∀ e, g e = get (f e)) (hp : ∀ e y, f (p e y) = put (f e) y) : @Lens N β (GoTy.via f) _ q g p := by
  refine @Lens.mk N β (GoTy.via f) _ q g p ?_
  intro w F cs e ho
  obtain ⟨Fa, F1, Fc, c, hF, hc, h1, h2⟩ := h.at_ (e := f e) ho
  refine ⟨Fa, F1, Fc, c, hF, hc, by rw [hg]; exact h1, fun w1 F2 y a b d => ?_⟩
  have := h2 w1 F2 y a b d
  rw [← hp] at this; exact this
namespace TF
theorem ai119 : AI Try.prog 119 3 (.agg #[(.int .i64 0), (.int .i64 0), (.int .i64 0)]) 24 := by unfold AI; kernel_rfl
theorem cl112 : CL Try.prog 112 := fun _ _ => by kernel_rfl
theorem cl113 : CL Try.prog 113 := fun _ _ => by kernel_rfl
theorem cl114 : CL Try.prog 114 := fun _ _ => by kernel_rfl
theorem cl117 : CL Try.prog 117 := fun _ _ => by kernel_rfl
theorem cl123 : CL Try.prog 123 := fun _ _ => by kernel_rfl
theorem cl124 : CL Try.prog 124 := fun _ _ => by kernel_rfl
theorem cl125 : CL Try.prog 125 := fun _ _ => by kernel_rfl
theorem cl154 : CL Try.prog 154 := fun _ _ => by kernel_rfl
theorem cl46 : CL Try.prog 46 := fun _ _ => by kernel_rfl
theorem cl48 : CL Try.prog 48 := fun _ _ => by kernel_rfl
theorem cl50 : CL Try.prog 50 := fun _ _ => by kernel_rfl
theorem cl61 : CL Try.prog 61 := fun _ _ => by kernel_rfl
theorem cl62 : CL Try.prog 62 := fun _ _ => by kernel_rfl
theorem cl63 : CL Try.prog 63 := fun _ _ => by kernel_rfl
theorem cl64 : CL Try.prog 64 := fun _ _ => by kernel_rfl
theorem cl97 : CL Try.prog 97 := fun _ _ => by kernel_rfl
theorem cl98 : CL Try.prog 98 := fun _ _ => by kernel_rfl
theorem la119 : LA Try.prog 119 3 := fun _ _ => by kernel_rfl
theorem la121 : LA Try.prog 121 3 := fun _ _ => by kernel_rfl
theorem la128 : LA Try.prog 128 8 := fun _ _ => by kernel_rfl
theorem ls3 : LS Try.prog 3 := fun _ _ => by kernel_rfl
theorem pt3 : PT Try.prog 3 := fun _ => ⟨by kernel_rfl, by kernel_rfl⟩
theorem sz119 : SZ Try.prog 119 3 := fun _ => by kernel_rfl
theorem sz121 : SZ Try.prog 121 3 := fun _ => by kernel_rfl
theorem sz128 : SZ Try.prog 128 8 := fun _ => by kernel_rfl
theorem sz3 : SZ Try.prog 3 1 := fun _ => by kernel_rfl
theorem zv119 : ZV Try.prog 119 (.agg #[(.int .i64 0), (.int .i64 0), (.int .i64 0)]) := fun _ => by kernel_rfl
end TF
def tab : Tab := ⟨[50, 53], [4], [], [(119, 0, 0), (119, 1, 1), (119, 2, 2), (121, 0, 0), (121, 1, 1), (121, 2, 2)]⟩
theorem inl_mem : ∀ {l : List Nat} {x : Nat}, inl l x = true → x ∈ l
  | y :: r, x, h => by
    unfold inl at h
    cases hb : Nat.beq y x <;> rw [hb] at h
    · exact List.mem_cons_of_mem _ (inl_mem h)
    · rw [Nat.eq_of_beq_eq_true hb]; exact List.mem_cons_self
theorem foff_mem : ∀ {l : List (TypeId × Nat × Nat)} {t f o : Nat}, foff l t f = some o → (t, f, o) ∈ l
  | (t', f', o') :: r, t, f, o, h => by
    unfold foff at h
    cases hb : (Nat.beq t' t && Nat.beq f' f) <;> rw [hb] at h
    · exact List.mem_cons_of_mem _ (foff_mem h)
    · simp only [Bool.and_eq_true] at hb
      injection h with h
      rw [Nat.eq_of_beq_eq_true hb.1, Nat.eq_of_beq_eq_true hb.2, h]; exact List.mem_cons_self
theorem tabOk : TabOk Try.prog tab where
  sl := fun T h => by
    have h := inl_mem h
    simp only [tab, List.mem_cons, List.not_mem_nil, or_false] at h
    rcases h with rfl | rfl
    · exact ⟨_, Try.underlying50⟩
    · exact ⟨_, Try.underlying53⟩
  bo := fun T h => by
    have h := inl_mem h
    simp only [tab, List.mem_cons, List.not_mem_nil, or_false] at h
    rcases h with rfl
    · exact Try.underlying4
  st := fun T h => absurd (inl_mem h) (by simp [tab])
  fa := fun T f o h => by
    have h := foff_mem h
    simp only [tab, List.mem_cons, List.not_mem_nil, or_false, Prod.mk.injEq] at h
    rcases h with ⟨rfl, rfl, rfl⟩ | ⟨rfl, rfl, rfl⟩ | ⟨rfl, rfl, rfl⟩ | ⟨rfl, rfl, rfl⟩ | ⟨rfl, rfl, rfl⟩ | ⟨rfl, rfl, rfl⟩
    · exact fun _ _ => by kernel_rfl
    · exact fun _ _ => by kernel_rfl
    · exact fun _ _ => by kernel_rfl
    · exact fun _ _ => by kernel_rfl
    · exact fun _ _ => by kernel_rfl
    · exact fun _ _ => by kernel_rfl
end AT
