/- The types and closed facts on the program, by program (gen.py). -/
import Derived.Test.YtmokfdffnijbbaaAtBP
import Derived.Test.YtmokfdffnijbbaaF
import Derived.Test.YtmokfdffnijbbaaRows
set_option linter.unusedVariables false
set_option maxRecDepth 100000
namespace AT
open Go Go.RowKit Go.Proofs
instance : GoTy (IA 2) := iaTy 2 (by decide)
instance : GoTy L1CurP := GoTy.via (α := (List By) × (Int) × (U64)) (fun x => (x.code, x.at_, x.seed))
theorem L1CurP_cells {w : World} {S : Nat → Prop} {cs : List Value} {x : L1CurP} (h : GoTy.rep w S cs x) : ∃ A1 c1, cs = [(.slice A1 x.code.length c1), (.int .i64 x.at_), (.int .u64 x.seed.n)] ∧ lrep w S [.slice A1 x.code.length c1] x.code := by
  obtain ⟨p0, q0, rfl, g0, k0⟩ := h
  obtain ⟨A1, c1, rfl, l1⟩ := list_cells g0
  obtain ⟨p1, q1, rfl, g1, k1⟩ := k0
  obtain rfl := g1
  obtain rfl := k1
  exact ⟨A1, c1, rfl, l1⟩
theorem L1CurP_mk {w : World} {S : Nat → Prop} {x : L1CurP} {A1 : Option Addr} {m1 c1 : Nat} (l1 : lrep w S [.slice A1 m1 c1] x.code) : GoTy.rep w S [(.slice A1 m1 c1), (.int .i64 x.at_), (.int .u64 x.seed.n)] x := ⟨_, _, rfl, l1, ⟨_, _, rfl, rfl, rfl⟩⟩
instance : GoTy Fiber := GoTy.via (α := (Int) × (Int) × (Int) × (Int)) (fun x => (x.A, x.B, x.Length, x.Risk))
theorem Fiber_cells {w : World} {S : Nat → Prop} {cs : List Value} {x : Fiber} (h : GoTy.rep w S cs x) : cs = [(.int .i64 x.A), (.int .i64 x.B), (.int .i64 x.Length), (.int .i64 x.Risk)] := by
  obtain ⟨p0, q0, rfl, g0, k0⟩ := h
  obtain rfl := g0
  obtain ⟨p1, q1, rfl, g1, k1⟩ := k0
  obtain rfl := g1
  obtain ⟨p2, q2, rfl, g2, k2⟩ := k1
  obtain rfl := g2
  obtain rfl := k2
  exact rfl
theorem Fiber_open {w : World} {S : Nat → Prop} {v : Value} {x : Fiber} (h : VR w S v x) : v = (.agg #[(.int .i64 x.A), (.int .i64 x.B), (.int .i64 x.Length), (.int .i64 x.Risk)]) := by
  obtain ⟨cs, h, rfl⟩ := h
  obtain rfl := Fiber_cells h
  exact rfl
theorem Fiber_mk {w : World} {S : Nat → Prop} {x : Fiber} : GoTy.rep w S [(.int .i64 x.A), (.int .i64 x.B), (.int .i64 x.Length), (.int .i64 x.Risk)] x := ⟨_, _, rfl, rfl, ⟨_, _, rfl, rfl, ⟨_, _, rfl, rfl, rfl⟩⟩⟩
theorem Fiber_mkv {w : World} {S : Nat → Prop} {x : Fiber} : VR w S (.agg #[(.int .i64 x.A), (.int .i64 x.B), (.int .i64 x.Length), (.int .i64 x.Risk)]) x := ⟨_, Fiber_mk, rfl⟩
instance : GoTy Network := GoTy.via (α := (List ByteArray) × (List Fiber)) (fun x => (x.Nodes, x.Fibers))
theorem Network_cells {w : World} {S : Nat → Prop} {cs : List Value} {x : Network} (h : GoTy.rep w S cs x) : ∃ A1 c1, ∃ A2 c2, cs = [(.slice A1 x.Nodes.length c1), (.slice A2 x.Fibers.length c2)] ∧ lrep w S [.slice A1 x.Nodes.length c1] x.Nodes ∧ lrep w S [.slice A2 x.Fibers.length c2] x.Fibers := by
  obtain ⟨p0, q0, rfl, g0, k0⟩ := h
  obtain ⟨A1, c1, rfl, l1⟩ := list_cells g0
  obtain ⟨A2, c2, rfl, l2⟩ := list_cells k0
  exact ⟨A1, c1, A2, c2, rfl, l1, l2⟩
theorem Network_open {w : World} {S : Nat → Prop} {v : Value} {x : Network} (h : VR w S v x) : ∃ A1 c1, ∃ A2 c2, v = (.agg #[(.slice A1 x.Nodes.length c1), (.slice A2 x.Fibers.length c2)]) ∧ lrep w S [.slice A1 x.Nodes.length c1] x.Nodes ∧ lrep w S [.slice A2 x.Fibers.length c2] x.Fibers := by
  obtain ⟨cs, h, rfl⟩ := h
  obtain ⟨A1, c1, A2, c2, rfl, l1, l2⟩ := Network_cells h
  exact ⟨A1, c1, A2, c2, rfl, l1, l2⟩
theorem Network_mk {w : World} {S : Nat → Prop} {x : Network} {A1 : Option Addr} {m1 c1 : Nat} (l1 : lrep w S [.slice A1 m1 c1] x.Nodes) {A2 : Option Addr} {m2 c2 : Nat} (l2 : lrep w S [.slice A2 m2 c2] x.Fibers) : GoTy.rep w S [(.slice A1 m1 c1), (.slice A2 m2 c2)] x := ⟨_, _, rfl, l1, l2⟩
theorem Network_mkv {w : World} {S : Nat → Prop} {x : Network} {A1 : Option Addr} {m1 c1 : Nat} (l1 : lrep w S [.slice A1 m1 c1] x.Nodes) {A2 : Option Addr} {m2 c2 : Nat} (l2 : lrep w S [.slice A2 m2 c2] x.Fibers) : VR w S (.agg #[(.slice A1 m1 c1), (.slice A2 m2 c2)]) x := ⟨_, Network_mk l1 l2, rfl⟩
theorem Network_ownmk {w : World} {x : Network} {A1 : Option Addr} {m1 c1 : Nat} {F1 : List Nat} (l1 : lown w F1 [.slice A1 m1 c1] x.Nodes) {A2 : Option Addr} {m2 c2 : Nat} {F2 : List Nat} (l2 : lown w F2 [.slice A2 m2 c2] x.Fibers) : GoTy.own w (F1 ++ F2) [(.slice A1 m1 c1), (.slice A2 m2 c2)] x := ⟨_, _, F1, F2, rfl, by simp, l1, l2⟩
theorem Network_own {w : World} {F : List Nat} {cs : List Value} {x : Network} (h : GoTy.own w F cs x) : ∃ A1 c1 F1, ∃ A2 c2 F2, cs = [(.slice A1 x.Nodes.length c1), (.slice A2 x.Fibers.length c2)] ∧ F1 ++ (F2) = F ∧ lown w F1 [.slice A1 x.Nodes.length c1] x.Nodes ∧ lown w F2 [.slice A2 x.Fibers.length c2] x.Fibers := by
  obtain ⟨p0, q0, X0, Y0, rfl, rfl, g0, k0⟩ := h
  obtain ⟨A1, c1, rfl, l1⟩ := own_list g0
  obtain ⟨A2, c2, rfl, l2⟩ := own_list k0
  exact ⟨A1, c1, _, A2, c2, _, rfl, by simp, l1, l2⟩
theorem Network_vo {w : World} {F : List Nat} {v : Value} {x : Network} (h : VO w F v x) : ∃ A1 c1 F1, ∃ A2 c2 F2, v = (.agg #[(.slice A1 x.Nodes.length c1), (.slice A2 x.Fibers.length c2)]) ∧ F1 ++ (F2) = F ∧ lown w F1 [.slice A1 x.Nodes.length c1] x.Nodes ∧ lown w F2 [.slice A2 x.Fibers.length c2] x.Fibers := by
  obtain ⟨cs, h, rfl⟩ := h
  obtain ⟨A1, c1, F1, A2, c2, F2, rfl, rfl, l1, l2⟩ := Network_own h
  exact ⟨_, _, _, _, _, _, rfl, rfl, l1, l2⟩
instance : GoTy Route := GoTy.via (α := (Int) × (List Int)) (fun x => (x.Start, x.Fibers))
theorem Route_cells {w : World} {S : Nat → Prop} {cs : List Value} {x : Route} (h : GoTy.rep w S cs x) : ∃ A1 c1, cs = [(.int .i64 x.Start), (.slice A1 x.Fibers.length c1)] ∧ lrep w S [.slice A1 x.Fibers.length c1] x.Fibers := by
  obtain ⟨p0, q0, rfl, g0, k0⟩ := h
  obtain rfl := g0
  obtain ⟨A1, c1, rfl, l1⟩ := list_cells k0
  exact ⟨A1, c1, rfl, l1⟩
theorem Route_open {w : World} {S : Nat → Prop} {v : Value} {x : Route} (h : VR w S v x) : ∃ A1 c1, v = (.agg #[(.int .i64 x.Start), (.slice A1 x.Fibers.length c1)]) ∧ lrep w S [.slice A1 x.Fibers.length c1] x.Fibers := by
  obtain ⟨cs, h, rfl⟩ := h
  obtain ⟨A1, c1, rfl, l1⟩ := Route_cells h
  exact ⟨A1, c1, rfl, l1⟩
theorem Route_mk {w : World} {S : Nat → Prop} {x : Route} {A1 : Option Addr} {m1 c1 : Nat} (l1 : lrep w S [.slice A1 m1 c1] x.Fibers) : GoTy.rep w S [(.int .i64 x.Start), (.slice A1 m1 c1)] x := ⟨_, _, rfl, rfl, l1⟩
theorem Route_mkv {w : World} {S : Nat → Prop} {x : Route} {A1 : Option Addr} {m1 c1 : Nat} (l1 : lrep w S [.slice A1 m1 c1] x.Fibers) : VR w S (.agg #[(.int .i64 x.Start), (.slice A1 m1 c1)]) x := ⟨_, Route_mk l1, rfl⟩
theorem Route_ownmk {w : World} {x : Route} {A1 : Option Addr} {m1 c1 : Nat} {F1 : List Nat} (l1 : lown w F1 [.slice A1 m1 c1] x.Fibers) : GoTy.own w F1 [(.int .i64 x.Start), (.slice A1 m1 c1)] x := ⟨_, _, [], F1, rfl, by simp, ⟨rfl, rfl⟩, l1⟩
theorem Route_own {w : World} {F : List Nat} {cs : List Value} {x : Route} (h : GoTy.own w F cs x) : ∃ A1 c1 F1, cs = [(.int .i64 x.Start), (.slice A1 x.Fibers.length c1)] ∧ F1 = F ∧ lown w F1 [.slice A1 x.Fibers.length c1] x.Fibers := by
  obtain ⟨p0, q0, X0, Y0, rfl, rfl, g0, k0⟩ := h
  obtain ⟨rfl, rfl⟩ := g0
  obtain ⟨A1, c1, rfl, l1⟩ := own_list k0
  exact ⟨A1, c1, _, rfl, by simp, l1⟩
theorem Route_vo {w : World} {F : List Nat} {v : Value} {x : Route} (h : VO w F v x) : ∃ A1 c1 F1, v = (.agg #[(.int .i64 x.Start), (.slice A1 x.Fibers.length c1)]) ∧ F1 = F ∧ lown w F1 [.slice A1 x.Fibers.length c1] x.Fibers := by
  obtain ⟨cs, h, rfl⟩ := h
  obtain ⟨A1, c1, F1, rfl, rfl, l1⟩ := Route_own h
  exact ⟨_, _, _, rfl, rfl, l1⟩
instance : GoTy Request := GoTy.via (α := (Route) × (Int)) (fun x => (x.Route, x.Count))
theorem Request_cells {w : World} {S : Nat → Prop} {cs : List Value} {x : Request} (h : GoTy.rep w S cs x) : ∃ A1 c1, cs = [(.int .i64 x.Route.Start), (.slice A1 x.Route.Fibers.length c1), (.int .i64 x.Count)] ∧ lrep w S [.slice A1 x.Route.Fibers.length c1] x.Route.Fibers := by
  obtain ⟨p0, q0, rfl, g0, k0⟩ := h
  obtain ⟨A1, c1, rfl, l1⟩ := Route_cells g0
  obtain rfl := k0
  exact ⟨A1, c1, rfl, l1⟩
theorem Request_open {w : World} {S : Nat → Prop} {v : Value} {x : Request} (h : VR w S v x) : ∃ A1 c1, v = (.agg #[(.int .i64 x.Route.Start), (.slice A1 x.Route.Fibers.length c1), (.int .i64 x.Count)]) ∧ lrep w S [.slice A1 x.Route.Fibers.length c1] x.Route.Fibers := by
  obtain ⟨cs, h, rfl⟩ := h
  obtain ⟨A1, c1, rfl, l1⟩ := Request_cells h
  exact ⟨A1, c1, rfl, l1⟩
theorem Request_mk {w : World} {S : Nat → Prop} {x : Request} {A1 : Option Addr} {m1 c1 : Nat} (l1 : lrep w S [.slice A1 m1 c1] x.Route.Fibers) : GoTy.rep w S [(.int .i64 x.Route.Start), (.slice A1 m1 c1), (.int .i64 x.Count)] x := ⟨_, _, rfl, (Route_mk l1), rfl⟩
theorem Request_mkv {w : World} {S : Nat → Prop} {x : Request} {A1 : Option Addr} {m1 c1 : Nat} (l1 : lrep w S [.slice A1 m1 c1] x.Route.Fibers) : VR w S (.agg #[(.int .i64 x.Route.Start), (.slice A1 m1 c1), (.int .i64 x.Count)]) x := ⟨_, Request_mk l1, rfl⟩
instance : GoTy Block := GoTy.via (α := (Int) × (Int)) (fun x => (x.First, x.Count))
theorem Block_cells {w : World} {S : Nat → Prop} {cs : List Value} {x : Block} (h : GoTy.rep w S cs x) : cs = [(.int .i64 x.First), (.int .i64 x.Count)] := by
  obtain ⟨p0, q0, rfl, g0, k0⟩ := h
  obtain rfl := g0
  obtain rfl := k0
  exact rfl
theorem Block_open {w : World} {S : Nat → Prop} {v : Value} {x : Block} (h : VR w S v x) : v = (.agg #[(.int .i64 x.First), (.int .i64 x.Count)]) := by
  obtain ⟨cs, h, rfl⟩ := h
  obtain rfl := Block_cells h
  exact rfl
theorem Block_mk {w : World} {S : Nat → Prop} {x : Block} : GoTy.rep w S [(.int .i64 x.First), (.int .i64 x.Count)] x := ⟨_, _, rfl, rfl, rfl⟩
theorem Block_mkv {w : World} {S : Nat → Prop} {x : Block} : VR w S (.agg #[(.int .i64 x.First), (.int .i64 x.Count)]) x := ⟨_, Block_mk, rfl⟩
theorem Lens.via {N α β : Type} [GoTy α] [GoTy β] {f : N → α} {q : Nat} {get : α → β} {put : α → β → α} (h : Lens α β q get put) (g : N → β) (p : N → β → N) (hg : ∀ e, g e = get (f e)) (hp : ∀ e y, f (p e y) = put (f e) y) : @Lens N β (GoTy.via f) _ q g p := by
  refine @Lens.mk N β (GoTy.via f) _ q g p ?_
  intro w F cs e ho
  obtain ⟨Fa, F1, Fc, c, hF, hc, h1, h2⟩ := h.at_ (e := f e) ho
  refine ⟨Fa, F1, Fc, c, hF, hc, by rw [hg]; exact h1, fun w1 F2 y a b d => ?_⟩
  have := h2 w1 F2 y a b d
  rw [← hp] at this; exact this
namespace TF
theorem ai3 : AI Try.prog 3 1 (.int .i64 0) 8 := by unfold AI; kernel_rfl
theorem ai4 : AI Try.prog 4 1 (.bool false) 1 := by unfold AI; kernel_rfl
theorem ai79 : AI Try.prog 79 4 (.agg #[(.int .i64 0), (.int .i64 0), (.int .i64 0), (.int .i64 0)]) 32 := by unfold AI; kernel_rfl
theorem ai89 : AI Try.prog 89 3 (.agg #[(.int .i64 0), (.slice none 0 0), (.int .i64 0)]) 40 := by unfold AI; kernel_rfl
theorem ai94 : AI Try.prog 94 2 (.agg #[(.int .i64 0), (.int .i64 0)]) 16 := by unfold AI; kernel_rfl
theorem cl10 : CL Try.prog 10 := fun _ _ => by kernel_rfl
theorem cl105 : CL Try.prog 105 := fun _ _ => by kernel_rfl
theorem cl109 : CL Try.prog 109 := fun _ _ => by kernel_rfl
theorem cl11 : CL Try.prog 11 := fun _ _ => by kernel_rfl
theorem cl110 : CL Try.prog 110 := fun _ _ => by kernel_rfl
theorem cl111 : CL Try.prog 111 := fun _ _ => by kernel_rfl
theorem cl112 : CL Try.prog 112 := fun _ _ => by kernel_rfl
theorem cl113 : CL Try.prog 113 := fun _ _ => by kernel_rfl
theorem cl114 : CL Try.prog 114 := fun _ _ => by kernel_rfl
theorem cl115 : CL Try.prog 115 := fun _ _ => by kernel_rfl
theorem cl116 : CL Try.prog 116 := fun _ _ => by kernel_rfl
theorem cl118 : CL Try.prog 118 := fun _ _ => by kernel_rfl
theorem cl120 : CL Try.prog 120 := fun _ _ => by kernel_rfl
theorem cl121 : CL Try.prog 121 := fun _ _ => by kernel_rfl
theorem cl122 : CL Try.prog 122 := fun _ _ => by kernel_rfl
theorem cl128 : CL Try.prog 128 := fun _ _ => by kernel_rfl
theorem cl130 : CL Try.prog 130 := fun _ _ => by kernel_rfl
theorem cl131 : CL Try.prog 131 := fun _ _ => by kernel_rfl
theorem cl22 : CL Try.prog 22 := fun _ _ => by kernel_rfl
theorem cl23 : CL Try.prog 23 := fun _ _ => by kernel_rfl
theorem cl24 : CL Try.prog 24 := fun _ _ => by kernel_rfl
theorem cl25 : CL Try.prog 25 := fun _ _ => by kernel_rfl
theorem cl26 : CL Try.prog 26 := fun _ _ => by kernel_rfl
theorem cl27 : CL Try.prog 27 := fun _ _ => by kernel_rfl
theorem cl28 : CL Try.prog 28 := fun _ _ => by kernel_rfl
theorem cl29 : CL Try.prog 29 := fun _ _ => by kernel_rfl
theorem cl30 : CL Try.prog 30 := fun _ _ => by kernel_rfl
theorem cl31 : CL Try.prog 31 := fun _ _ => by kernel_rfl
theorem cl32 : CL Try.prog 32 := fun _ _ => by kernel_rfl
theorem cl33 : CL Try.prog 33 := fun _ _ => by kernel_rfl
theorem cl34 : CL Try.prog 34 := fun _ _ => by kernel_rfl
theorem cl35 : CL Try.prog 35 := fun _ _ => by kernel_rfl
theorem cl37 : CL Try.prog 37 := fun _ _ => by kernel_rfl
theorem cl40 : CL Try.prog 40 := fun _ _ => by kernel_rfl
theorem cl42 : CL Try.prog 42 := fun _ _ => by kernel_rfl
theorem cl43 : CL Try.prog 43 := fun _ _ => by kernel_rfl
theorem cl47 : CL Try.prog 47 := fun _ _ => by kernel_rfl
theorem cl5 : CL Try.prog 5 := fun _ _ => by kernel_rfl
theorem cl51 : CL Try.prog 51 := fun _ _ => by kernel_rfl
theorem cl53 : CL Try.prog 53 := fun _ _ => by kernel_rfl
theorem cl54 : CL Try.prog 54 := fun _ _ => by kernel_rfl
theorem cl55 : CL Try.prog 55 := fun _ _ => by kernel_rfl
theorem cl56 : CL Try.prog 56 := fun _ _ => by kernel_rfl
theorem cl57 : CL Try.prog 57 := fun _ _ => by kernel_rfl
theorem cl58 : CL Try.prog 58 := fun _ _ => by kernel_rfl
theorem cl59 : CL Try.prog 59 := fun _ _ => by kernel_rfl
theorem cl6 : CL Try.prog 6 := fun _ _ => by kernel_rfl
theorem cl60 : CL Try.prog 60 := fun _ _ => by kernel_rfl
theorem cl61 : CL Try.prog 61 := fun _ _ => by kernel_rfl
theorem cl62 : CL Try.prog 62 := fun _ _ => by kernel_rfl
theorem cl63 : CL Try.prog 63 := fun _ _ => by kernel_rfl
theorem cl64 : CL Try.prog 64 := fun _ _ => by kernel_rfl
theorem cl65 : CL Try.prog 65 := fun _ _ => by kernel_rfl
theorem cl66 : CL Try.prog 66 := fun _ _ => by kernel_rfl
theorem cl67 : CL Try.prog 67 := fun _ _ => by kernel_rfl
theorem cl68 : CL Try.prog 68 := fun _ _ => by kernel_rfl
theorem cl69 : CL Try.prog 69 := fun _ _ => by kernel_rfl
theorem cl7 : CL Try.prog 7 := fun _ _ => by kernel_rfl
theorem cl70 : CL Try.prog 70 := fun _ _ => by kernel_rfl
theorem cl71 : CL Try.prog 71 := fun _ _ => by kernel_rfl
theorem cl72 : CL Try.prog 72 := fun _ _ => by kernel_rfl
theorem cl73 : CL Try.prog 73 := fun _ _ => by kernel_rfl
theorem cl74 : CL Try.prog 74 := fun _ _ => by kernel_rfl
theorem cl75 : CL Try.prog 75 := fun _ _ => by kernel_rfl
theorem cl77 : CL Try.prog 77 := fun _ _ => by kernel_rfl
theorem cl78 : CL Try.prog 78 := fun _ _ => by kernel_rfl
theorem cl79 : CL Try.prog 79 := fun _ _ => by kernel_rfl
theorem cl8 : CL Try.prog 8 := fun _ _ => by kernel_rfl
theorem cl80 : CL Try.prog 80 := fun _ _ => by kernel_rfl
theorem cl81 : CL Try.prog 81 := fun _ _ => by kernel_rfl
theorem cl85 : CL Try.prog 85 := fun _ _ => by kernel_rfl
theorem cl86 : CL Try.prog 86 := fun _ _ => by kernel_rfl
theorem cl87 : CL Try.prog 87 := fun _ _ => by kernel_rfl
theorem cl88 : CL Try.prog 88 := fun _ _ => by kernel_rfl
theorem cl9 : CL Try.prog 9 := fun _ _ => by kernel_rfl
theorem cl90 : CL Try.prog 90 := fun _ _ => by kernel_rfl
theorem cl91 : CL Try.prog 91 := fun _ _ => by kernel_rfl
theorem cl92 : CL Try.prog 92 := fun _ _ => by kernel_rfl
theorem cl93 : CL Try.prog 93 := fun _ _ => by kernel_rfl
theorem cl94 : CL Try.prog 94 := fun _ _ => by kernel_rfl
theorem cl95 : CL Try.prog 95 := fun _ _ => by kernel_rfl
theorem cl96 : CL Try.prog 96 := fun _ _ => by kernel_rfl
theorem cl97 : CL Try.prog 97 := fun _ _ => by kernel_rfl
theorem cl98 : CL Try.prog 98 := fun _ _ => by kernel_rfl
theorem cl99 : CL Try.prog 99 := fun _ _ => by kernel_rfl
theorem la27 : LA Try.prog 27 2 := fun _ _ => by kernel_rfl
theorem la40 : LA Try.prog 40 2 := fun _ _ => by kernel_rfl
theorem la79 : LA Try.prog 79 4 := fun _ _ => by kernel_rfl
theorem la89 : LA Try.prog 89 3 := fun _ _ => by kernel_rfl
theorem la94 : LA Try.prog 94 2 := fun _ _ => by kernel_rfl
theorem ls22 : LS Try.prog 22 := fun _ _ => by kernel_rfl
theorem ls24 : LS Try.prog 24 := fun _ _ => by kernel_rfl
theorem ls25 : LS Try.prog 25 := fun _ _ => by kernel_rfl
theorem ls28 : LS Try.prog 28 := fun _ _ => by kernel_rfl
theorem ls3 : LS Try.prog 3 := fun _ _ => by kernel_rfl
theorem ls31 : LS Try.prog 31 := fun _ _ => by kernel_rfl
theorem ls35 : LS Try.prog 35 := fun _ _ => by kernel_rfl
theorem ls4 : LS Try.prog 4 := fun _ _ => by kernel_rfl
theorem ls5 : LS Try.prog 5 := fun _ _ => by kernel_rfl
theorem ls55 : LS Try.prog 55 := fun _ _ => by kernel_rfl
theorem ls59 : LS Try.prog 59 := fun _ _ => by kernel_rfl
theorem ls9 : LS Try.prog 9 := fun _ _ => by kernel_rfl
theorem ls92 : LS Try.prog 92 := fun _ _ => by kernel_rfl
theorem sz25 : SZ Try.prog 25 1 := fun _ => by kernel_rfl
theorem sz27 : SZ Try.prog 27 2 := fun _ => by kernel_rfl
theorem sz3 : SZ Try.prog 3 1 := fun _ => by kernel_rfl
theorem sz31 : SZ Try.prog 31 1 := fun _ => by kernel_rfl
theorem sz35 : SZ Try.prog 35 1 := fun _ => by kernel_rfl
theorem sz4 : SZ Try.prog 4 1 := fun _ => by kernel_rfl
theorem sz40 : SZ Try.prog 40 2 := fun _ => by kernel_rfl
theorem sz5 : SZ Try.prog 5 1 := fun _ => by kernel_rfl
theorem sz55 : SZ Try.prog 55 1 := fun _ => by kernel_rfl
theorem sz59 : SZ Try.prog 59 1 := fun _ => by kernel_rfl
theorem sz79 : SZ Try.prog 79 4 := fun _ => by kernel_rfl
theorem sz89 : SZ Try.prog 89 3 := fun _ => by kernel_rfl
theorem sz9 : SZ Try.prog 9 1 := fun _ => by kernel_rfl
theorem sz92 : SZ Try.prog 92 1 := fun _ => by kernel_rfl
theorem sz94 : SZ Try.prog 94 2 := fun _ => by kernel_rfl
theorem zv27 : ZV Try.prog 27 (.agg #[(.slice none 0 0), (.slice none 0 0)]) := fun _ => by kernel_rfl
theorem zv3 : ZV Try.prog 3 (.int .i64 0) := fun _ => by kernel_rfl
theorem zv31 : ZV Try.prog 31 (.slice none 0 0) := fun _ => by kernel_rfl
theorem zv35 : ZV Try.prog 35 (.slice none 0 0) := fun _ => by kernel_rfl
theorem zv40 : ZV Try.prog 40 (.agg #[(.int .i64 0), (.slice none 0 0)]) := fun _ => by kernel_rfl
theorem zv59 : ZV Try.prog 59 .nilFunc := fun _ => by kernel_rfl
theorem zv79 : ZV Try.prog 79 (.agg #[(.int .i64 0), (.int .i64 0), (.int .i64 0), (.int .i64 0)]) := fun _ => by kernel_rfl
theorem zv89 : ZV Try.prog 89 (.agg #[(.int .i64 0), (.slice none 0 0), (.int .i64 0)]) := fun _ => by kernel_rfl
theorem zv92 : ZV Try.prog 92 (.slice none 0 0) := fun _ => by kernel_rfl
theorem zv94 : ZV Try.prog 94 (.agg #[(.int .i64 0), (.int .i64 0)]) := fun _ => by kernel_rfl
end TF
def tab : Tab := ⟨[22, 24, 25, 28, 31, 35, 137], [4], [9], [(27, 0, 0), (27, 1, 1), (40, 0, 0), (40, 1, 1), (57, 0, 0), (57, 1, 1), (57, 2, 2), (79, 0, 0), (79, 1, 1), (79, 2, 2), (79, 3, 3), (89, 0, 0), (89, 1, 2), (94, 0, 0), (94, 1, 1)]⟩
theorem inl_mem : ∀ {l : List Nat} {x : Nat}, inl l x = true → x ∈ l
  | y :: r, x, h => by
    unfold inl at h
    cases hb : Nat.beq y x <;> rw [hb] at h
    · exact List.mem_cons_of_mem _ (inl_mem h)
    · rw [Nat.eq_of_beq_eq_true hb]; exact List.mem_cons_self
theorem foff_mem : ∀ {l : List (TypeId × Nat × Nat)} {t f o : Nat}, foff l t f = some o → (t, f, o) ∈ l
  | (t', f', o') :: r, t, f, o, h => by
    unfold foff at h
    cases hb : (Nat.beq t' t && Nat.beq f' f) <;> rw [hb] at h
    · exact List.mem_cons_of_mem _ (foff_mem h)
    · simp only [Bool.and_eq_true] at hb
      injection h with h
      rw [Nat.eq_of_beq_eq_true hb.1, Nat.eq_of_beq_eq_true hb.2, h]; exact List.mem_cons_self
theorem tabOk : TabOk Try.prog tab where
  sl := fun T h => by
    have h := inl_mem h
    simp only [tab, List.mem_cons, List.not_mem_nil, or_false] at h
    rcases h with rfl | rfl | rfl | rfl | rfl | rfl | rfl
    · exact ⟨_, Try.underlying22⟩
    · exact ⟨_, Try.underlying24⟩
    · exact ⟨_, Try.underlying25⟩
    · exact ⟨_, Try.underlying28⟩
    · exact ⟨_, Try.underlying31⟩
    · exact ⟨_, Try.underlying35⟩
    · exact ⟨_, Try.underlying137⟩
  bo := fun T h => by
    have h := inl_mem h
    simp only [tab, List.mem_cons, List.not_mem_nil, or_false] at h
    rcases h with rfl
    · exact Try.underlying4
  st := fun T h => by
    have h := inl_mem h
    simp only [tab, List.mem_cons, List.not_mem_nil, or_false] at h
    rcases h with rfl
    · exact Try.underlying9
  fa := fun T f o h => by
    have h := foff_mem h
    simp only [tab, List.mem_cons, List.not_mem_nil, or_false, Prod.mk.injEq] at h
    rcases h with ⟨rfl, rfl, rfl⟩ | ⟨rfl, rfl, rfl⟩ | ⟨rfl, rfl, rfl⟩ | ⟨rfl, rfl, rfl⟩ | ⟨rfl, rfl, rfl⟩ | ⟨rfl, rfl, rfl⟩ | ⟨rfl, rfl, rfl⟩ | ⟨rfl, rfl, rfl⟩ | ⟨rfl, rfl, rfl⟩ | ⟨rfl, rfl, rfl⟩ | ⟨rfl, rfl, rfl⟩ | ⟨rfl, rfl, rfl⟩ | ⟨rfl, rfl, rfl⟩ | ⟨rfl, rfl, rfl⟩ | ⟨rfl, rfl, rfl⟩
    · exact fun _ _ => by kernel_rfl
    · exact fun _ _ => by kernel_rfl
    · exact fun _ _ => by kernel_rfl
    · exact fun _ _ => by kernel_rfl
    · exact fun _ _ => by kernel_rfl
    · exact fun _ _ => by kernel_rfl
    · exact fun _ _ => by kernel_rfl
    · exact fun _ _ => by kernel_rfl
    · exact fun _ _ => by kernel_rfl
    · exact fun _ _ => by kernel_rfl
    · exact fun _ _ => by kernel_rfl
    · exact fun _ _ => by kernel_rfl
    · exact fun _ _ => by kernel_rfl
    · exact fun _ _ => by kernel_rfl
    · exact fun _ _ => by kernel_rfl
section
variable {Q : Exit → Act → World → Prop} {w : World} {n : Nat}
theorem pr {ops : List Oper} (k : Nat) {L : List (Nat × Value)} {l : List Oper} {L' : List (Nat × Value)} {l' : List Oper} {a : Act} (hf : Fr a n L) (hd : dstOk n l = true) (h : pRun tab ops k L l = (L', l')) (hk : ∀ a', Fr a' n L' → wpList Try.prog ops.toArray Q l' a' w) : wpList Try.prog ops.toArray Q l a w := pRun_ok tabOk k L l hf hd h hk
variable {S0 : World → Prop} {B : List Nat} {bs : List Bool} {a : Act} {fuel d : Nat} {L : List (Nat × Value)} {Mid : Act → World → Prop} {op : Op} {v : Value} {l : List Oper} {t : TypeId} {ps : String} {af : Array Edge}
theorem tp (i : Nat) (hi : l[i]? = some ⟨some d, op, t, ps, af, none⟩) (hdn : Nat.ble (d + 1) n = true) (hf : Fr a n L) (hc : takeB l bs i [] B = true) (hS : nb B bs.toArray = true → S0 w) (hv : pOp tab L op = some v) (h : ∀ a', Fr a' n ((d, v) :: L) → DL Try.prog l Mid S0 B fuel (bs.set i true) a' w) : DL Try.prog l Mid S0 B (fuel + 1) bs a w := tP i hi rfl rfl hdn hf hc hS (fun _ => pOp_ok tabOk hf hv) h
theorem tpg (i : Nat) {j e : Nat} {b : Bool} (hi : l[i]? = some ⟨some d, op, t, ps, af, some (j, b)⟩) (hj : (l[j]?).bind (·.dst) = some e) (hb : lk L e = some (.bool b)) (hdn : Nat.ble (d + 1) n = true) (hf : Fr a n L) (hc : takeB l bs i [] B = true) (hS : nb B bs.toArray = true → S0 w) (hv : pOp tab L op = some v) (h : ∀ a', Fr a' n ((d, v) :: L) → DL Try.prog l Mid S0 B fuel (bs.set i true) a' w) : DL Try.prog l Mid S0 B (fuel + 1) bs a w := tPg i hi rfl rfl hj hb hdn hf hc hS (fun _ => pOp_ok tabOk hf hv) h
end
end AT
