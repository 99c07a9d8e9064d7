/- The types and closed facts on the program, by program (gen.py). -/
import Derived.Test.YtiedecncmihbeaaGreatAtBP
import Derived.Test.YtiedecncmihbeaaGreatF
import Derived.Test.YtiedecncmihbeaaGreatRows
set_option linter.unusedVariables false
set_option maxRecDepth 100000
namespace AT
open Go Go.RowKit Go.Proofs
instance : GoTy Fiber := GoTy.via (α := (Int) × (Int) × (Int) × (Int)) (fun x => (x.A, x.B, x.Length, x.Risk))
theorem Fiber_cells {w : World} {S : Nat → Prop} {cs : List Value} {x : Fiber} (h : GoTy.rep w S cs x) : cs = [(.int .i64 x.A), (.int .i64 x.B), (.int .i64 x.Length), (.int .i64 x.Risk)] := by
  obtain ⟨p0, q0, rfl, g0, k0⟩ := h
  obtain rfl := g0
  obtain ⟨p1, q1, rfl, g1, k1⟩ := k0
  obtain rfl := g1
  obtain ⟨p2, q2, rfl, g2, k2⟩ := k1
  obtain rfl := g2
  obtain rfl := k2
  exact rfl
theorem Fiber_open {w : World} {S : Nat → Prop} {v : Value} {x : Fiber} (h : VR w S v x) : v = (.agg #[(.int .i64 x.A), (.int .i64 x.B), (.int .i64 x.Length), (.int .i64 x.Risk)]) := by
  obtain ⟨cs, h, rfl⟩ := h
  obtain rfl := Fiber_cells h
  exact rfl
theorem Fiber_mk {w : World} {S : Nat → Prop} {x : Fiber} : GoTy.rep w S [(.int .i64 x.A), (.int .i64 x.B), (.int .i64 x.Length), (.int .i64 x.Risk)] x := ⟨_, _, rfl, rfl, ⟨_, _, rfl, rfl, ⟨_, _, rfl, rfl, rfl⟩⟩⟩
theorem Fiber_mkv {w : World} {S : Nat → Prop} {x : Fiber} : VR w S (.agg #[(.int .i64 x.A), (.int .i64 x.B), (.int .i64 x.Length), (.int .i64 x.Risk)]) x := ⟨_, Fiber_mk, rfl⟩
instance : GoTy Network := GoTy.via (α := (List ByteArray) × (List Fiber)) (fun x => (x.Nodes, x.Fibers))
theorem Network_cells {w : World} {S : Nat → Prop} {cs : List Value} {x : Network} (h : GoTy.rep w S cs x) : ∃ A1 c1, ∃ A2 c2, cs = [(.slice A1 x.Nodes.length c1), (.slice A2 x.Fibers.length c2)] ∧ lrep w S [.slice A1 x.Nodes.length c1] x.Nodes ∧ lrep w S [.slice A2 x.Fibers.length c2] x.Fibers := by
  obtain ⟨p0, q0, rfl, g0, k0⟩ := h
  obtain ⟨A1, c1, rfl, l1⟩ := list_cells g0
  obtain ⟨A2, c2, rfl, l2⟩ := list_cells k0
  exact ⟨A1, c1, A2, c2, rfl, l1, l2⟩
theorem Network_open {w : World} {S : Nat → Prop} {v : Value} {x : Network} (h : VR w S v x) : ∃ A1 c1, ∃ A2 c2, v = (.agg #[(.slice A1 x.Nodes.length c1), (.slice A2 x.Fibers.length c2)]) ∧ lrep w S [.slice A1 x.Nodes.length c1] x.Nodes ∧ lrep w S [.slice A2 x.Fibers.length c2] x.Fibers := by
  obtain ⟨cs, h, rfl⟩ := h
  obtain ⟨A1, c1, A2, c2, rfl, l1, l2⟩ := Network_cells h
  exact ⟨A1, c1, A2, c2, rfl, l1, l2⟩
theorem Network_mk {w : World} {S : Nat → Prop} {x : Network} {A1 : Option Addr} {m1 c1 : Nat} (l1 : lrep w S [.slice A1 m1 c1] x.Nodes) {A2 : Option Addr} {m2 c2 : Nat} (l2 : lrep w S [.slice A2 m2 c2] x.Fibers) : GoTy.rep w S [(.slice A1 m1 c1), (.slice A2 m2 c2)] x := ⟨_, _, rfl, l1, l2⟩
theorem Network_mkv {w : World} {S : Nat → Prop} {x : Network} {A1 : Option Addr} {m1 c1 : Nat} (l1 : lrep w S [.slice A1 m1 c1] x.Nodes) {A2 : Option Addr} {m2 c2 : Nat} (l2 : lrep w S [.slice A2 m2 c2] x.Fibers) : VR w S (.agg #[(.slice A1 m1 c1), (.slice A2 m2 c2)]) x := ⟨_, Network_mk l1 l2, rfl⟩
theorem Network_ownmk {w : World} {x : Network} {A1 : Option Addr} {m1 c1 : Nat} {F1 : List Nat} (l1 : lown w F1 [.slice A1 m1 c1] x.Nodes) {A2 : Option Addr} {m2 c2 : Nat} {F2 : List Nat} (l2 : lown w F2 [.slice A2 m2 c2] x.Fibers) : GoTy.own w (F1 ++ F2) [(.slice A1 m1 c1), (.slice A2 m2 c2)] x := ⟨_, _, F1, F2, rfl, by simp, l1, l2⟩
theorem Network_own {w : World} {F : List Nat} {cs : List Value} {x : Network} (h : GoTy.own w F cs x) : ∃ A1 c1 F1, ∃ A2 c2 F2, cs = [(.slice A1 x.Nodes.length c1), (.slice A2 x.Fibers.length c2)] ∧ F1 ++ (F2) = F ∧ lown w F1 [.slice A1 x.Nodes.length c1] x.Nodes ∧ lown w F2 [.slice A2 x.Fibers.length c2] x.Fibers := by
  obtain ⟨p0, q0, X0, Y0, rfl, rfl, g0, k0⟩ := h
  obtain ⟨A1, c1, rfl, l1⟩ := own_list g0
  obtain ⟨A2, c2, rfl, l2⟩ := own_list k0
  exact ⟨A1, c1, _, A2, c2, _, rfl, by simp, l1, l2⟩
theorem Network_vo {w : World} {F : List Nat} {v : Value} {x : Network} (h : VO w F v x) : ∃ A1 c1 F1, ∃ A2 c2 F2, v = (.agg #[(.slice A1 x.Nodes.length c1), (.slice A2 x.Fibers.length c2)]) ∧ F1 ++ (F2) = F ∧ lown w F1 [.slice A1 x.Nodes.length c1] x.Nodes ∧ lown w F2 [.slice A2 x.Fibers.length c2] x.Fibers := by
  obtain ⟨cs, h, rfl⟩ := h
  obtain ⟨A1, c1, F1, A2, c2, F2, rfl, rfl, l1, l2⟩ := Network_own h
  exact ⟨_, _, _, _, _, _, rfl, rfl, l1, l2⟩
theorem Network_ownc {w : World} {F : List Nat} {A1 : Option Addr} {m1 c1 : Nat} {A2 : Option Addr} {m2 c2 : Nat} {x : Network} (h : GoTy.own w F [(.slice A1 m1 c1), (.slice A2 m2 c2)] x) : ∃ F1, ∃ F2, F1 ++ (F2) = F ∧ lown w F1 [.slice A1 m1 c1] x.Nodes ∧ lown w F2 [.slice A2 m2 c2] x.Fibers := by
  obtain ⟨A'1, c'1, F1, A'2, c'2, F2, hcs, hFe, l1, l2⟩ := Network_own h
  simp only [List.cons.injEq, Value.slice.injEq, and_true] at hcs
  refine ⟨F1, F2, hFe, ?_, ?_⟩
  · simp_all
  · simp_all
instance : GoTy Route := GoTy.via (α := (Int) × (List Int)) (fun x => (x.Start, x.Fibers))
theorem Route_cells {w : World} {S : Nat → Prop} {cs : List Value} {x : Route} (h : GoTy.rep w S cs x) : ∃ A1 c1, cs = [(.int .i64 x.Start), (.slice A1 x.Fibers.length c1)] ∧ lrep w S [.slice A1 x.Fibers.length c1] x.Fibers := by
  obtain ⟨p0, q0, rfl, g0, k0⟩ := h
  obtain rfl := g0
  obtain ⟨A1, c1, rfl, l1⟩ := list_cells k0
  exact ⟨A1, c1, rfl, l1⟩
theorem Route_open {w : World} {S : Nat → Prop} {v : Value} {x : Route} (h : VR w S v x) : ∃ A1 c1, v = (.agg #[(.int .i64 x.Start), (.slice A1 x.Fibers.length c1)]) ∧ lrep w S [.slice A1 x.Fibers.length c1] x.Fibers := by
  obtain ⟨cs, h, rfl⟩ := h
  obtain ⟨A1, c1, rfl, l1⟩ := Route_cells h
  exact ⟨A1, c1, rfl, l1⟩
theorem Route_mk {w : World} {S : Nat → Prop} {x : Route} {A1 : Option Addr} {m1 c1 : Nat} (l1 : lrep w S [.slice A1 m1 c1] x.Fibers) : GoTy.rep w S [(.int .i64 x.Start), (.slice A1 m1 c1)] x := ⟨_, _, rfl, rfl, l1⟩
theorem Route_mkv {w : World} {S : Nat → Prop} {x : Route} {A1 : Option Addr} {m1 c1 : Nat} (l1 : lrep w S [.slice A1 m1 c1] x.Fibers) : VR w S (.agg #[(.int .i64 x.Start), (.slice A1 m1 c1)]) x := ⟨_, Route_mk l1, rfl⟩
theorem Route_ownmk {w : World} {x : Route} {A1 : Option Addr} {m1 c1 : Nat} {F1 : List Nat} (l1 : lown w F1 [.slice A1 m1 c1] x.Fibers) : GoTy.own w F1 [(.int .i64 x.Start), (.slice A1 m1 c1)] x := ⟨_, _, [], F1, rfl, by simp, ⟨rfl, rfl⟩, l1⟩
theorem Route_own {w : World} {F : List Nat} {cs : List Value} {x : Route} (h : GoTy.own w F cs x) : ∃ A1 c1 F1, cs = [(.int .i64 x.Start), (.slice A1 x.Fibers.length c1)] ∧ F1 = F ∧ lown w F1 [.slice A1 x.Fibers.length c1] x.Fibers := by
  obtain ⟨p0, q0, X0, Y0, rfl, rfl, g0, k0⟩ := h
  obtain ⟨rfl, rfl⟩ := g0
  obtain ⟨A1, c1, rfl, l1⟩ := own_list k0
  exact ⟨A1, c1, _, rfl, by simp, l1⟩
theorem Route_vo {w : World} {F : List Nat} {v : Value} {x : Route} (h : VO w F v x) : ∃ A1 c1 F1, v = (.agg #[(.int .i64 x.Start), (.slice A1 x.Fibers.length c1)]) ∧ F1 = F ∧ lown w F1 [.slice A1 x.Fibers.length c1] x.Fibers := by
  obtain ⟨cs, h, rfl⟩ := h
  obtain ⟨A1, c1, F1, rfl, rfl, l1⟩ := Route_own h
  exact ⟨_, _, _, rfl, rfl, l1⟩
instance : GoTy Block := GoTy.via (α := (Int) × (Int)) (fun x => (x.First, x.Count))
theorem Block_cells {w : World} {S : Nat → Prop} {cs : List Value} {x : Block} (h : GoTy.rep w S cs x) : cs = [(.int .i64 x.First), (.int .i64 x.Count)] := by
  obtain ⟨p0, q0, rfl, g0, k0⟩ := h
  obtain rfl := g0
  obtain rfl := k0
  exact rfl
theorem Block_open {w : World} {S : Nat → Prop} {v : Value} {x : Block} (h : VR w S v x) : v = (.agg #[(.int .i64 x.First), (.int .i64 x.Count)]) := by
  obtain ⟨cs, h, rfl⟩ := h
  obtain rfl := Block_cells h
  exact rfl
theorem Block_mk {w : World} {S : Nat → Prop} {x : Block} : GoTy.rep w S [(.int .i64 x.First), (.int .i64 x.Count)] x := ⟨_, _, rfl, rfl, rfl⟩
theorem Block_mkv {w : World} {S : Nat → Prop} {x : Block} : VR w S (.agg #[(.int .i64 x.First), (.int .i64 x.Count)]) x := ⟨_, Block_mk, rfl⟩
theorem Block_ownmk {w : World} {x : Block} : GoTy.own w [] [(.int .i64 x.First), (.int .i64 x.Count)] x := ⟨_, _, [], [], rfl, by simp, ⟨rfl, rfl⟩, ⟨rfl, rfl⟩⟩
theorem Block_ownF {w : World} {F : List Nat} {cs : List Value} {x : Block} (h : GoTy.own w F cs x) : F = [] := by
  obtain ⟨p0, q0, X0, Y0, rfl, rfl, g0, k0⟩ := h
  obtain ⟨rfl, rfl⟩ := g0
  obtain ⟨rfl, rfl⟩ := k0
  rfl
instance : GoTy Light := GoTy.via (α := (Int) × (Route) × (Block)) (fun x => (x.Id, x.Route, x.Block))
theorem Light_cells {w : World} {S : Nat → Prop} {cs : List Value} {x : Light} (h : GoTy.rep w S cs x) : ∃ A1 c1, cs = [(.int .i64 x.Id), (.int .i64 x.Route.Start), (.slice A1 x.Route.Fibers.length c1), (.int .i64 x.Block.First), (.int .i64 x.Block.Count)] ∧ lrep w S [.slice A1 x.Route.Fibers.length c1] x.Route.Fibers := by
  obtain ⟨p0, q0, rfl, g0, k0⟩ := h
  obtain rfl := g0
  obtain ⟨p1, q1, rfl, g1, k1⟩ := k0
  obtain ⟨A1, c1, rfl, l1⟩ := Route_cells g1
  obtain rfl := Block_cells k1
  exact ⟨A1, c1, rfl, l1⟩
theorem Light_open {w : World} {S : Nat → Prop} {v : Value} {x : Light} (h : VR w S v x) : ∃ A1 c1, v = (.agg #[(.int .i64 x.Id), (.int .i64 x.Route.Start), (.slice A1 x.Route.Fibers.length c1), (.int .i64 x.Block.First), (.int .i64 x.Block.Count)]) ∧ lrep w S [.slice A1 x.Route.Fibers.length c1] x.Route.Fibers := by
  obtain ⟨cs, h, rfl⟩ := h
  obtain ⟨A1, c1, rfl, l1⟩ := Light_cells h
  exact ⟨A1, c1, rfl, l1⟩
theorem Light_mk {w : World} {S : Nat → Prop} {x : Light} {A1 : Option Addr} {m1 c1 : Nat} (l1 : lrep w S [.slice A1 m1 c1] x.Route.Fibers) : GoTy.rep w S [(.int .i64 x.Id), (.int .i64 x.Route.Start), (.slice A1 m1 c1), (.int .i64 x.Block.First), (.int .i64 x.Block.Count)] x := ⟨_, _, rfl, rfl, ⟨_, _, rfl, (Route_mk l1), Block_mk⟩⟩
theorem Light_mkv {w : World} {S : Nat → Prop} {x : Light} {A1 : Option Addr} {m1 c1 : Nat} (l1 : lrep w S [.slice A1 m1 c1] x.Route.Fibers) : VR w S (.agg #[(.int .i64 x.Id), (.int .i64 x.Route.Start), (.slice A1 m1 c1), (.int .i64 x.Block.First), (.int .i64 x.Block.Count)]) x := ⟨_, Light_mk l1, rfl⟩
theorem Light_ownmk {w : World} {x : Light} {A1 : Option Addr} {m1 c1 : Nat} {F1 : List Nat} (l1 : lown w F1 [.slice A1 m1 c1] x.Route.Fibers) : GoTy.own w F1 [(.int .i64 x.Id), (.int .i64 x.Route.Start), (.slice A1 m1 c1), (.int .i64 x.Block.First), (.int .i64 x.Block.Count)] x := ⟨_, _, [], F1, rfl, by simp, ⟨rfl, rfl⟩, ⟨_, _, F1, [], rfl, by simp, (Route_ownmk l1), (Block_ownmk)⟩⟩
theorem Light_own {w : World} {F : List Nat} {cs : List Value} {x : Light} (h : GoTy.own w F cs x) : ∃ A1 c1 F1, cs = [(.int .i64 x.Id), (.int .i64 x.Route.Start), (.slice A1 x.Route.Fibers.length c1), (.int .i64 x.Block.First), (.int .i64 x.Block.Count)] ∧ F1 = F ∧ lown w F1 [.slice A1 x.Route.Fibers.length c1] x.Route.Fibers := by
  obtain ⟨p0, q0, X0, Y0, rfl, rfl, g0, k0⟩ := h
  obtain ⟨rfl, rfl⟩ := g0
  obtain ⟨p1, q1, X1, Y1, rfl, rfl, g1, k1⟩ := k0
  obtain ⟨A1, c1, F1, rfl, rfl, l1⟩ := Route_own g1
  obtain rfl := Block_cells (GoTy.own_rep k1)
  obtain rfl := Block_ownF k1
  exact ⟨A1, c1, _, rfl, by simp, l1⟩
theorem Light_vo {w : World} {F : List Nat} {v : Value} {x : Light} (h : VO w F v x) : ∃ A1 c1 F1, v = (.agg #[(.int .i64 x.Id), (.int .i64 x.Route.Start), (.slice A1 x.Route.Fibers.length c1), (.int .i64 x.Block.First), (.int .i64 x.Block.Count)]) ∧ F1 = F ∧ lown w F1 [.slice A1 x.Route.Fibers.length c1] x.Route.Fibers := by
  obtain ⟨cs, h, rfl⟩ := h
  obtain ⟨A1, c1, F1, rfl, rfl, l1⟩ := Light_own h
  exact ⟨_, _, _, rfl, rfl, l1⟩
instance : GoTy Plan := GoTy.via (α := (Network) × (List Light)) (fun x => (x.Network, x.Lights))
theorem Plan_cells {w : World} {S : Nat → Prop} {cs : List Value} {x : Plan} (h : GoTy.rep w S cs x) : ∃ A1 c1, ∃ A2 c2, ∃ A3 c3, cs = [(.slice A1 x.Network.Nodes.length c1), (.slice A2 x.Network.Fibers.length c2), (.slice A3 x.Lights.length c3)] ∧ lrep w S [.slice A1 x.Network.Nodes.length c1] x.Network.Nodes ∧ lrep w S [.slice A2 x.Network.Fibers.length c2] x.Network.Fibers ∧ lrep w S [.slice A3 x.Lights.length c3] x.Lights := by
  obtain ⟨p0, q0, rfl, g0, k0⟩ := h
  obtain ⟨A1, c1, A2, c2, rfl, l1, l2⟩ := Network_cells g0
  obtain ⟨A3, c3, rfl, l3⟩ := list_cells k0
  exact ⟨A1, c1, A2, c2, A3, c3, rfl, l1, l2, l3⟩
theorem Plan_open {w : World} {S : Nat → Prop} {v : Value} {x : Plan} (h : VR w S v x) : ∃ A1 c1, ∃ A2 c2, ∃ A3 c3, v = (.agg #[(.slice A1 x.Network.Nodes.length c1), (.slice A2 x.Network.Fibers.length c2), (.slice A3 x.Lights.length c3)]) ∧ lrep w S [.slice A1 x.Network.Nodes.length c1] x.Network.Nodes ∧ lrep w S [.slice A2 x.Network.Fibers.length c2] x.Network.Fibers ∧ lrep w S [.slice A3 x.Lights.length c3] x.Lights := by
  obtain ⟨cs, h, rfl⟩ := h
  obtain ⟨A1, c1, A2, c2, A3, c3, rfl, l1, l2, l3⟩ := Plan_cells h
  exact ⟨A1, c1, A2, c2, A3, c3, rfl, l1, l2, l3⟩
theorem Plan_mk {w : World} {S : Nat → Prop} {x : Plan} {A1 : Option Addr} {m1 c1 : Nat} (l1 : lrep w S [.slice A1 m1 c1] x.Network.Nodes) {A2 : Option Addr} {m2 c2 : Nat} (l2 : lrep w S [.slice A2 m2 c2] x.Network.Fibers) {A3 : Option Addr} {m3 c3 : Nat} (l3 : lrep w S [.slice A3 m3 c3] x.Lights) : GoTy.rep w S [(.slice A1 m1 c1), (.slice A2 m2 c2), (.slice A3 m3 c3)] x := ⟨_, _, rfl, (Network_mk l1 l2), l3⟩
theorem Plan_mkv {w : World} {S : Nat → Prop} {x : Plan} {A1 : Option Addr} {m1 c1 : Nat} (l1 : lrep w S [.slice A1 m1 c1] x.Network.Nodes) {A2 : Option Addr} {m2 c2 : Nat} (l2 : lrep w S [.slice A2 m2 c2] x.Network.Fibers) {A3 : Option Addr} {m3 c3 : Nat} (l3 : lrep w S [.slice A3 m3 c3] x.Lights) : VR w S (.agg #[(.slice A1 m1 c1), (.slice A2 m2 c2), (.slice A3 m3 c3)]) x := ⟨_, Plan_mk l1 l2 l3, rfl⟩
theorem Plan_ownmk {w : World} {x : Plan} {A1 : Option Addr} {m1 c1 : Nat} {F1 : List Nat} (l1 : lown w F1 [.slice A1 m1 c1] x.Network.Nodes) {A2 : Option Addr} {m2 c2 : Nat} {F2 : List Nat} (l2 : lown w F2 [.slice A2 m2 c2] x.Network.Fibers) {A3 : Option Addr} {m3 c3 : Nat} {F3 : List Nat} (l3 : lown w F3 [.slice A3 m3 c3] x.Lights) : GoTy.own w (F1 ++ (F2 ++ F3)) [(.slice A1 m1 c1), (.slice A2 m2 c2), (.slice A3 m3 c3)] x := ⟨_, _, (F1 ++ F2), F3, rfl, by simp, (Network_ownmk l1 l2), l3⟩
theorem Plan_own {w : World} {F : List Nat} {cs : List Value} {x : Plan} (h : GoTy.own w F cs x) : ∃ A1 c1 F1, ∃ A2 c2 F2, ∃ A3 c3 F3, cs = [(.slice A1 x.Network.Nodes.length c1), (.slice A2 x.Network.Fibers.length c2), (.slice A3 x.Lights.length c3)] ∧ F1 ++ (F2 ++ (F3)) = F ∧ lown w F1 [.slice A1 x.Network.Nodes.length c1] x.Network.Nodes ∧ lown w F2 [.slice A2 x.Network.Fibers.length c2] x.Network.Fibers ∧ lown w F3 [.slice A3 x.Lights.length c3] x.Lights := by
  obtain ⟨p0, q0, X0, Y0, rfl, rfl, g0, k0⟩ := h
  obtain ⟨A1, c1, F1, A2, c2, F2, rfl, rfl, l1, l2⟩ := Network_own g0
  obtain ⟨A3, c3, rfl, l3⟩ := own_list k0
  exact ⟨A1, c1, _, A2, c2, _, A3, c3, _, rfl, by simp, l1, l2, l3⟩
theorem Plan_vo {w : World} {F : List Nat} {v : Value} {x : Plan} (h : VO w F v x) : ∃ A1 c1 F1, ∃ A2 c2 F2, ∃ A3 c3 F3, v = (.agg #[(.slice A1 x.Network.Nodes.length c1), (.slice A2 x.Network.Fibers.length c2), (.slice A3 x.Lights.length c3)]) ∧ F1 ++ (F2 ++ (F3)) = F ∧ lown w F1 [.slice A1 x.Network.Nodes.length c1] x.Network.Nodes ∧ lown w F2 [.slice A2 x.Network.Fibers.length c2] x.Network.Fibers ∧ lown w F3 [.slice A3 x.Lights.length c3] x.Lights := by
  obtain ⟨cs, h, rfl⟩ := h
  obtain ⟨A1, c1, F1, A2, c2, F2, A3, c3, F3, rfl, rfl, l1, l2, l3⟩ := Plan_own h
  exact ⟨_, _, _, _, _, _, _, _, _, rfl, rfl, l1, l2, l3⟩
theorem Plan_ownc {w : World} {F : List Nat} {A1 : Option Addr} {m1 c1 : Nat} {A2 : Option Addr} {m2 c2 : Nat} {A3 : Option Addr} {m3 c3 : Nat} {x : Plan} (h : GoTy.own w F [(.slice A1 m1 c1), (.slice A2 m2 c2), (.slice A3 m3 c3)] x) : ∃ F1, ∃ F2, ∃ F3, F1 ++ (F2 ++ (F3)) = F ∧ lown w F1 [.slice A1 m1 c1] x.Network.Nodes ∧ lown w F2 [.slice A2 m2 c2] x.Network.Fibers ∧ lown w F3 [.slice A3 m3 c3] x.Lights := by
  obtain ⟨A'1, c'1, F1, A'2, c'2, F2, A'3, c'3, F3, hcs, hFe, l1, l2, l3⟩ := Plan_own h
  simp only [List.cons.injEq, Value.slice.injEq, and_true] at hcs
  refine ⟨F1, F2, F3, hFe, ?_, ?_, ?_⟩
  · simp_all
  · simp_all
  · simp_all
instance : GoTy Action := GoTy.via (α := (Int) × (Light)) (fun x => (x.Kind, x.Light))
theorem Action_cells {w : World} {S : Nat → Prop} {cs : List Value} {x : Action} (h : GoTy.rep w S cs x) : ∃ A1 c1, cs = [(.int .i64 x.Kind), (.int .i64 x.Light.Id), (.int .i64 x.Light.Route.Start), (.slice A1 x.Light.Route.Fibers.length c1), (.int .i64 x.Light.Block.First), (.int .i64 x.Light.Block.Count)] ∧ lrep w S [.slice A1 x.Light.Route.Fibers.length c1] x.Light.Route.Fibers := by
  obtain ⟨p0, q0, rfl, g0, k0⟩ := h
  obtain rfl := g0
  obtain ⟨A1, c1, rfl, l1⟩ := Light_cells k0
  exact ⟨A1, c1, rfl, l1⟩
theorem Action_open {w : World} {S : Nat → Prop} {v : Value} {x : Action} (h : VR w S v x) : ∃ A1 c1, v = (.agg #[(.int .i64 x.Kind), (.int .i64 x.Light.Id), (.int .i64 x.Light.Route.Start), (.slice A1 x.Light.Route.Fibers.length c1), (.int .i64 x.Light.Block.First), (.int .i64 x.Light.Block.Count)]) ∧ lrep w S [.slice A1 x.Light.Route.Fibers.length c1] x.Light.Route.Fibers := by
  obtain ⟨cs, h, rfl⟩ := h
  obtain ⟨A1, c1, rfl, l1⟩ := Action_cells h
  exact ⟨A1, c1, rfl, l1⟩
theorem Action_mk {w : World} {S : Nat → Prop} {x : Action} {A1 : Option Addr} {m1 c1 : Nat} (l1 : lrep w S [.slice A1 m1 c1] x.Light.Route.Fibers) : GoTy.rep w S [(.int .i64 x.Kind), (.int .i64 x.Light.Id), (.int .i64 x.Light.Route.Start), (.slice A1 m1 c1), (.int .i64 x.Light.Block.First), (.int .i64 x.Light.Block.Count)] x := ⟨_, _, rfl, rfl, (Light_mk l1)⟩
theorem Action_mkv {w : World} {S : Nat → Prop} {x : Action} {A1 : Option Addr} {m1 c1 : Nat} (l1 : lrep w S [.slice A1 m1 c1] x.Light.Route.Fibers) : VR w S (.agg #[(.int .i64 x.Kind), (.int .i64 x.Light.Id), (.int .i64 x.Light.Route.Start), (.slice A1 m1 c1), (.int .i64 x.Light.Block.First), (.int .i64 x.Light.Block.Count)]) x := ⟨_, Action_mk l1, rfl⟩
theorem Action_ownmk {w : World} {x : Action} {A1 : Option Addr} {m1 c1 : Nat} {F1 : List Nat} (l1 : lown w F1 [.slice A1 m1 c1] x.Light.Route.Fibers) : GoTy.own w F1 [(.int .i64 x.Kind), (.int .i64 x.Light.Id), (.int .i64 x.Light.Route.Start), (.slice A1 m1 c1), (.int .i64 x.Light.Block.First), (.int .i64 x.Light.Block.Count)] x := ⟨_, _, [], F1, rfl, by simp, ⟨rfl, rfl⟩, (Light_ownmk l1)⟩
theorem Action_own {w : World} {F : List Nat} {cs : List Value} {x : Action} (h : GoTy.own w F cs x) : ∃ A1 c1 F1, cs = [(.int .i64 x.Kind), (.int .i64 x.Light.Id), (.int .i64 x.Light.Route.Start), (.slice A1 x.Light.Route.Fibers.length c1), (.int .i64 x.Light.Block.First), (.int .i64 x.Light.Block.Count)] ∧ F1 = F ∧ lown w F1 [.slice A1 x.Light.Route.Fibers.length c1] x.Light.Route.Fibers := by
  obtain ⟨p0, q0, X0, Y0, rfl, rfl, g0, k0⟩ := h
  obtain ⟨rfl, rfl⟩ := g0
  obtain ⟨A1, c1, F1, rfl, rfl, l1⟩ := Light_own k0
  exact ⟨A1, c1, _, rfl, by simp, l1⟩
theorem Action_vo {w : World} {F : List Nat} {v : Value} {x : Action} (h : VO w F v x) : ∃ A1 c1 F1, v = (.agg #[(.int .i64 x.Kind), (.int .i64 x.Light.Id), (.int .i64 x.Light.Route.Start), (.slice A1 x.Light.Route.Fibers.length c1), (.int .i64 x.Light.Block.First), (.int .i64 x.Light.Block.Count)]) ∧ F1 = F ∧ lown w F1 [.slice A1 x.Light.Route.Fibers.length c1] x.Light.Route.Fibers := by
  obtain ⟨cs, h, rfl⟩ := h
  obtain ⟨A1, c1, F1, rfl, rfl, l1⟩ := Action_own h
  exact ⟨_, _, _, rfl, rfl, l1⟩
instance : GoTy Change := GoTy.via (α := (Plan) × (Tl Action) × (Tl Action) × (Bool)) (fun x => (x.Plan, Tl.mk x.Actions, Tl.mk x.Undo, x.Back))
theorem Change_cells {w : World} {S : Nat → Prop} {cs : List Value} {x : Change} (h : GoTy.rep w S cs x) : ∃ A1 c1, ∃ A2 c2, ∃ A3 c3, ∃ A4 c4, ∃ A5 c5, cs = [(.slice A1 x.Plan.Network.Nodes.length c1), (.slice A2 x.Plan.Network.Fibers.length c2), (.slice A3 x.Plan.Lights.length c3), (.slice A4 x.Actions.length c4), (.slice A5 x.Undo.length c5), (.bool x.Back)] ∧ lrep w S [.slice A1 x.Plan.Network.Nodes.length c1] x.Plan.Network.Nodes ∧ lrep w S [.slice A2 x.Plan.Network.Fibers.length c2] x.Plan.Network.Fibers ∧ lrep w S [.slice A3 x.Plan.Lights.length c3] x.Plan.Lights ∧ lrep w S [.slice A4 x.Actions.length c4] x.Actions ∧ lrep w S [.slice A5 x.Undo.length c5] x.Undo := by
  obtain ⟨p0, q0, rfl, g0, k0⟩ := h
  obtain ⟨A1, c1, A2, c2, A3, c3, rfl, l1, l2, l3⟩ := Plan_cells g0
  obtain ⟨p1, q1, rfl, g1, k1⟩ := k0
  obtain ⟨A4, c4, rfl, l4⟩ := tl_cells g1
  obtain ⟨p2, q2, rfl, g2, k2⟩ := k1
  obtain ⟨A5, c5, rfl, l5⟩ := tl_cells g2
  obtain rfl := k2
  exact ⟨A1, c1, A2, c2, A3, c3, A4, c4, A5, c5, rfl, l1, l2, l3, l4, l5⟩
theorem Change_open {w : World} {S : Nat → Prop} {v : Value} {x : Change} (h : VR w S v x) : ∃ A1 c1, ∃ A2 c2, ∃ A3 c3, ∃ A4 c4, ∃ A5 c5, v = (.agg #[(.slice A1 x.Plan.Network.Nodes.length c1), (.slice A2 x.Plan.Network.Fibers.length c2), (.slice A3 x.Plan.Lights.length c3), (.slice A4 x.Actions.length c4), (.slice A5 x.Undo.length c5), (.bool x.Back)]) ∧ lrep w S [.slice A1 x.Plan.Network.Nodes.length c1] x.Plan.Network.Nodes ∧ lrep w S [.slice A2 x.Plan.Network.Fibers.length c2] x.Plan.Network.Fibers ∧ lrep w S [.slice A3 x.Plan.Lights.length c3] x.Plan.Lights ∧ lrep w S [.slice A4 x.Actions.length c4] x.Actions ∧ lrep w S [.slice A5 x.Undo.length c5] x.Undo := by
  obtain ⟨cs, h, rfl⟩ := h
  obtain ⟨A1, c1, A2, c2, A3, c3, A4, c4, A5, c5, rfl, l1, l2, l3, l4, l5⟩ := Change_cells h
  exact ⟨A1, c1, A2, c2, A3, c3, A4, c4, A5, c5, rfl, l1, l2, l3, l4, l5⟩
theorem Change_mk {w : World} {S : Nat → Prop} {x : Change} {A1 : Option Addr} {m1 c1 : Nat} (l1 : lrep w S [.slice A1 m1 c1] x.Plan.Network.Nodes) {A2 : Option Addr} {m2 c2 : Nat} (l2 : lrep w S [.slice A2 m2 c2] x.Plan.Network.Fibers) {A3 : Option Addr} {m3 c3 : Nat} (l3 : lrep w S [.slice A3 m3 c3] x.Plan.Lights) {A4 : Option Addr} {m4 c4 : Nat} (l4 : lrep w S [.slice A4 m4 c4] x.Actions) {A5 : Option Addr} {m5 c5 : Nat} (l5 : lrep w S [.slice A5 m5 c5] x.Undo) : GoTy.rep w S [(.slice A1 m1 c1), (.slice A2 m2 c2), (.slice A3 m3 c3), (.slice A4 m4 c4), (.slice A5 m5 c5), (.bool x.Back)] x := ⟨_, _, rfl, (Plan_mk l1 l2 l3), ⟨_, _, rfl, l4, ⟨_, _, rfl, l5, rfl⟩⟩⟩
theorem Change_mkv {w : World} {S : Nat → Prop} {x : Change} {A1 : Option Addr} {m1 c1 : Nat} (l1 : lrep w S [.slice A1 m1 c1] x.Plan.Network.Nodes) {A2 : Option Addr} {m2 c2 : Nat} (l2 : lrep w S [.slice A2 m2 c2] x.Plan.Network.Fibers) {A3 : Option Addr} {m3 c3 : Nat} (l3 : lrep w S [.slice A3 m3 c3] x.Plan.Lights) {A4 : Option Addr} {m4 c4 : Nat} (l4 : lrep w S [.slice A4 m4 c4] x.Actions) {A5 : Option Addr} {m5 c5 : Nat} (l5 : lrep w S [.slice A5 m5 c5] x.Undo) : VR w S (.agg #[(.slice A1 m1 c1), (.slice A2 m2 c2), (.slice A3 m3 c3), (.slice A4 m4 c4), (.slice A5 m5 c5), (.bool x.Back)]) x := ⟨_, Change_mk l1 l2 l3 l4 l5, rfl⟩
theorem Change_ownmk {w : World} {x : Change} {A1 : Option Addr} {m1 c1 : Nat} {F1 : List Nat} (l1 : lown w F1 [.slice A1 m1 c1] x.Plan.Network.Nodes) {A2 : Option Addr} {m2 c2 : Nat} {F2 : List Nat} (l2 : lown w F2 [.slice A2 m2 c2] x.Plan.Network.Fibers) {A3 : Option Addr} {m3 c3 : Nat} {F3 : List Nat} (l3 : lown w F3 [.slice A3 m3 c3] x.Plan.Lights) {A4 : Option Addr} {m4 c4 : Nat} {F4 : List Nat} (l4 : town w F4 [.slice A4 m4 c4] x.Actions) {A5 : Option Addr} {m5 c5 : Nat} {F5 : List Nat} (l5 : town w F5 [.slice A5 m5 c5] x.Undo) : GoTy.own w (F1 ++ (F2 ++ (F3 ++ (F4 ++ F5)))) [(.slice A1 m1 c1), (.slice A2 m2 c2), (.slice A3 m3 c3), (.slice A4 m4 c4), (.slice A5 m5 c5), (.bool x.Back)] x := ⟨_, _, (F1 ++ (F2 ++ F3)), (F4 ++ F5), rfl, by simp, (Plan_ownmk l1 l2 l3), ⟨_, _, F4, F5, rfl, by simp, l4, ⟨_, _, F5, [], rfl, by simp, l5, ⟨rfl, rfl⟩⟩⟩⟩
theorem Change_own {w : World} {F : List Nat} {cs : List Value} {x : Change} (h : GoTy.own w F cs x) : ∃ A1 c1 F1, ∃ A2 c2 F2, ∃ A3 c3 F3, ∃ A4 c4 F4, ∃ A5 c5 F5, cs = [(.slice A1 x.Plan.Network.Nodes.length c1), (.slice A2 x.Plan.Network.Fibers.length c2), (.slice A3 x.Plan.Lights.length c3), (.slice A4 x.Actions.length c4), (.slice A5 x.Undo.length c5), (.bool x.Back)] ∧ F1 ++ (F2 ++ (F3 ++ (F4 ++ (F5)))) = F ∧ lown w F1 [.slice A1 x.Plan.Network.Nodes.length c1] x.Plan.Network.Nodes ∧ lown w F2 [.slice A2 x.Plan.Network.Fibers.length c2] x.Plan.Network.Fibers ∧ lown w F3 [.slice A3 x.Plan.Lights.length c3] x.Plan.Lights ∧ town w F4 [.slice A4 x.Actions.length c4] x.Actions ∧ town w F5 [.slice A5 x.Undo.length c5] x.Undo := by
  obtain ⟨p0, q0, X0, Y0, rfl, rfl, g0, k0⟩ := h
  obtain ⟨A1, c1, F1, A2, c2, F2, A3, c3, F3, rfl, rfl, l1, l2, l3⟩ := Plan_own g0
  obtain ⟨p1, q1, X1, Y1, rfl, rfl, g1, k1⟩ := k0
  obtain ⟨A4, c4, rfl, l4⟩ := own_tl g1
  obtain ⟨p2, q2, X2, Y2, rfl, rfl, g2, k2⟩ := k1
  obtain ⟨A5, c5, rfl, l5⟩ := own_tl g2
  obtain ⟨rfl, rfl⟩ := k2
  exact ⟨A1, c1, _, A2, c2, _, A3, c3, _, A4, c4, _, A5, c5, _, rfl, by simp, l1, l2, l3, l4, l5⟩
theorem Change_vo {w : World} {F : List Nat} {v : Value} {x : Change} (h : VO w F v x) : ∃ A1 c1 F1, ∃ A2 c2 F2, ∃ A3 c3 F3, ∃ A4 c4 F4, ∃ A5 c5 F5, v = (.agg #[(.slice A1 x.Plan.Network.Nodes.length c1), (.slice A2 x.Plan.Network.Fibers.length c2), (.slice A3 x.Plan.Lights.length c3), (.slice A4 x.Actions.length c4), (.slice A5 x.Undo.length c5), (.bool x.Back)]) ∧ F1 ++ (F2 ++ (F3 ++ (F4 ++ (F5)))) = F ∧ lown w F1 [.slice A1 x.Plan.Network.Nodes.length c1] x.Plan.Network.Nodes ∧ lown w F2 [.slice A2 x.Plan.Network.Fibers.length c2] x.Plan.Network.Fibers ∧ lown w F3 [.slice A3 x.Plan.Lights.length c3] x.Plan.Lights ∧ town w F4 [.slice A4 x.Actions.length c4] x.Actions ∧ town w F5 [.slice A5 x.Undo.length c5] x.Undo := by
  obtain ⟨cs, h, rfl⟩ := h
  obtain ⟨A1, c1, F1, A2, c2, F2, A3, c3, F3, A4, c4, F4, A5, c5, F5, rfl, rfl, l1, l2, l3, l4, l5⟩ := Change_own h
  exact ⟨_, _, _, _, _, _, _, _, _, _, _, _, _, _, _, rfl, rfl, l1, l2, l3, l4, l5⟩
theorem Change_ownc {w : World} {F : List Nat} {A1 : Option Addr} {m1 c1 : Nat} {A2 : Option Addr} {m2 c2 : Nat} {A3 : Option Addr} {m3 c3 : Nat} {A4 : Option Addr} {m4 c4 : Nat} {A5 : Option Addr} {m5 c5 : Nat} {i5 : Bool} {x : Change} (h : GoTy.own w F [(.slice A1 m1 c1), (.slice A2 m2 c2), (.slice A3 m3 c3), (.slice A4 m4 c4), (.slice A5 m5 c5), (.bool i5)] x) : ∃ F1, ∃ F2, ∃ F3, ∃ F4, ∃ F5, F1 ++ (F2 ++ (F3 ++ (F4 ++ (F5)))) = F ∧ lown w F1 [.slice A1 m1 c1] x.Plan.Network.Nodes ∧ lown w F2 [.slice A2 m2 c2] x.Plan.Network.Fibers ∧ lown w F3 [.slice A3 m3 c3] x.Plan.Lights ∧ town w F4 [.slice A4 m4 c4] x.Actions ∧ town w F5 [.slice A5 m5 c5] x.Undo := by
  obtain ⟨A'1, c'1, F1, A'2, c'2, F2, A'3, c'3, F3, A'4, c'4, F4, A'5, c'5, F5, hcs, hFe, l1, l2, l3, l4, l5⟩ := Change_own h
  simp only [List.cons.injEq, Value.slice.injEq, and_true] at hcs
  refine ⟨F1, F2, F3, F4, F5, hFe, ?_, ?_, ?_, ?_, ?_⟩
  · simp_all
  · simp_all
  · simp_all
  · simp_all
  · simp_all
instance : GoTy L1CurP := GoTy.via (α := (List By) × (Int) × (U64)) (fun x => (x.code, x.at_, x.seed))
theorem Lens.via {N α β : Type} [GoTy α] [GoTy β] {f : N → α} {q : Nat} {get : α → β} {put : α → β → α} (h : Lens α β q get put) (g : N → β) (p : N → β → N) (hg : ∀ e, g e = get (f e)) (hp : ∀ e y, f (p e y) = put (f e) y) : @Lens N β (GoTy.via f) _ q g p := by
  refine @Lens.mk N β (GoTy.via f) _ q g p ?_
  intro w F cs e ho
  obtain ⟨Fa, F1, Fc, c, hF, hc, h1, h2⟩ := h.at_ (e := f e) ho
  refine ⟨Fa, F1, Fc, c, hF, hc, by rw [hg]; exact h1, fun w1 F2 y a b d => ?_⟩
  have := h2 w1 F2 y a b d
  rw [← hp] at this; exact this
theorem Route_lens_Fibers : Lens Route (List Int) 1 (fun x => x.Fibers) (fun x y => { x with Fibers := y }) := Lens.via (N := Route) (α := (Int) × (List Int)) (f := fun x => (x.Start, x.Fibers)) (Lens.snd Lens.self) (fun x => x.Fibers) (fun x y => { x with Fibers := y }) (fun _ => rfl) (fun _ _ => rfl)
theorem Light_lens_Route_Fibers : Lens Light (List Int) 2 (fun x => x.Route.Fibers) (fun x y => { x with Route := { x.Route with Fibers := y } }) := Lens.via (N := Light) (α := (Int) × (Route) × (Block)) (f := fun x => (x.Id, x.Route, x.Block)) (Lens.snd (Lens.fst (Route_lens_Fibers))) (fun x => x.Route.Fibers) (fun x y => { x with Route := { x.Route with Fibers := y } }) (fun _ => rfl) (fun _ _ => rfl)
theorem Action_lens_Light_Route_Fibers : Lens Action (List Int) 3 (fun x => x.Light.Route.Fibers) (fun x y => { x with Light := { x.Light with Route := { x.Light.Route with Fibers := y } } }) := Lens.via (N := Action) (α := (Int) × (Light)) (f := fun x => (x.Kind, x.Light)) (Lens.snd Light_lens_Route_Fibers) (fun x => x.Light.Route.Fibers) (fun x y => { x with Light := { x.Light with Route := { x.Light.Route with Fibers := y } } }) (fun _ => rfl) (fun _ _ => rfl)
namespace TF
theorem ai164 : AI Tryz.prog 164 4 (.agg #[(.int .i64 0), (.int .i64 0), (.int .i64 0), (.int .i64 0)]) 32 := by unfold AI; kernel_rfl
theorem ai3 : AI Tryz.prog 3 1 (.int .i64 0) 8 := by unfold AI; kernel_rfl
theorem ai52 : AI Tryz.prog 52 5 (.agg #[(.int .i64 0), (.int .i64 0), (.slice none 0 0), (.int .i64 0), (.int .i64 0)]) 56 := by unfold AI; kernel_rfl
theorem ai54 : AI Tryz.prog 54 6 (.agg #[(.int .i64 0), (.int .i64 0), (.int .i64 0), (.slice none 0 0), (.int .i64 0), (.int .i64 0)]) 64 := by unfold AI; kernel_rfl
theorem ai9 : AI Tryz.prog 9 1 (.string ByteArray.empty) 16 := by unfold AI; kernel_rfl
theorem cl100 : CL Tryz.prog 100 := fun _ _ => by kernel_rfl
theorem cl101 : CL Tryz.prog 101 := fun _ _ => by kernel_rfl
theorem cl102 : CL Tryz.prog 102 := fun _ _ => by kernel_rfl
theorem cl103 : CL Tryz.prog 103 := fun _ _ => by kernel_rfl
theorem cl104 : CL Tryz.prog 104 := fun _ _ => by kernel_rfl
theorem cl105 : CL Tryz.prog 105 := fun _ _ => by kernel_rfl
theorem cl107 : CL Tryz.prog 107 := fun _ _ => by kernel_rfl
theorem cl108 : CL Tryz.prog 108 := fun _ _ => by kernel_rfl
theorem cl109 : CL Tryz.prog 109 := fun _ _ => by kernel_rfl
theorem cl11 : CL Tryz.prog 11 := fun _ _ => by kernel_rfl
theorem cl110 : CL Tryz.prog 110 := fun _ _ => by kernel_rfl
theorem cl111 : CL Tryz.prog 111 := fun _ _ => by kernel_rfl
theorem cl114 : CL Tryz.prog 114 := fun _ _ => by kernel_rfl
theorem cl115 : CL Tryz.prog 115 := fun _ _ => by kernel_rfl
theorem cl116 : CL Tryz.prog 116 := fun _ _ => by kernel_rfl
theorem cl117 : CL Tryz.prog 117 := fun _ _ => by kernel_rfl
theorem cl118 : CL Tryz.prog 118 := fun _ _ => by kernel_rfl
theorem cl119 : CL Tryz.prog 119 := fun _ _ => by kernel_rfl
theorem cl12 : CL Tryz.prog 12 := fun _ _ => by kernel_rfl
theorem cl120 : CL Tryz.prog 120 := fun _ _ => by kernel_rfl
theorem cl121 : CL Tryz.prog 121 := fun _ _ => by kernel_rfl
theorem cl122 : CL Tryz.prog 122 := fun _ _ => by kernel_rfl
theorem cl123 : CL Tryz.prog 123 := fun _ _ => by kernel_rfl
theorem cl124 : CL Tryz.prog 124 := fun _ _ => by kernel_rfl
theorem cl125 : CL Tryz.prog 125 := fun _ _ => by kernel_rfl
theorem cl126 : CL Tryz.prog 126 := fun _ _ => by kernel_rfl
theorem cl127 : CL Tryz.prog 127 := fun _ _ => by kernel_rfl
theorem cl128 : CL Tryz.prog 128 := fun _ _ => by kernel_rfl
theorem cl129 : CL Tryz.prog 129 := fun _ _ => by kernel_rfl
theorem cl130 : CL Tryz.prog 130 := fun _ _ => by kernel_rfl
theorem cl131 : CL Tryz.prog 131 := fun _ _ => by kernel_rfl
theorem cl132 : CL Tryz.prog 132 := fun _ _ => by kernel_rfl
theorem cl133 : CL Tryz.prog 133 := fun _ _ => by kernel_rfl
theorem cl134 : CL Tryz.prog 134 := fun _ _ => by kernel_rfl
theorem cl135 : CL Tryz.prog 135 := fun _ _ => by kernel_rfl
theorem cl137 : CL Tryz.prog 137 := fun _ _ => by kernel_rfl
theorem cl138 : CL Tryz.prog 138 := fun _ _ => by kernel_rfl
theorem cl139 : CL Tryz.prog 139 := fun _ _ => by kernel_rfl
theorem cl14 : CL Tryz.prog 14 := fun _ _ => by kernel_rfl
theorem cl140 : CL Tryz.prog 140 := fun _ _ => by kernel_rfl
theorem cl142 : CL Tryz.prog 142 := fun _ _ => by kernel_rfl
theorem cl143 : CL Tryz.prog 143 := fun _ _ => by kernel_rfl
theorem cl144 : CL Tryz.prog 144 := fun _ _ => by kernel_rfl
theorem cl149 : CL Tryz.prog 149 := fun _ _ => by kernel_rfl
theorem cl15 : CL Tryz.prog 15 := fun _ _ => by kernel_rfl
theorem cl150 : CL Tryz.prog 150 := fun _ _ => by kernel_rfl
theorem cl151 : CL Tryz.prog 151 := fun _ _ => by kernel_rfl
theorem cl152 : CL Tryz.prog 152 := fun _ _ => by kernel_rfl
theorem cl153 : CL Tryz.prog 153 := fun _ _ => by kernel_rfl
theorem cl154 : CL Tryz.prog 154 := fun _ _ => by kernel_rfl
theorem cl155 : CL Tryz.prog 155 := fun _ _ => by kernel_rfl
theorem cl156 : CL Tryz.prog 156 := fun _ _ => by kernel_rfl
theorem cl157 : CL Tryz.prog 157 := fun _ _ => by kernel_rfl
theorem cl159 : CL Tryz.prog 159 := fun _ _ => by kernel_rfl
theorem cl16 : CL Tryz.prog 16 := fun _ _ => by kernel_rfl
theorem cl160 : CL Tryz.prog 160 := fun _ _ => by kernel_rfl
theorem cl163 : CL Tryz.prog 163 := fun _ _ => by kernel_rfl
theorem cl164 : CL Tryz.prog 164 := fun _ _ => by kernel_rfl
theorem cl165 : CL Tryz.prog 165 := fun _ _ => by kernel_rfl
theorem cl166 : CL Tryz.prog 166 := fun _ _ => by kernel_rfl
theorem cl167 : CL Tryz.prog 167 := fun _ _ => by kernel_rfl
theorem cl168 : CL Tryz.prog 168 := fun _ _ => by kernel_rfl
theorem cl169 : CL Tryz.prog 169 := fun _ _ => by kernel_rfl
theorem cl17 : CL Tryz.prog 17 := fun _ _ => by kernel_rfl
theorem cl170 : CL Tryz.prog 170 := fun _ _ => by kernel_rfl
theorem cl171 : CL Tryz.prog 171 := fun _ _ => by kernel_rfl
theorem cl172 : CL Tryz.prog 172 := fun _ _ => by kernel_rfl
theorem cl173 : CL Tryz.prog 173 := fun _ _ => by kernel_rfl
theorem cl174 : CL Tryz.prog 174 := fun _ _ => by kernel_rfl
theorem cl175 : CL Tryz.prog 175 := fun _ _ => by kernel_rfl
theorem cl176 : CL Tryz.prog 176 := fun _ _ => by kernel_rfl
theorem cl18 : CL Tryz.prog 18 := fun _ _ => by kernel_rfl
theorem cl187 : CL Tryz.prog 187 := fun _ _ => by kernel_rfl
theorem cl188 : CL Tryz.prog 188 := fun _ _ => by kernel_rfl
theorem cl189 : CL Tryz.prog 189 := fun _ _ => by kernel_rfl
theorem cl19 : CL Tryz.prog 19 := fun _ _ => by kernel_rfl
theorem cl190 : CL Tryz.prog 190 := fun _ _ => by kernel_rfl
theorem cl191 : CL Tryz.prog 191 := fun _ _ => by kernel_rfl
theorem cl192 : CL Tryz.prog 192 := fun _ _ => by kernel_rfl
theorem cl193 : CL Tryz.prog 193 := fun _ _ => by kernel_rfl
theorem cl194 : CL Tryz.prog 194 := fun _ _ => by kernel_rfl
theorem cl197 : CL Tryz.prog 197 := fun _ _ => by kernel_rfl
theorem cl198 : CL Tryz.prog 198 := fun _ _ => by kernel_rfl
theorem cl199 : CL Tryz.prog 199 := fun _ _ => by kernel_rfl
theorem cl200 : CL Tryz.prog 200 := fun _ _ => by kernel_rfl
theorem cl207 : CL Tryz.prog 207 := fun _ _ => by kernel_rfl
theorem cl208 : CL Tryz.prog 208 := fun _ _ => by kernel_rfl
theorem cl209 : CL Tryz.prog 209 := fun _ _ => by kernel_rfl
theorem cl21 : CL Tryz.prog 21 := fun _ _ => by kernel_rfl
theorem cl210 : CL Tryz.prog 210 := fun _ _ => by kernel_rfl
theorem cl212 : CL Tryz.prog 212 := fun _ _ => by kernel_rfl
theorem cl217 : CL Tryz.prog 217 := fun _ _ => by kernel_rfl
theorem cl223 : CL Tryz.prog 223 := fun _ _ => by kernel_rfl
theorem cl227 : CL Tryz.prog 227 := fun _ _ => by kernel_rfl
theorem cl23 : CL Tryz.prog 23 := fun _ _ => by kernel_rfl
theorem cl25 : CL Tryz.prog 25 := fun _ _ => by kernel_rfl
theorem cl27 : CL Tryz.prog 27 := fun _ _ => by kernel_rfl
theorem cl29 : CL Tryz.prog 29 := fun _ _ => by kernel_rfl
theorem cl30 : CL Tryz.prog 30 := fun _ _ => by kernel_rfl
theorem cl31 : CL Tryz.prog 31 := fun _ _ => by kernel_rfl
theorem cl33 : CL Tryz.prog 33 := fun _ _ => by kernel_rfl
theorem cl35 : CL Tryz.prog 35 := fun _ _ => by kernel_rfl
theorem cl36 : CL Tryz.prog 36 := fun _ _ => by kernel_rfl
theorem cl37 : CL Tryz.prog 37 := fun _ _ => by kernel_rfl
theorem cl38 : CL Tryz.prog 38 := fun _ _ => by kernel_rfl
theorem cl39 : CL Tryz.prog 39 := fun _ _ => by kernel_rfl
theorem cl49 : CL Tryz.prog 49 := fun _ _ => by kernel_rfl
theorem cl50 : CL Tryz.prog 50 := fun _ _ => by kernel_rfl
theorem cl52 : CL Tryz.prog 52 := fun _ _ => by kernel_rfl
theorem cl53 : CL Tryz.prog 53 := fun _ _ => by kernel_rfl
theorem cl55 : CL Tryz.prog 55 := fun _ _ => by kernel_rfl
theorem cl58 : CL Tryz.prog 58 := fun _ _ => by kernel_rfl
theorem cl59 : CL Tryz.prog 59 := fun _ _ => by kernel_rfl
theorem cl60 : CL Tryz.prog 60 := fun _ _ => by kernel_rfl
theorem cl61 : CL Tryz.prog 61 := fun _ _ => by kernel_rfl
theorem cl62 : CL Tryz.prog 62 := fun _ _ => by kernel_rfl
theorem cl63 : CL Tryz.prog 63 := fun _ _ => by kernel_rfl
theorem cl64 : CL Tryz.prog 64 := fun _ _ => by kernel_rfl
theorem cl65 : CL Tryz.prog 65 := fun _ _ => by kernel_rfl
theorem cl66 : CL Tryz.prog 66 := fun _ _ => by kernel_rfl
theorem cl67 : CL Tryz.prog 67 := fun _ _ => by kernel_rfl
theorem cl68 : CL Tryz.prog 68 := fun _ _ => by kernel_rfl
theorem cl69 : CL Tryz.prog 69 := fun _ _ => by kernel_rfl
theorem cl70 : CL Tryz.prog 70 := fun _ _ => by kernel_rfl
theorem cl71 : CL Tryz.prog 71 := fun _ _ => by kernel_rfl
theorem cl72 : CL Tryz.prog 72 := fun _ _ => by kernel_rfl
theorem cl73 : CL Tryz.prog 73 := fun _ _ => by kernel_rfl
theorem cl75 : CL Tryz.prog 75 := fun _ _ => by kernel_rfl
theorem cl76 : CL Tryz.prog 76 := fun _ _ => by kernel_rfl
theorem cl77 : CL Tryz.prog 77 := fun _ _ => by kernel_rfl
theorem cl78 : CL Tryz.prog 78 := fun _ _ => by kernel_rfl
theorem cl80 : CL Tryz.prog 80 := fun _ _ => by kernel_rfl
theorem cl81 : CL Tryz.prog 81 := fun _ _ => by kernel_rfl
theorem cl82 : CL Tryz.prog 82 := fun _ _ => by kernel_rfl
theorem cl83 : CL Tryz.prog 83 := fun _ _ => by kernel_rfl
theorem cl84 : CL Tryz.prog 84 := fun _ _ => by kernel_rfl
theorem cl85 : CL Tryz.prog 85 := fun _ _ => by kernel_rfl
theorem cl86 : CL Tryz.prog 86 := fun _ _ => by kernel_rfl
theorem cl87 : CL Tryz.prog 87 := fun _ _ => by kernel_rfl
theorem cl88 : CL Tryz.prog 88 := fun _ _ => by kernel_rfl
theorem cl89 : CL Tryz.prog 89 := fun _ _ => by kernel_rfl
theorem cl90 : CL Tryz.prog 90 := fun _ _ => by kernel_rfl
theorem cl91 : CL Tryz.prog 91 := fun _ _ => by kernel_rfl
theorem cl92 : CL Tryz.prog 92 := fun _ _ => by kernel_rfl
theorem cl93 : CL Tryz.prog 93 := fun _ _ => by kernel_rfl
theorem cl94 : CL Tryz.prog 94 := fun _ _ => by kernel_rfl
theorem cl99 : CL Tryz.prog 99 := fun _ _ => by kernel_rfl
theorem la164 : LA Tryz.prog 164 4 := fun _ _ => by kernel_rfl
theorem la184 : LA Tryz.prog 184 4 := fun _ _ => by kernel_rfl
theorem la25 : LA Tryz.prog 25 2 := fun _ _ => by kernel_rfl
theorem la28 : LA Tryz.prog 28 3 := fun _ _ => by kernel_rfl
theorem la31 : LA Tryz.prog 31 2 := fun _ _ => by kernel_rfl
theorem la33 : LA Tryz.prog 33 2 := fun _ _ => by kernel_rfl
theorem la35 : LA Tryz.prog 35 5 := fun _ _ => by kernel_rfl
theorem la37 : LA Tryz.prog 37 6 := fun _ _ => by kernel_rfl
theorem la42 : LA Tryz.prog 42 2 := fun _ _ => by kernel_rfl
theorem la45 : LA Tryz.prog 45 3 := fun _ _ => by kernel_rfl
theorem la49 : LA Tryz.prog 49 2 := fun _ _ => by kernel_rfl
theorem la50 : LA Tryz.prog 50 2 := fun _ _ => by kernel_rfl
theorem la52 : LA Tryz.prog 52 5 := fun _ _ => by kernel_rfl
theorem la54 : LA Tryz.prog 54 6 := fun _ _ => by kernel_rfl
theorem la73 : LA Tryz.prog 73 6 := fun _ _ => by kernel_rfl
theorem la76 : LA Tryz.prog 76 6 := fun _ _ => by kernel_rfl
theorem ls22 : LS Tryz.prog 22 := fun _ _ => by kernel_rfl
theorem ls23 : LS Tryz.prog 23 := fun _ _ => by kernel_rfl
theorem ls26 : LS Tryz.prog 26 := fun _ _ => by kernel_rfl
theorem ls29 : LS Tryz.prog 29 := fun _ _ => by kernel_rfl
theorem ls3 : LS Tryz.prog 3 := fun _ _ => by kernel_rfl
theorem ls4 : LS Tryz.prog 4 := fun _ _ => by kernel_rfl
theorem ls40 : LS Tryz.prog 40 := fun _ _ => by kernel_rfl
theorem ls43 : LS Tryz.prog 43 := fun _ _ => by kernel_rfl
theorem ls63 : LS Tryz.prog 63 := fun _ _ => by kernel_rfl
theorem ls67 : LS Tryz.prog 67 := fun _ _ => by kernel_rfl
theorem ls9 : LS Tryz.prog 9 := fun _ _ => by kernel_rfl
theorem pt3 : PT Tryz.prog 3 := fun _ => ⟨by kernel_rfl, by kernel_rfl⟩
theorem qeqt50 : EQT Tryz.prog 50 2 3 := ⟨by kernel_rfl, by kernel_rfl, by kernel_rfl, by kernel_rfl, by kernel_rfl, pt3, ⟨_, Tryz.underlying3⟩⟩
theorem sz164 : SZ Tryz.prog 164 4 := fun _ => by kernel_rfl
theorem sz184 : SZ Tryz.prog 184 4 := fun _ => by kernel_rfl
theorem sz22 : SZ Tryz.prog 22 1 := fun _ => by kernel_rfl
theorem sz29 : SZ Tryz.prog 29 1 := fun _ => by kernel_rfl
theorem sz3 : SZ Tryz.prog 3 1 := fun _ => by kernel_rfl
theorem sz35 : SZ Tryz.prog 35 5 := fun _ => by kernel_rfl
theorem sz37 : SZ Tryz.prog 37 6 := fun _ => by kernel_rfl
theorem sz4 : SZ Tryz.prog 4 1 := fun _ => by kernel_rfl
theorem sz40 : SZ Tryz.prog 40 1 := fun _ => by kernel_rfl
theorem sz42 : SZ Tryz.prog 42 2 := fun _ => by kernel_rfl
theorem sz43 : SZ Tryz.prog 43 1 := fun _ => by kernel_rfl
theorem sz45 : SZ Tryz.prog 45 3 := fun _ => by kernel_rfl
theorem sz49 : SZ Tryz.prog 49 2 := fun _ => by kernel_rfl
theorem sz50 : SZ Tryz.prog 50 2 := fun _ => by kernel_rfl
theorem sz52 : SZ Tryz.prog 52 5 := fun _ => by kernel_rfl
theorem sz54 : SZ Tryz.prog 54 6 := fun _ => by kernel_rfl
theorem sz67 : SZ Tryz.prog 67 1 := fun _ => by kernel_rfl
theorem sz76 : SZ Tryz.prog 76 6 := fun _ => by kernel_rfl
theorem sz9 : SZ Tryz.prog 9 1 := fun _ => by kernel_rfl
theorem zv164 : ZV Tryz.prog 164 (.agg #[(.int .i64 0), (.int .i64 0), (.int .i64 0), (.int .i64 0)]) := fun _ => by kernel_rfl
theorem zv42 : ZV Tryz.prog 42 (.agg #[(.slice none 0 0), (.slice none 0 0)]) := fun _ => by kernel_rfl
theorem zv45 : ZV Tryz.prog 45 (.agg #[(.slice none 0 0), (.slice none 0 0), (.slice none 0 0)]) := fun _ => by kernel_rfl
theorem zv49 : ZV Tryz.prog 49 (.agg #[(.int .i64 0), (.slice none 0 0)]) := fun _ => by kernel_rfl
theorem zv50 : ZV Tryz.prog 50 (.agg #[(.int .i64 0), (.int .i64 0)]) := fun _ => by kernel_rfl
theorem zv52 : ZV Tryz.prog 52 (.agg #[(.int .i64 0), (.int .i64 0), (.slice none 0 0), (.int .i64 0), (.int .i64 0)]) := fun _ => by kernel_rfl
theorem zv54 : ZV Tryz.prog 54 (.agg #[(.int .i64 0), (.int .i64 0), (.int .i64 0), (.slice none 0 0), (.int .i64 0), (.int .i64 0)]) := fun _ => by kernel_rfl
theorem zv76 : ZV Tryz.prog 76 (.agg #[(.slice none 0 0), (.slice none 0 0), (.slice none 0 0), (.slice none 0 0), (.slice none 0 0), (.bool false)]) := fun _ => by kernel_rfl
end TF
def tab : Tab := ⟨[22, 23, 26, 29, 40, 43, 63, 67, 85], [4], [9], [(25, 0, 0), (25, 1, 1), (28, 0, 0), (28, 1, 2), (31, 0, 0), (31, 1, 1), (33, 0, 0), (33, 1, 1), (35, 0, 0), (35, 1, 1), (35, 2, 3), (37, 0, 0), (37, 1, 1), (42, 0, 0), (42, 1, 1), (45, 0, 0), (45, 1, 2), (49, 0, 0), (49, 1, 1), (50, 0, 0), (50, 1, 1), (52, 0, 0), (52, 1, 1), (52, 2, 3), (54, 0, 0), (54, 1, 1), (73, 0, 0), (73, 1, 3), (73, 2, 4), (73, 3, 5), (76, 0, 0), (76, 1, 3), (76, 2, 4), (76, 3, 5), (160, 0, 0), (160, 1, 1), (160, 2, 2), (164, 0, 0), (164, 1, 1), (164, 2, 2), (164, 3, 3), (184, 0, 0), (184, 1, 1), (184, 2, 2), (184, 3, 3)]⟩
theorem inl_mem : ∀ {l : List Nat} {x : Nat}, inl l x = true → x ∈ l
  | y :: r, x, h => by
    unfold inl at h
    cases hb : Nat.beq y x <;> rw [hb] at h
    · exact List.mem_cons_of_mem _ (inl_mem h)
    · rw [Nat.eq_of_beq_eq_true hb]; exact List.mem_cons_self
theorem foff_mem : ∀ {l : List (TypeId × Nat × Nat)} {t f o : Nat}, foff l t f = some o → (t, f, o) ∈ l
  | (t', f', o') :: r, t, f, o, h => by
    unfold foff at h
    cases hb : (Nat.beq t' t && Nat.beq f' f) <;> rw [hb] at h
    · exact List.mem_cons_of_mem _ (foff_mem h)
    · simp only [Bool.and_eq_true] at hb
      injection h with h
      rw [Nat.eq_of_beq_eq_true hb.1, Nat.eq_of_beq_eq_true hb.2, h]; exact List.mem_cons_self
theorem tabOk : TabOk Tryz.prog tab where
  sl := fun T h => by
    have h := inl_mem h
    simp only [tab, List.mem_cons, List.not_mem_nil, or_false] at h
    rcases h with rfl | rfl | rfl | rfl | rfl | rfl | rfl | rfl | rfl
    · exact ⟨_, Tryz.underlying22⟩
    · exact ⟨_, Tryz.underlying23⟩
    · exact ⟨_, Tryz.underlying26⟩
    · exact ⟨_, Tryz.underlying29⟩
    · exact ⟨_, Tryz.underlying40⟩
    · exact ⟨_, Tryz.underlying43⟩
    · exact ⟨_, Tryz.underlying63⟩
    · exact ⟨_, Tryz.underlying67⟩
    · exact ⟨_, Tryz.underlying85⟩
  bo := fun T h => by
    have h := inl_mem h
    simp only [tab, List.mem_cons, List.not_mem_nil, or_false] at h
    rcases h with rfl
    · exact Tryz.underlying4
  st := fun T h => by
    have h := inl_mem h
    simp only [tab, List.mem_cons, List.not_mem_nil, or_false] at h
    rcases h with rfl
    · exact Tryz.underlying9
  fa := fun T f o h => by
    have h := foff_mem h
    simp only [tab, List.mem_cons, List.not_mem_nil, or_false, Prod.mk.injEq] at h
    rcases h with ⟨rfl, rfl, rfl⟩ | ⟨rfl, rfl, rfl⟩ | ⟨rfl, rfl, rfl⟩ | ⟨rfl, rfl, rfl⟩ | ⟨rfl, rfl, rfl⟩ | ⟨rfl, rfl, rfl⟩ | ⟨rfl, rfl, rfl⟩ | ⟨rfl, rfl, rfl⟩ | ⟨rfl, rfl, rfl⟩ | ⟨rfl, rfl, rfl⟩ | ⟨rfl, rfl, rfl⟩ | ⟨rfl, rfl, rfl⟩ | ⟨rfl, rfl, rfl⟩ | ⟨rfl, rfl, rfl⟩ | ⟨rfl, rfl, rfl⟩ | ⟨rfl, rfl, rfl⟩ | ⟨rfl, rfl, rfl⟩ | ⟨rfl, rfl, rfl⟩ | ⟨rfl, rfl, rfl⟩ | ⟨rfl, rfl, rfl⟩ | ⟨rfl, rfl, rfl⟩ | ⟨rfl, rfl, rfl⟩ | ⟨rfl, rfl, rfl⟩ | ⟨rfl, rfl, rfl⟩ | ⟨rfl, rfl, rfl⟩ | ⟨rfl, rfl, rfl⟩ | ⟨rfl, rfl, rfl⟩ | ⟨rfl, rfl, rfl⟩ | ⟨rfl, rfl, rfl⟩ | ⟨rfl, rfl, rfl⟩ | ⟨rfl, rfl, rfl⟩ | ⟨rfl, rfl, rfl⟩ | ⟨rfl, rfl, rfl⟩ | ⟨rfl, rfl, rfl⟩ | ⟨rfl, rfl, rfl⟩ | ⟨rfl, rfl, rfl⟩ | ⟨rfl, rfl, rfl⟩ | ⟨rfl, rfl, rfl⟩ | ⟨rfl, rfl, rfl⟩ | ⟨rfl, rfl, rfl⟩ | ⟨rfl, rfl, rfl⟩ | ⟨rfl, rfl, rfl⟩ | ⟨rfl, rfl, rfl⟩ | ⟨rfl, rfl, rfl⟩ | ⟨rfl, rfl, rfl⟩
    · exact fun _ _ => by kernel_rfl
    · exact fun _ _ => by kernel_rfl
    · exact fun _ _ => by kernel_rfl
    · exact fun _ _ => by kernel_rfl
    · exact fun _ _ => by kernel_rfl
    · exact fun _ _ => by kernel_rfl
    · exact fun _ _ => by kernel_rfl
    · exact fun _ _ => by kernel_rfl
    · exact fun _ _ => by kernel_rfl
    · exact fun _ _ => by kernel_rfl
    · exact fun _ _ => by kernel_rfl
    · exact fun _ _ => by kernel_rfl
    · exact fun _ _ => by kernel_rfl
    · exact fun _ _ => by kernel_rfl
    · exact fun _ _ => by kernel_rfl
    · exact fun _ _ => by kernel_rfl
    · exact fun _ _ => by kernel_rfl
    · exact fun _ _ => by kernel_rfl
    · exact fun _ _ => by kernel_rfl
    · exact fun _ _ => by kernel_rfl
    · exact fun _ _ => by kernel_rfl
    · exact fun _ _ => by kernel_rfl
    · exact fun _ _ => by kernel_rfl
    · exact fun _ _ => by kernel_rfl
    · exact fun _ _ => by kernel_rfl
    · exact fun _ _ => by kernel_rfl
    · exact fun _ _ => by kernel_rfl
    · exact fun _ _ => by kernel_rfl
    · exact fun _ _ => by kernel_rfl
    · exact fun _ _ => by kernel_rfl
    · exact fun _ _ => by kernel_rfl
    · exact fun _ _ => by kernel_rfl
    · exact fun _ _ => by kernel_rfl
    · exact fun _ _ => by kernel_rfl
    · exact fun _ _ => by kernel_rfl
    · exact fun _ _ => by kernel_rfl
    · exact fun _ _ => by kernel_rfl
    · exact fun _ _ => by kernel_rfl
    · exact fun _ _ => by kernel_rfl
    · exact fun _ _ => by kernel_rfl
    · exact fun _ _ => by kernel_rfl
    · exact fun _ _ => by kernel_rfl
    · exact fun _ _ => by kernel_rfl
    · exact fun _ _ => by kernel_rfl
    · exact fun _ _ => by kernel_rfl
section
variable {Q : Exit → Act → World → Prop} {w : World} {n : Nat}
theorem pr {ops : List Oper} (k : Nat) {L : List (Nat × Value)} {l : List Oper} {L' : List (Nat × Value)} {l' : List Oper} {a : Act} (hf : Fr a n L) (hd : dstOk n l = true) (h : pRun tab ops k L l = (L', l')) (hk : ∀ a', Fr a' n L' → wpList Tryz.prog ops.toArray Q l' a' w) : wpList Tryz.prog ops.toArray Q l a w := pRun_ok tabOk k L l hf hd h hk
variable {S0 : World → Prop} {B : List Nat} {bs : List Bool} {a : Act} {fuel d : Nat} {L : List (Nat × Value)} {Mid : Act → World → Prop} {op : Op} {v : Value} {l : List Oper} {t : TypeId} {ps : String} {af : Array Edge}
theorem tp (i : Nat) (hi : l[i]? = some ⟨some d, op, t, ps, af, none⟩) (hdn : Nat.ble (d + 1) n = true) (hf : Fr a n L) (hc : takeB l bs i [] B = true) (hS : nb B bs.toArray = true → S0 w) (hv : pOp tab L op = some v) (h : ∀ a', Fr a' n ((d, v) :: L) → DL Tryz.prog l Mid S0 B fuel (bs.set i true) a' w) : DL Tryz.prog l Mid S0 B (fuel + 1) bs a w := tP i hi rfl rfl hdn hf hc hS (fun _ => pOp_ok tabOk hf hv) h
theorem tpg (i : Nat) {j e : Nat} {b : Bool} (hi : l[i]? = some ⟨some d, op, t, ps, af, some (j, b)⟩) (hj : (l[j]?).bind (·.dst) = some e) (hb : lk L e = some (.bool b)) (hdn : Nat.ble (d + 1) n = true) (hf : Fr a n L) (hc : takeB l bs i [] B = true) (hS : nb B bs.toArray = true → S0 w) (hv : pOp tab L op = some v) (h : ∀ a', Fr a' n ((d, v) :: L) → DL Tryz.prog l Mid S0 B fuel (bs.set i true) a' w) : DL Tryz.prog l Mid S0 B (fuel + 1) bs a w := tPg i hi rfl rfl hj hb hdn hf hc hS (fun _ => pOp_ok tabOk hf hv) h
end
end AT
