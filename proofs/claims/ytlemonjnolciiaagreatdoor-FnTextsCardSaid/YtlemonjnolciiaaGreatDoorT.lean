/- The types and closed facts on the program, by program (gen.py). -/
import Derived.Test.YtlemonjnolciiaaGreatDoorAtPX
import Derived.Test.YtlemonjnolciiaaGreatDoorF
import Derived.Test.YtlemonjnolciiaaGreatDoorRows
set_option linter.unusedVariables false
set_option maxRecDepth 100000
namespace AT
open Go Go.RowKit Go.Proofs
instance : GoTy L1CurP := GoTy.via (α := (List By) × (Int) × (U64)) (fun x => (x.code, x.at_, x.seed))
theorem L1CurP_cells {w : World} {S : Nat → Prop} {cs : List Value} {x : L1CurP} (h : GoTy.rep w S cs x) : ∃ A1 c1, cs = [(.slice A1 x.code.length c1), (.int .i64 x.at_), (.int .u64 x.seed.n)] ∧ lrep w S [.slice A1 x.code.length c1] x.code := by
  obtain ⟨p0, q0, rfl, g0, k0⟩ := h
  obtain ⟨A1, c1, rfl, l1⟩ := list_cells g0
  obtain ⟨p1, q1, rfl, g1, k1⟩ := k0
  obtain rfl := g1
  obtain rfl := k1
  exact ⟨A1, c1, rfl, l1⟩
theorem L1CurP_mk {w : World} {S : Nat → Prop} {x : L1CurP} {A1 : Option Addr} {m1 c1 : Nat} (l1 : lrep w S [.slice A1 m1 c1] x.code) : GoTy.rep w S [(.slice A1 m1 c1), (.int .i64 x.at_), (.int .u64 x.seed.n)] x := ⟨_, _, rfl, l1, ⟨_, _, rfl, rfl, rfl⟩⟩
instance : GoTy Fiber := GoTy.via (α := (Int) × (Int) × (Int) × (Int)) (fun x => (x.A, x.B, x.Length, x.Risk))
theorem Fiber_cells {w : World} {S : Nat → Prop} {cs : List Value} {x : Fiber} (h : GoTy.rep w S cs x) : cs = [(.int .i64 x.A), (.int .i64 x.B), (.int .i64 x.Length), (.int .i64 x.Risk)] := by
  obtain ⟨p0, q0, rfl, g0, k0⟩ := h
  obtain rfl := g0
  obtain ⟨p1, q1, rfl, g1, k1⟩ := k0
  obtain rfl := g1
  obtain ⟨p2, q2, rfl, g2, k2⟩ := k1
  obtain rfl := g2
  obtain rfl := k2
  exact rfl
theorem Fiber_open {w : World} {S : Nat → Prop} {v : Value} {x : Fiber} (h : VR w S v x) : v = (.agg #[(.int .i64 x.A), (.int .i64 x.B), (.int .i64 x.Length), (.int .i64 x.Risk)]) := by
  obtain ⟨cs, h, rfl⟩ := h
  obtain rfl := Fiber_cells h
  exact rfl
theorem Fiber_mk {w : World} {S : Nat → Prop} {x : Fiber} : GoTy.rep w S [(.int .i64 x.A), (.int .i64 x.B), (.int .i64 x.Length), (.int .i64 x.Risk)] x := ⟨_, _, rfl, rfl, ⟨_, _, rfl, rfl, ⟨_, _, rfl, rfl, rfl⟩⟩⟩
theorem Fiber_mkv {w : World} {S : Nat → Prop} {x : Fiber} : VR w S (.agg #[(.int .i64 x.A), (.int .i64 x.B), (.int .i64 x.Length), (.int .i64 x.Risk)]) x := ⟨_, Fiber_mk, rfl⟩
instance : GoTy Network := GoTy.via (α := (List ByteArray) × (List Fiber)) (fun x => (x.Nodes, x.Fibers))
theorem Network_cells {w : World} {S : Nat → Prop} {cs : List Value} {x : Network} (h : GoTy.rep w S cs x) : ∃ A1 c1, ∃ A2 c2, cs = [(.slice A1 x.Nodes.length c1), (.slice A2 x.Fibers.length c2)] ∧ lrep w S [.slice A1 x.Nodes.length c1] x.Nodes ∧ lrep w S [.slice A2 x.Fibers.length c2] x.Fibers := by
  obtain ⟨p0, q0, rfl, g0, k0⟩ := h
  obtain ⟨A1, c1, rfl, l1⟩ := list_cells g0
  obtain ⟨A2, c2, rfl, l2⟩ := list_cells k0
  exact ⟨A1, c1, A2, c2, rfl, l1, l2⟩
theorem Network_open {w : World} {S : Nat → Prop} {v : Value} {x : Network} (h : VR w S v x) : ∃ A1 c1, ∃ A2 c2, v = (.agg #[(.slice A1 x.Nodes.length c1), (.slice A2 x.Fibers.length c2)]) ∧ lrep w S [.slice A1 x.Nodes.length c1] x.Nodes ∧ lrep w S [.slice A2 x.Fibers.length c2] x.Fibers := by
  obtain ⟨cs, h, rfl⟩ := h
  obtain ⟨A1, c1, A2, c2, rfl, l1, l2⟩ := Network_cells h
  exact ⟨A1, c1, A2, c2, rfl, l1, l2⟩
theorem Network_mk {w : World} {S : Nat → Prop} {x : Network} {A1 : Option Addr} {m1 c1 : Nat} (l1 : lrep w S [.slice A1 m1 c1] x.Nodes) {A2 : Option Addr} {m2 c2 : Nat} (l2 : lrep w S [.slice A2 m2 c2] x.Fibers) : GoTy.rep w S [(.slice A1 m1 c1), (.slice A2 m2 c2)] x := ⟨_, _, rfl, l1, l2⟩
theorem Network_mkv {w : World} {S : Nat → Prop} {x : Network} {A1 : Option Addr} {m1 c1 : Nat} (l1 : lrep w S [.slice A1 m1 c1] x.Nodes) {A2 : Option Addr} {m2 c2 : Nat} (l2 : lrep w S [.slice A2 m2 c2] x.Fibers) : VR w S (.agg #[(.slice A1 m1 c1), (.slice A2 m2 c2)]) x := ⟨_, Network_mk l1 l2, rfl⟩
theorem Network_ownmk {w : World} {x : Network} {A1 : Option Addr} {m1 c1 : Nat} {F1 : List Nat} (l1 : lown w F1 [.slice A1 m1 c1] x.Nodes) {A2 : Option Addr} {m2 c2 : Nat} {F2 : List Nat} (l2 : lown w F2 [.slice A2 m2 c2] x.Fibers) : GoTy.own w (F1 ++ F2) [(.slice A1 m1 c1), (.slice A2 m2 c2)] x := ⟨_, _, F1, F2, rfl, by simp, l1, l2⟩
theorem Network_own {w : World} {F : List Nat} {cs : List Value} {x : Network} (h : GoTy.own w F cs x) : ∃ A1 c1 F1, ∃ A2 c2 F2, cs = [(.slice A1 x.Nodes.length c1), (.slice A2 x.Fibers.length c2)] ∧ F1 ++ (F2) = F ∧ lown w F1 [.slice A1 x.Nodes.length c1] x.Nodes ∧ lown w F2 [.slice A2 x.Fibers.length c2] x.Fibers := by
  obtain ⟨p0, q0, X0, Y0, rfl, rfl, g0, k0⟩ := h
  obtain ⟨A1, c1, rfl, l1⟩ := own_list g0
  obtain ⟨A2, c2, rfl, l2⟩ := own_list k0
  exact ⟨A1, c1, _, A2, c2, _, rfl, by simp, l1, l2⟩
theorem Network_vo {w : World} {F : List Nat} {v : Value} {x : Network} (h : VO w F v x) : ∃ A1 c1 F1, ∃ A2 c2 F2, v = (.agg #[(.slice A1 x.Nodes.length c1), (.slice A2 x.Fibers.length c2)]) ∧ F1 ++ (F2) = F ∧ lown w F1 [.slice A1 x.Nodes.length c1] x.Nodes ∧ lown w F2 [.slice A2 x.Fibers.length c2] x.Fibers := by
  obtain ⟨cs, h, rfl⟩ := h
  obtain ⟨A1, c1, F1, A2, c2, F2, rfl, rfl, l1, l2⟩ := Network_own h
  exact ⟨_, _, _, _, _, _, rfl, rfl, l1, l2⟩
instance : GoTy Route := GoTy.via (α := (Int) × (List Int)) (fun x => (x.Start, x.Fibers))
theorem Route_cells {w : World} {S : Nat → Prop} {cs : List Value} {x : Route} (h : GoTy.rep w S cs x) : ∃ A1 c1, cs = [(.int .i64 x.Start), (.slice A1 x.Fibers.length c1)] ∧ lrep w S [.slice A1 x.Fibers.length c1] x.Fibers := by
  obtain ⟨p0, q0, rfl, g0, k0⟩ := h
  obtain rfl := g0
  obtain ⟨A1, c1, rfl, l1⟩ := list_cells k0
  exact ⟨A1, c1, rfl, l1⟩
theorem Route_open {w : World} {S : Nat → Prop} {v : Value} {x : Route} (h : VR w S v x) : ∃ A1 c1, v = (.agg #[(.int .i64 x.Start), (.slice A1 x.Fibers.length c1)]) ∧ lrep w S [.slice A1 x.Fibers.length c1] x.Fibers := by
  obtain ⟨cs, h, rfl⟩ := h
  obtain ⟨A1, c1, rfl, l1⟩ := Route_cells h
  exact ⟨A1, c1, rfl, l1⟩
theorem Route_mk {w : World} {S : Nat → Prop} {x : Route} {A1 : Option Addr} {m1 c1 : Nat} (l1 : lrep w S [.slice A1 m1 c1] x.Fibers) : GoTy.rep w S [(.int .i64 x.Start), (.slice A1 m1 c1)] x := ⟨_, _, rfl, rfl, l1⟩
theorem Route_mkv {w : World} {S : Nat → Prop} {x : Route} {A1 : Option Addr} {m1 c1 : Nat} (l1 : lrep w S [.slice A1 m1 c1] x.Fibers) : VR w S (.agg #[(.int .i64 x.Start), (.slice A1 m1 c1)]) x := ⟨_, Route_mk l1, rfl⟩
theorem Route_ownmk {w : World} {x : Route} {A1 : Option Addr} {m1 c1 : Nat} {F1 : List Nat} (l1 : lown w F1 [.slice A1 m1 c1] x.Fibers) : GoTy.own w F1 [(.int .i64 x.Start), (.slice A1 m1 c1)] x := ⟨_, _, [], F1, rfl, by simp, ⟨rfl, rfl⟩, l1⟩
theorem Route_own {w : World} {F : List Nat} {cs : List Value} {x : Route} (h : GoTy.own w F cs x) : ∃ A1 c1 F1, cs = [(.int .i64 x.Start), (.slice A1 x.Fibers.length c1)] ∧ F1 = F ∧ lown w F1 [.slice A1 x.Fibers.length c1] x.Fibers := by
  obtain ⟨p0, q0, X0, Y0, rfl, rfl, g0, k0⟩ := h
  obtain ⟨rfl, rfl⟩ := g0
  obtain ⟨A1, c1, rfl, l1⟩ := own_list k0
  exact ⟨A1, c1, _, rfl, by simp, l1⟩
theorem Route_vo {w : World} {F : List Nat} {v : Value} {x : Route} (h : VO w F v x) : ∃ A1 c1 F1, v = (.agg #[(.int .i64 x.Start), (.slice A1 x.Fibers.length c1)]) ∧ F1 = F ∧ lown w F1 [.slice A1 x.Fibers.length c1] x.Fibers := by
  obtain ⟨cs, h, rfl⟩ := h
  obtain ⟨A1, c1, F1, rfl, rfl, l1⟩ := Route_own h
  exact ⟨_, _, _, rfl, rfl, l1⟩
instance : GoTy Block := GoTy.via (α := (Int) × (Int)) (fun x => (x.First, x.Count))
theorem Block_cells {w : World} {S : Nat → Prop} {cs : List Value} {x : Block} (h : GoTy.rep w S cs x) : cs = [(.int .i64 x.First), (.int .i64 x.Count)] := by
  obtain ⟨p0, q0, rfl, g0, k0⟩ := h
  obtain rfl := g0
  obtain rfl := k0
  exact rfl
theorem Block_open {w : World} {S : Nat → Prop} {v : Value} {x : Block} (h : VR w S v x) : v = (.agg #[(.int .i64 x.First), (.int .i64 x.Count)]) := by
  obtain ⟨cs, h, rfl⟩ := h
  obtain rfl := Block_cells h
  exact rfl
theorem Block_mk {w : World} {S : Nat → Prop} {x : Block} : GoTy.rep w S [(.int .i64 x.First), (.int .i64 x.Count)] x := ⟨_, _, rfl, rfl, rfl⟩
theorem Block_mkv {w : World} {S : Nat → Prop} {x : Block} : VR w S (.agg #[(.int .i64 x.First), (.int .i64 x.Count)]) x := ⟨_, Block_mk, rfl⟩
theorem Block_ownmk {w : World} {x : Block} : GoTy.own w [] [(.int .i64 x.First), (.int .i64 x.Count)] x := ⟨_, _, [], [], rfl, by simp, ⟨rfl, rfl⟩, ⟨rfl, rfl⟩⟩
theorem Block_ownF {w : World} {F : List Nat} {cs : List Value} {x : Block} (h : GoTy.own w F cs x) : F = [] := by
  obtain ⟨p0, q0, X0, Y0, rfl, rfl, g0, k0⟩ := h
  obtain ⟨rfl, rfl⟩ := g0
  obtain ⟨rfl, rfl⟩ := k0
  rfl
instance : GoTy Light := GoTy.via (α := (Int) × (Route) × (Block)) (fun x => (x.Id, x.Route, x.Block))
theorem Light_cells {w : World} {S : Nat → Prop} {cs : List Value} {x : Light} (h : GoTy.rep w S cs x) : ∃ A1 c1, cs = [(.int .i64 x.Id), (.int .i64 x.Route.Start), (.slice A1 x.Route.Fibers.length c1), (.int .i64 x.Block.First), (.int .i64 x.Block.Count)] ∧ lrep w S [.slice A1 x.Route.Fibers.length c1] x.Route.Fibers := by
  obtain ⟨p0, q0, rfl, g0, k0⟩ := h
  obtain rfl := g0
  obtain ⟨p1, q1, rfl, g1, k1⟩ := k0
  obtain ⟨A1, c1, rfl, l1⟩ := Route_cells g1
  obtain rfl := Block_cells k1
  exact ⟨A1, c1, rfl, l1⟩
theorem Light_open {w : World} {S : Nat → Prop} {v : Value} {x : Light} (h : VR w S v x) : ∃ A1 c1, v = (.agg #[(.int .i64 x.Id), (.int .i64 x.Route.Start), (.slice A1 x.Route.Fibers.length c1), (.int .i64 x.Block.First), (.int .i64 x.Block.Count)]) ∧ lrep w S [.slice A1 x.Route.Fibers.length c1] x.Route.Fibers := by
  obtain ⟨cs, h, rfl⟩ := h
  obtain ⟨A1, c1, rfl, l1⟩ := Light_cells h
  exact ⟨A1, c1, rfl, l1⟩
theorem Light_mk {w : World} {S : Nat → Prop} {x : Light} {A1 : Option Addr} {m1 c1 : Nat} (l1 : lrep w S [.slice A1 m1 c1] x.Route.Fibers) : GoTy.rep w S [(.int .i64 x.Id), (.int .i64 x.Route.Start), (.slice A1 m1 c1), (.int .i64 x.Block.First), (.int .i64 x.Block.Count)] x := ⟨_, _, rfl, rfl, ⟨_, _, rfl, (Route_mk l1), Block_mk⟩⟩
theorem Light_mkv {w : World} {S : Nat → Prop} {x : Light} {A1 : Option Addr} {m1 c1 : Nat} (l1 : lrep w S [.slice A1 m1 c1] x.Route.Fibers) : VR w S (.agg #[(.int .i64 x.Id), (.int .i64 x.Route.Start), (.slice A1 m1 c1), (.int .i64 x.Block.First), (.int .i64 x.Block.Count)]) x := ⟨_, Light_mk l1, rfl⟩
theorem Light_ownmk {w : World} {x : Light} {A1 : Option Addr} {m1 c1 : Nat} {F1 : List Nat} (l1 : lown w F1 [.slice A1 m1 c1] x.Route.Fibers) : GoTy.own w F1 [(.int .i64 x.Id), (.int .i64 x.Route.Start), (.slice A1 m1 c1), (.int .i64 x.Block.First), (.int .i64 x.Block.Count)] x := ⟨_, _, [], F1, rfl, by simp, ⟨rfl, rfl⟩, ⟨_, _, F1, [], rfl, by simp, (Route_ownmk l1), (Block_ownmk)⟩⟩
theorem Light_own {w : World} {F : List Nat} {cs : List Value} {x : Light} (h : GoTy.own w F cs x) : ∃ A1 c1 F1, cs = [(.int .i64 x.Id), (.int .i64 x.Route.Start), (.slice A1 x.Route.Fibers.length c1), (.int .i64 x.Block.First), (.int .i64 x.Block.Count)] ∧ F1 = F ∧ lown w F1 [.slice A1 x.Route.Fibers.length c1] x.Route.Fibers := by
  obtain ⟨p0, q0, X0, Y0, rfl, rfl, g0, k0⟩ := h
  obtain ⟨rfl, rfl⟩ := g0
  obtain ⟨p1, q1, X1, Y1, rfl, rfl, g1, k1⟩ := k0
  obtain ⟨A1, c1, F1, rfl, rfl, l1⟩ := Route_own g1
  obtain rfl := Block_cells (GoTy.own_rep k1)
  obtain rfl := Block_ownF k1
  exact ⟨A1, c1, _, rfl, by simp, l1⟩
theorem Light_vo {w : World} {F : List Nat} {v : Value} {x : Light} (h : VO w F v x) : ∃ A1 c1 F1, v = (.agg #[(.int .i64 x.Id), (.int .i64 x.Route.Start), (.slice A1 x.Route.Fibers.length c1), (.int .i64 x.Block.First), (.int .i64 x.Block.Count)]) ∧ F1 = F ∧ lown w F1 [.slice A1 x.Route.Fibers.length c1] x.Route.Fibers := by
  obtain ⟨cs, h, rfl⟩ := h
  obtain ⟨A1, c1, F1, rfl, rfl, l1⟩ := Light_own h
  exact ⟨_, _, _, rfl, rfl, l1⟩
instance : GoTy Plan := GoTy.via (α := (Network) × (List Light)) (fun x => (x.Network, x.Lights))
theorem Plan_cells {w : World} {S : Nat → Prop} {cs : List Value} {x : Plan} (h : GoTy.rep w S cs x) : ∃ A1 c1, ∃ A2 c2, ∃ A3 c3, cs = [(.slice A1 x.Network.Nodes.length c1), (.slice A2 x.Network.Fibers.length c2), (.slice A3 x.Lights.length c3)] ∧ lrep w S [.slice A1 x.Network.Nodes.length c1] x.Network.Nodes ∧ lrep w S [.slice A2 x.Network.Fibers.length c2] x.Network.Fibers ∧ lrep w S [.slice A3 x.Lights.length c3] x.Lights := by
  obtain ⟨p0, q0, rfl, g0, k0⟩ := h
  obtain ⟨A1, c1, A2, c2, rfl, l1, l2⟩ := Network_cells g0
  obtain ⟨A3, c3, rfl, l3⟩ := list_cells k0
  exact ⟨A1, c1, A2, c2, A3, c3, rfl, l1, l2, l3⟩
theorem Plan_open {w : World} {S : Nat → Prop} {v : Value} {x : Plan} (h : VR w S v x) : ∃ A1 c1, ∃ A2 c2, ∃ A3 c3, v = (.agg #[(.slice A1 x.Network.Nodes.length c1), (.slice A2 x.Network.Fibers.length c2), (.slice A3 x.Lights.length c3)]) ∧ lrep w S [.slice A1 x.Network.Nodes.length c1] x.Network.Nodes ∧ lrep w S [.slice A2 x.Network.Fibers.length c2] x.Network.Fibers ∧ lrep w S [.slice A3 x.Lights.length c3] x.Lights := by
  obtain ⟨cs, h, rfl⟩ := h
  obtain ⟨A1, c1, A2, c2, A3, c3, rfl, l1, l2, l3⟩ := Plan_cells h
  exact ⟨A1, c1, A2, c2, A3, c3, rfl, l1, l2, l3⟩
theorem Plan_mk {w : World} {S : Nat → Prop} {x : Plan} {A1 : Option Addr} {m1 c1 : Nat} (l1 : lrep w S [.slice A1 m1 c1] x.Network.Nodes) {A2 : Option Addr} {m2 c2 : Nat} (l2 : lrep w S [.slice A2 m2 c2] x.Network.Fibers) {A3 : Option Addr} {m3 c3 : Nat} (l3 : lrep w S [.slice A3 m3 c3] x.Lights) : GoTy.rep w S [(.slice A1 m1 c1), (.slice A2 m2 c2), (.slice A3 m3 c3)] x := ⟨_, _, rfl, (Network_mk l1 l2), l3⟩
theorem Plan_mkv {w : World} {S : Nat → Prop} {x : Plan} {A1 : Option Addr} {m1 c1 : Nat} (l1 : lrep w S [.slice A1 m1 c1] x.Network.Nodes) {A2 : Option Addr} {m2 c2 : Nat} (l2 : lrep w S [.slice A2 m2 c2] x.Network.Fibers) {A3 : Option Addr} {m3 c3 : Nat} (l3 : lrep w S [.slice A3 m3 c3] x.Lights) : VR w S (.agg #[(.slice A1 m1 c1), (.slice A2 m2 c2), (.slice A3 m3 c3)]) x := ⟨_, Plan_mk l1 l2 l3, rfl⟩
theorem Plan_ownmk {w : World} {x : Plan} {A1 : Option Addr} {m1 c1 : Nat} {F1 : List Nat} (l1 : lown w F1 [.slice A1 m1 c1] x.Network.Nodes) {A2 : Option Addr} {m2 c2 : Nat} {F2 : List Nat} (l2 : lown w F2 [.slice A2 m2 c2] x.Network.Fibers) {A3 : Option Addr} {m3 c3 : Nat} {F3 : List Nat} (l3 : lown w F3 [.slice A3 m3 c3] x.Lights) : GoTy.own w (F1 ++ (F2 ++ F3)) [(.slice A1 m1 c1), (.slice A2 m2 c2), (.slice A3 m3 c3)] x := ⟨_, _, (F1 ++ F2), F3, rfl, by simp, (Network_ownmk l1 l2), l3⟩
theorem Plan_own {w : World} {F : List Nat} {cs : List Value} {x : Plan} (h : GoTy.own w F cs x) : ∃ A1 c1 F1, ∃ A2 c2 F2, ∃ A3 c3 F3, cs = [(.slice A1 x.Network.Nodes.length c1), (.slice A2 x.Network.Fibers.length c2), (.slice A3 x.Lights.length c3)] ∧ F1 ++ (F2 ++ (F3)) = F ∧ lown w F1 [.slice A1 x.Network.Nodes.length c1] x.Network.Nodes ∧ lown w F2 [.slice A2 x.Network.Fibers.length c2] x.Network.Fibers ∧ lown w F3 [.slice A3 x.Lights.length c3] x.Lights := by
  obtain ⟨p0, q0, X0, Y0, rfl, rfl, g0, k0⟩ := h
  obtain ⟨A1, c1, F1, A2, c2, F2, rfl, rfl, l1, l2⟩ := Network_own g0
  obtain ⟨A3, c3, rfl, l3⟩ := own_list k0
  exact ⟨A1, c1, _, A2, c2, _, A3, c3, _, rfl, by simp, l1, l2, l3⟩
theorem Plan_vo {w : World} {F : List Nat} {v : Value} {x : Plan} (h : VO w F v x) : ∃ A1 c1 F1, ∃ A2 c2 F2, ∃ A3 c3 F3, v = (.agg #[(.slice A1 x.Network.Nodes.length c1), (.slice A2 x.Network.Fibers.length c2), (.slice A3 x.Lights.length c3)]) ∧ F1 ++ (F2 ++ (F3)) = F ∧ lown w F1 [.slice A1 x.Network.Nodes.length c1] x.Network.Nodes ∧ lown w F2 [.slice A2 x.Network.Fibers.length c2] x.Network.Fibers ∧ lown w F3 [.slice A3 x.Lights.length c3] x.Lights := by
  obtain ⟨cs, h, rfl⟩ := h
  obtain ⟨A1, c1, F1, A2, c2, F2, A3, c3, F3, rfl, rfl, l1, l2, l3⟩ := Plan_own h
  exact ⟨_, _, _, _, _, _, _, _, _, rfl, rfl, l1, l2, l3⟩
theorem Lens.via {N α β : Type} [GoTy α] [GoTy β] {f : N → α} {q : Nat} {get : α → β} {put : α → β → α} (h : Lens α β q get put) (g : N → β) (p : N → β → N) (hg : ∀ e, g e = get (f e)) (hp : ∀ e y, f (p e y) = put (f e) y) : @Lens N β (GoTy.via f) _ q g p := by
  refine @Lens.mk N β (GoTy.via f) _ q g p ?_
  intro w F cs e ho
  obtain ⟨Fa, F1, Fc, c, hF, hc, h1, h2⟩ := h.at_ (e := f e) ho
  refine ⟨Fa, F1, Fc, c, hF, hc, by rw [hg]; exact h1, fun w1 F2 y a b d => ?_⟩
  have := h2 w1 F2 y a b d
  rw [← hp] at this; exact this
namespace TF
theorem ai3 : AI Tryz.prog 3 1 (.int .i64 0) 8 := by unfold AI; kernel_rfl
theorem ai63 : AI Tryz.prog 63 4 (.agg #[(.int .i64 0), (.int .i64 0), (.int .i64 0), (.int .i64 0)]) 32 := by unfold AI; kernel_rfl
theorem ai80 : AI Tryz.prog 80 5 (.agg #[(.int .i64 0), (.int .i64 0), (.slice none 0 0), (.int .i64 0), (.int .i64 0)]) 56 := by unfold AI; kernel_rfl
theorem ai9 : AI Tryz.prog 9 1 (.string ByteArray.empty) 16 := by unfold AI; kernel_rfl
theorem cl10 : CL Tryz.prog 10 := fun _ _ => by kernel_rfl
theorem cl102 : CL Tryz.prog 102 := fun _ _ => by kernel_rfl
theorem cl106 : CL Tryz.prog 106 := fun _ _ => by kernel_rfl
theorem cl107 : CL Tryz.prog 107 := fun _ _ => by kernel_rfl
theorem cl108 : CL Tryz.prog 108 := fun _ _ => by kernel_rfl
theorem cl11 : CL Tryz.prog 11 := fun _ _ => by kernel_rfl
theorem cl111 : CL Tryz.prog 111 := fun _ _ => by kernel_rfl
theorem cl112 : CL Tryz.prog 112 := fun _ _ => by kernel_rfl
theorem cl113 : CL Tryz.prog 113 := fun _ _ => by kernel_rfl
theorem cl115 : CL Tryz.prog 115 := fun _ _ => by kernel_rfl
theorem cl116 : CL Tryz.prog 116 := fun _ _ => by kernel_rfl
theorem cl117 : CL Tryz.prog 117 := fun _ _ => by kernel_rfl
theorem cl118 : CL Tryz.prog 118 := fun _ _ => by kernel_rfl
theorem cl119 : CL Tryz.prog 119 := fun _ _ => by kernel_rfl
theorem cl12 : CL Tryz.prog 12 := fun _ _ => by kernel_rfl
theorem cl120 : CL Tryz.prog 120 := fun _ _ => by kernel_rfl
theorem cl121 : CL Tryz.prog 121 := fun _ _ => by kernel_rfl
theorem cl122 : CL Tryz.prog 122 := fun _ _ => by kernel_rfl
theorem cl123 : CL Tryz.prog 123 := fun _ _ => by kernel_rfl
theorem cl124 : CL Tryz.prog 124 := fun _ _ => by kernel_rfl
theorem cl125 : CL Tryz.prog 125 := fun _ _ => by kernel_rfl
theorem cl126 : CL Tryz.prog 126 := fun _ _ => by kernel_rfl
theorem cl127 : CL Tryz.prog 127 := fun _ _ => by kernel_rfl
theorem cl128 : CL Tryz.prog 128 := fun _ _ => by kernel_rfl
theorem cl129 : CL Tryz.prog 129 := fun _ _ => by kernel_rfl
theorem cl13 : CL Tryz.prog 13 := fun _ _ => by kernel_rfl
theorem cl139 : CL Tryz.prog 139 := fun _ _ => by kernel_rfl
theorem cl14 : CL Tryz.prog 14 := fun _ _ => by kernel_rfl
theorem cl149 : CL Tryz.prog 149 := fun _ _ => by kernel_rfl
theorem cl15 : CL Tryz.prog 15 := fun _ _ => by kernel_rfl
theorem cl150 : CL Tryz.prog 150 := fun _ _ => by kernel_rfl
theorem cl151 : CL Tryz.prog 151 := fun _ _ => by kernel_rfl
theorem cl152 : CL Tryz.prog 152 := fun _ _ => by kernel_rfl
theorem cl153 : CL Tryz.prog 153 := fun _ _ => by kernel_rfl
theorem cl16 : CL Tryz.prog 16 := fun _ _ => by kernel_rfl
theorem cl167 : CL Tryz.prog 167 := fun _ _ => by kernel_rfl
theorem cl17 : CL Tryz.prog 17 := fun _ _ => by kernel_rfl
theorem cl18 : CL Tryz.prog 18 := fun _ _ => by kernel_rfl
theorem cl19 : CL Tryz.prog 19 := fun _ _ => by kernel_rfl
theorem cl20 : CL Tryz.prog 20 := fun _ _ => by kernel_rfl
theorem cl21 : CL Tryz.prog 21 := fun _ _ => by kernel_rfl
theorem cl22 : CL Tryz.prog 22 := fun _ _ => by kernel_rfl
theorem cl23 : CL Tryz.prog 23 := fun _ _ => by kernel_rfl
theorem cl24 : CL Tryz.prog 24 := fun _ _ => by kernel_rfl
theorem cl25 : CL Tryz.prog 25 := fun _ _ => by kernel_rfl
theorem cl26 : CL Tryz.prog 26 := fun _ _ => by kernel_rfl
theorem cl27 : CL Tryz.prog 27 := fun _ _ => by kernel_rfl
theorem cl28 : CL Tryz.prog 28 := fun _ _ => by kernel_rfl
theorem cl29 : CL Tryz.prog 29 := fun _ _ => by kernel_rfl
theorem cl30 : CL Tryz.prog 30 := fun _ _ => by kernel_rfl
theorem cl31 : CL Tryz.prog 31 := fun _ _ => by kernel_rfl
theorem cl32 : CL Tryz.prog 32 := fun _ _ => by kernel_rfl
theorem cl33 : CL Tryz.prog 33 := fun _ _ => by kernel_rfl
theorem cl34 : CL Tryz.prog 34 := fun _ _ => by kernel_rfl
theorem cl35 : CL Tryz.prog 35 := fun _ _ => by kernel_rfl
theorem cl36 : CL Tryz.prog 36 := fun _ _ => by kernel_rfl
theorem cl37 : CL Tryz.prog 37 := fun _ _ => by kernel_rfl
theorem cl38 : CL Tryz.prog 38 := fun _ _ => by kernel_rfl
theorem cl39 : CL Tryz.prog 39 := fun _ _ => by kernel_rfl
theorem cl4 : CL Tryz.prog 4 := fun _ _ => by kernel_rfl
theorem cl40 : CL Tryz.prog 40 := fun _ _ => by kernel_rfl
theorem cl41 : CL Tryz.prog 41 := fun _ _ => by kernel_rfl
theorem cl42 : CL Tryz.prog 42 := fun _ _ => by kernel_rfl
theorem cl43 : CL Tryz.prog 43 := fun _ _ => by kernel_rfl
theorem cl44 : CL Tryz.prog 44 := fun _ _ => by kernel_rfl
theorem cl45 : CL Tryz.prog 45 := fun _ _ => by kernel_rfl
theorem cl46 : CL Tryz.prog 46 := fun _ _ => by kernel_rfl
theorem cl47 : CL Tryz.prog 47 := fun _ _ => by kernel_rfl
theorem cl48 : CL Tryz.prog 48 := fun _ _ => by kernel_rfl
theorem cl49 : CL Tryz.prog 49 := fun _ _ => by kernel_rfl
theorem cl5 : CL Tryz.prog 5 := fun _ _ => by kernel_rfl
theorem cl50 : CL Tryz.prog 50 := fun _ _ => by kernel_rfl
theorem cl51 : CL Tryz.prog 51 := fun _ _ => by kernel_rfl
theorem cl52 : CL Tryz.prog 52 := fun _ _ => by kernel_rfl
theorem cl53 : CL Tryz.prog 53 := fun _ _ => by kernel_rfl
theorem cl54 : CL Tryz.prog 54 := fun _ _ => by kernel_rfl
theorem cl55 : CL Tryz.prog 55 := fun _ _ => by kernel_rfl
theorem cl56 : CL Tryz.prog 56 := fun _ _ => by kernel_rfl
theorem cl57 : CL Tryz.prog 57 := fun _ _ => by kernel_rfl
theorem cl58 : CL Tryz.prog 58 := fun _ _ => by kernel_rfl
theorem cl6 : CL Tryz.prog 6 := fun _ _ => by kernel_rfl
theorem cl63 : CL Tryz.prog 63 := fun _ _ => by kernel_rfl
theorem cl65 : CL Tryz.prog 65 := fun _ _ => by kernel_rfl
theorem cl66 : CL Tryz.prog 66 := fun _ _ => by kernel_rfl
theorem cl67 : CL Tryz.prog 67 := fun _ _ => by kernel_rfl
theorem cl68 : CL Tryz.prog 68 := fun _ _ => by kernel_rfl
theorem cl69 : CL Tryz.prog 69 := fun _ _ => by kernel_rfl
theorem cl7 : CL Tryz.prog 7 := fun _ _ => by kernel_rfl
theorem cl70 : CL Tryz.prog 70 := fun _ _ => by kernel_rfl
theorem cl71 : CL Tryz.prog 71 := fun _ _ => by kernel_rfl
theorem cl74 : CL Tryz.prog 74 := fun _ _ => by kernel_rfl
theorem cl75 : CL Tryz.prog 75 := fun _ _ => by kernel_rfl
theorem cl76 : CL Tryz.prog 76 := fun _ _ => by kernel_rfl
theorem cl78 : CL Tryz.prog 78 := fun _ _ => by kernel_rfl
theorem cl79 : CL Tryz.prog 79 := fun _ _ => by kernel_rfl
theorem cl8 : CL Tryz.prog 8 := fun _ _ => by kernel_rfl
theorem cl80 : CL Tryz.prog 80 := fun _ _ => by kernel_rfl
theorem cl81 : CL Tryz.prog 81 := fun _ _ => by kernel_rfl
theorem cl82 : CL Tryz.prog 82 := fun _ _ => by kernel_rfl
theorem cl83 : CL Tryz.prog 83 := fun _ _ => by kernel_rfl
theorem cl84 : CL Tryz.prog 84 := fun _ _ => by kernel_rfl
theorem cl85 : CL Tryz.prog 85 := fun _ _ => by kernel_rfl
theorem cl86 : CL Tryz.prog 86 := fun _ _ => by kernel_rfl
theorem cl87 : CL Tryz.prog 87 := fun _ _ => by kernel_rfl
theorem cl88 : CL Tryz.prog 88 := fun _ _ => by kernel_rfl
theorem cl89 : CL Tryz.prog 89 := fun _ _ => by kernel_rfl
theorem cl9 : CL Tryz.prog 9 := fun _ _ => by kernel_rfl
theorem cl90 : CL Tryz.prog 90 := fun _ _ => by kernel_rfl
theorem cl91 : CL Tryz.prog 91 := fun _ _ => by kernel_rfl
theorem cl92 : CL Tryz.prog 92 := fun _ _ => by kernel_rfl
theorem cl93 : CL Tryz.prog 93 := fun _ _ => by kernel_rfl
theorem cl94 : CL Tryz.prog 94 := fun _ _ => by kernel_rfl
theorem cl95 : CL Tryz.prog 95 := fun _ _ => by kernel_rfl
theorem cl96 : CL Tryz.prog 96 := fun _ _ => by kernel_rfl
theorem cl97 : CL Tryz.prog 97 := fun _ _ => by kernel_rfl
theorem cl98 : CL Tryz.prog 98 := fun _ _ => by kernel_rfl
theorem la27 : LA Tryz.prog 27 2 := fun _ _ => by kernel_rfl
theorem la30 : LA Tryz.prog 30 2 := fun _ _ => by kernel_rfl
theorem la45 : LA Tryz.prog 45 2 := fun _ _ => by kernel_rfl
theorem la53 : LA Tryz.prog 53 3 := fun _ _ => by kernel_rfl
theorem la63 : LA Tryz.prog 63 4 := fun _ _ => by kernel_rfl
theorem la80 : LA Tryz.prog 80 5 := fun _ _ => by kernel_rfl
theorem ls22 : LS Tryz.prog 22 := fun _ _ => by kernel_rfl
theorem ls24 : LS Tryz.prog 24 := fun _ _ => by kernel_rfl
theorem ls25 : LS Tryz.prog 25 := fun _ _ => by kernel_rfl
theorem ls28 : LS Tryz.prog 28 := fun _ _ => by kernel_rfl
theorem ls3 : LS Tryz.prog 3 := fun _ _ => by kernel_rfl
theorem ls5 : LS Tryz.prog 5 := fun _ _ => by kernel_rfl
theorem ls51 : LS Tryz.prog 51 := fun _ _ => by kernel_rfl
theorem ls85 : LS Tryz.prog 85 := fun _ _ => by kernel_rfl
theorem ls9 : LS Tryz.prog 9 := fun _ _ => by kernel_rfl
theorem pt3 : PT Tryz.prog 3 := fun _ => ⟨by kernel_rfl, by kernel_rfl⟩
theorem qeqt45 : EQT Tryz.prog 45 2 3 := ⟨by kernel_rfl, by kernel_rfl, by kernel_rfl, by kernel_rfl, by kernel_rfl, pt3, ⟨_, Tryz.underlying3⟩⟩
theorem qeqt63 : EQT Tryz.prog 63 4 3 := ⟨by kernel_rfl, by kernel_rfl, by kernel_rfl, by kernel_rfl, by kernel_rfl, pt3, ⟨_, Tryz.underlying3⟩⟩
theorem sz24 : SZ Tryz.prog 24 1 := fun _ => by kernel_rfl
theorem sz25 : SZ Tryz.prog 25 1 := fun _ => by kernel_rfl
theorem sz27 : SZ Tryz.prog 27 2 := fun _ => by kernel_rfl
theorem sz28 : SZ Tryz.prog 28 1 := fun _ => by kernel_rfl
theorem sz3 : SZ Tryz.prog 3 1 := fun _ => by kernel_rfl
theorem sz30 : SZ Tryz.prog 30 2 := fun _ => by kernel_rfl
theorem sz45 : SZ Tryz.prog 45 2 := fun _ => by kernel_rfl
theorem sz5 : SZ Tryz.prog 5 1 := fun _ => by kernel_rfl
theorem sz51 : SZ Tryz.prog 51 1 := fun _ => by kernel_rfl
theorem sz53 : SZ Tryz.prog 53 3 := fun _ => by kernel_rfl
theorem sz63 : SZ Tryz.prog 63 4 := fun _ => by kernel_rfl
theorem sz80 : SZ Tryz.prog 80 5 := fun _ => by kernel_rfl
theorem sz85 : SZ Tryz.prog 85 1 := fun _ => by kernel_rfl
theorem sz9 : SZ Tryz.prog 9 1 := fun _ => by kernel_rfl
theorem zv27 : ZV Tryz.prog 27 (.agg #[(.slice none 0 0), (.slice none 0 0)]) := fun _ => by kernel_rfl
theorem zv30 : ZV Tryz.prog 30 (.agg #[(.int .i64 0), (.slice none 0 0)]) := fun _ => by kernel_rfl
theorem zv45 : ZV Tryz.prog 45 (.agg #[(.int .i64 0), (.int .i64 0)]) := fun _ => by kernel_rfl
theorem zv53 : ZV Tryz.prog 53 (.agg #[(.slice none 0 0), (.slice none 0 0), (.slice none 0 0)]) := fun _ => by kernel_rfl
theorem zv63 : ZV Tryz.prog 63 (.agg #[(.int .i64 0), (.int .i64 0), (.int .i64 0), (.int .i64 0)]) := fun _ => by kernel_rfl
theorem zv80 : ZV Tryz.prog 80 (.agg #[(.int .i64 0), (.int .i64 0), (.slice none 0 0), (.int .i64 0), (.int .i64 0)]) := fun _ => by kernel_rfl
end TF
def tab : Tab := ⟨[22, 24, 25, 28, 51], [4], [9], [(27, 0, 0), (27, 1, 1), (30, 0, 0), (30, 1, 1), (45, 0, 0), (45, 1, 1), (53, 0, 0), (53, 1, 2), (63, 0, 0), (63, 1, 1), (63, 2, 2), (63, 3, 3), (80, 0, 0), (80, 1, 1), (80, 2, 3), (87, 0, 0), (87, 1, 1), (87, 2, 2)]⟩
theorem inl_mem : ∀ {l : List Nat} {x : Nat}, inl l x = true → x ∈ l
  | y :: r, x, h => by
    unfold inl at h
    cases hb : Nat.beq y x <;> rw [hb] at h
    · exact List.mem_cons_of_mem _ (inl_mem h)
    · rw [Nat.eq_of_beq_eq_true hb]; exact List.mem_cons_self
theorem foff_mem : ∀ {l : List (TypeId × Nat × Nat)} {t f o : Nat}, foff l t f = some o → (t, f, o) ∈ l
  | (t', f', o') :: r, t, f, o, h => by
    unfold foff at h
    cases hb : (Nat.beq t' t && Nat.beq f' f) <;> rw [hb] at h
    · exact List.mem_cons_of_mem _ (foff_mem h)
    · simp only [Bool.and_eq_true] at hb
      injection h with h
      rw [Nat.eq_of_beq_eq_true hb.1, Nat.eq_of_beq_eq_true hb.2, h]; exact List.mem_cons_self
theorem tabOk : TabOk Tryz.prog tab where
  sl := fun T h => by
    have h := inl_mem h
    simp only [tab, List.mem_cons, List.not_mem_nil, or_false] at h
    rcases h with rfl | rfl | rfl | rfl | rfl
    · exact ⟨_, Tryz.underlying22⟩
    · exact ⟨_, Tryz.underlying24⟩
    · exact ⟨_, Tryz.underlying25⟩
    · exact ⟨_, Tryz.underlying28⟩
    · exact ⟨_, Tryz.underlying51⟩
  bo := fun T h => by
    have h := inl_mem h
    simp only [tab, List.mem_cons, List.not_mem_nil, or_false] at h
    rcases h with rfl
    · exact Tryz.underlying4
  st := fun T h => by
    have h := inl_mem h
    simp only [tab, List.mem_cons, List.not_mem_nil, or_false] at h
    rcases h with rfl
    · exact Tryz.underlying9
  fa := fun T f o h => by
    have h := foff_mem h
    simp only [tab, List.mem_cons, List.not_mem_nil, or_false, Prod.mk.injEq] at h
    rcases h with ⟨rfl, rfl, rfl⟩ | ⟨rfl, rfl, rfl⟩ | ⟨rfl, rfl, rfl⟩ | ⟨rfl, rfl, rfl⟩ | ⟨rfl, rfl, rfl⟩ | ⟨rfl, rfl, rfl⟩ | ⟨rfl, rfl, rfl⟩ | ⟨rfl, rfl, rfl⟩ | ⟨rfl, rfl, rfl⟩ | ⟨rfl, rfl, rfl⟩ | ⟨rfl, rfl, rfl⟩ | ⟨rfl, rfl, rfl⟩ | ⟨rfl, rfl, rfl⟩ | ⟨rfl, rfl, rfl⟩ | ⟨rfl, rfl, rfl⟩ | ⟨rfl, rfl, rfl⟩ | ⟨rfl, rfl, rfl⟩ | ⟨rfl, rfl, rfl⟩
    · exact fun _ _ => by kernel_rfl
    · exact fun _ _ => by kernel_rfl
    · exact fun _ _ => by kernel_rfl
    · exact fun _ _ => by kernel_rfl
    · exact fun _ _ => by kernel_rfl
    · exact fun _ _ => by kernel_rfl
    · exact fun _ _ => by kernel_rfl
    · exact fun _ _ => by kernel_rfl
    · exact fun _ _ => by kernel_rfl
    · exact fun _ _ => by kernel_rfl
    · exact fun _ _ => by kernel_rfl
    · exact fun _ _ => by kernel_rfl
    · exact fun _ _ => by kernel_rfl
    · exact fun _ _ => by kernel_rfl
    · exact fun _ _ => by kernel_rfl
    · exact fun _ _ => by kernel_rfl
    · exact fun _ _ => by kernel_rfl
    · exact fun _ _ => by kernel_rfl
section
variable {Q : Exit → Act → World → Prop} {w : World} {n : Nat}
theorem pr {ops : List Oper} (k : Nat) {L : List (Nat × Value)} {l : List Oper} {L' : List (Nat × Value)} {l' : List Oper} {a : Act} (hf : Fr a n L) (hd : dstOk n l = true) (h : pRun tab ops k L l = (L', l')) (hk : ∀ a', Fr a' n L' → wpList Tryz.prog ops.toArray Q l' a' w) : wpList Tryz.prog ops.toArray Q l a w := pRun_ok tabOk k L l hf hd h hk
variable {S0 : World → Prop} {B : List Nat} {bs : List Bool} {a : Act} {fuel d : Nat} {L : List (Nat × Value)} {Mid : Act → World → Prop} {op : Op} {v : Value} {l : List Oper} {t : TypeId} {ps : String} {af : Array Edge}
theorem tp (i : Nat) (hi : l[i]? = some ⟨some d, op, t, ps, af, none⟩) (hdn : Nat.ble (d + 1) n = true) (hf : Fr a n L) (hc : takeB l bs i [] B = true) (hS : nb B bs.toArray = true → S0 w) (hv : pOp tab L op = some v) (h : ∀ a', Fr a' n ((d, v) :: L) → DL Tryz.prog l Mid S0 B fuel (bs.set i true) a' w) : DL Tryz.prog l Mid S0 B (fuel + 1) bs a w := tP i hi rfl rfl hdn hf hc hS (fun _ => pOp_ok tabOk hf hv) h
theorem tpg (i : Nat) {j e : Nat} {b : Bool} (hi : l[i]? = some ⟨some d, op, t, ps, af, some (j, b)⟩) (hj : (l[j]?).bind (·.dst) = some e) (hb : lk L e = some (.bool b)) (hdn : Nat.ble (d + 1) n = true) (hf : Fr a n L) (hc : takeB l bs i [] B = true) (hS : nb B bs.toArray = true → S0 w) (hv : pOp tab L op = some v) (h : ∀ a', Fr a' n ((d, v) :: L) → DL Tryz.prog l Mid S0 B fuel (bs.set i true) a' w) : DL Tryz.prog l Mid S0 B (fuel + 1) bs a w := tPg i hi rfl rfl hj hb hdn hf hc hS (fun _ => pOp_ok tabOk hf hv) h
end
end AT
