/- The types and closed facts on the program, by program (gen.py). -/
import Derived.Test.YtmokfdffnijbbaaGreatAtBP
import Derived.Test.YtmokfdffnijbbaaGreatF
import Derived.Test.YtmokfdffnijbbaaGreatRows
set_option linter.unusedVariables false
set_option maxRecDepth 100000
namespace AT
open Go Go.RowKit Go.Proofs
instance : GoTy Fiber := GoTy.via (α := (Int) × (Int) × (Int) × (Int)) (fun x => (x.A, x.B, x.Length, x.Risk))
theorem Fiber_cells {w : World} {S : Nat → Prop} {cs : List Value} {x : Fiber} (h : GoTy.rep w S cs x) : cs = [(.int .i64 x.A), (.int .i64 x.B), (.int .i64 x.Length), (.int .i64 x.Risk)] := by
  obtain ⟨p0, q0, rfl, g0, k0⟩ := h
  obtain rfl := g0
  obtain ⟨p1, q1, rfl, g1, k1⟩ := k0
  obtain rfl := g1
  obtain ⟨p2, q2, rfl, g2, k2⟩ := k1
  obtain rfl := g2
  obtain rfl := k2
  exact rfl
theorem Fiber_open {w : World} {S : Nat → Prop} {v : Value} {x : Fiber} (h : VR w S v x) : v = (.agg #[(.int .i64 x.A), (.int .i64 x.B), (.int .i64 x.Length), (.int .i64 x.Risk)]) := by
  obtain ⟨cs, h, rfl⟩ := h
  obtain rfl := Fiber_cells h
  exact rfl
theorem Fiber_mk {w : World} {S : Nat → Prop} {x : Fiber} : GoTy.rep w S [(.int .i64 x.A), (.int .i64 x.B), (.int .i64 x.Length), (.int .i64 x.Risk)] x := ⟨_, _, rfl, rfl, ⟨_, _, rfl, rfl, ⟨_, _, rfl, rfl, rfl⟩⟩⟩
theorem Fiber_mkv {w : World} {S : Nat → Prop} {x : Fiber} : VR w S (.agg #[(.int .i64 x.A), (.int .i64 x.B), (.int .i64 x.Length), (.int .i64 x.Risk)]) x := ⟨_, Fiber_mk, rfl⟩
instance : GoTy Network := GoTy.via (α := (List ByteArray) × (List Fiber)) (fun x => (x.Nodes, x.Fibers))
theorem Network_cells {w : World} {S : Nat → Prop} {cs : List Value} {x : Network} (h : GoTy.rep w S cs x) : ∃ A1 c1, ∃ A2 c2, cs = [(.slice A1 x.Nodes.length c1), (.slice A2 x.Fibers.length c2)] ∧ lrep w S [.slice A1 x.Nodes.length c1] x.Nodes ∧ lrep w S [.slice A2 x.Fibers.length c2] x.Fibers := by
  obtain ⟨p0, q0, rfl, g0, k0⟩ := h
  obtain ⟨A1, c1, rfl, l1⟩ := list_cells g0
  obtain ⟨A2, c2, rfl, l2⟩ := list_cells k0
  exact ⟨A1, c1, A2, c2, rfl, l1, l2⟩
theorem Network_open {w : World} {S : Nat → Prop} {v : Value} {x : Network} (h : VR w S v x) : ∃ A1 c1, ∃ A2 c2, v = (.agg #[(.slice A1 x.Nodes.length c1), (.slice A2 x.Fibers.length c2)]) ∧ lrep w S [.slice A1 x.Nodes.length c1] x.Nodes ∧ lrep w S [.slice A2 x.Fibers.length c2] x.Fibers := by
  obtain ⟨cs, h, rfl⟩ := h
  obtain ⟨A1, c1, A2, c2, rfl, l1, l2⟩ := Network_cells h
  exact ⟨A1, c1, A2, c2, rfl, l1, l2⟩
theorem Network_mk {w : World} {S : Nat → Prop} {x : Network} {A1 : Option Addr} {m1 c1 : Nat} (l1 : lrep w S [.slice A1 m1 c1] x.Nodes) {A2 : Option Addr} {m2 c2 : Nat} (l2 : lrep w S [.slice A2 m2 c2] x.Fibers) : GoTy.rep w S [(.slice A1 m1 c1), (.slice A2 m2 c2)] x := ⟨_, _, rfl, l1, l2⟩
theorem Network_mkv {w : World} {S : Nat → Prop} {x : Network} {A1 : Option Addr} {m1 c1 : Nat} (l1 : lrep w S [.slice A1 m1 c1] x.Nodes) {A2 : Option Addr} {m2 c2 : Nat} (l2 : lrep w S [.slice A2 m2 c2] x.Fibers) : VR w S (.agg #[(.slice A1 m1 c1), (.slice A2 m2 c2)]) x := ⟨_, Network_mk l1 l2, rfl⟩
theorem Network_ownmk {w : World} {x : Network} {A1 : Option Addr} {m1 c1 : Nat} {F1 : List Nat} (l1 : lown w F1 [.slice A1 m1 c1] x.Nodes) {A2 : Option Addr} {m2 c2 : Nat} {F2 : List Nat} (l2 : lown w F2 [.slice A2 m2 c2] x.Fibers) : GoTy.own w (F1 ++ F2) [(.slice A1 m1 c1), (.slice A2 m2 c2)] x := ⟨_, _, F1, F2, rfl, by simp, l1, l2⟩
theorem Network_own {w : World} {F : List Nat} {cs : List Value} {x : Network} (h : GoTy.own w F cs x) : ∃ A1 c1 F1, ∃ A2 c2 F2, cs = [(.slice A1 x.Nodes.length c1), (.slice A2 x.Fibers.length c2)] ∧ F1 ++ (F2) = F ∧ lown w F1 [.slice A1 x.Nodes.length c1] x.Nodes ∧ lown w F2 [.slice A2 x.Fibers.length c2] x.Fibers := by
  obtain ⟨p0, q0, X0, Y0, rfl, rfl, g0, k0⟩ := h
  obtain ⟨A1, c1, rfl, l1⟩ := own_list g0
  obtain ⟨A2, c2, rfl, l2⟩ := own_list k0
  exact ⟨A1, c1, _, A2, c2, _, rfl, by simp, l1, l2⟩
theorem Network_vo {w : World} {F : List Nat} {v : Value} {x : Network} (h : VO w F v x) : ∃ A1 c1 F1, ∃ A2 c2 F2, v = (.agg #[(.slice A1 x.Nodes.length c1), (.slice A2 x.Fibers.length c2)]) ∧ F1 ++ (F2) = F ∧ lown w F1 [.slice A1 x.Nodes.length c1] x.Nodes ∧ lown w F2 [.slice A2 x.Fibers.length c2] x.Fibers := by
  obtain ⟨cs, h, rfl⟩ := h
  obtain ⟨A1, c1, F1, A2, c2, F2, rfl, rfl, l1, l2⟩ := Network_own h
  exact ⟨_, _, _, _, _, _, rfl, rfl, l1, l2⟩
instance : GoTy Route := GoTy.via (α := (Int) × (List Int)) (fun x => (x.Start, x.Fibers))
theorem Route_cells {w : World} {S : Nat → Prop} {cs : List Value} {x : Route} (h : GoTy.rep w S cs x) : ∃ A1 c1, cs = [(.int .i64 x.Start), (.slice A1 x.Fibers.length c1)] ∧ lrep w S [.slice A1 x.Fibers.length c1] x.Fibers := by
  obtain ⟨p0, q0, rfl, g0, k0⟩ := h
  obtain rfl := g0
  obtain ⟨A1, c1, rfl, l1⟩ := list_cells k0
  exact ⟨A1, c1, rfl, l1⟩
theorem Route_open {w : World} {S : Nat → Prop} {v : Value} {x : Route} (h : VR w S v x) : ∃ A1 c1, v = (.agg #[(.int .i64 x.Start), (.slice A1 x.Fibers.length c1)]) ∧ lrep w S [.slice A1 x.Fibers.length c1] x.Fibers := by
  obtain ⟨cs, h, rfl⟩ := h
  obtain ⟨A1, c1, rfl, l1⟩ := Route_cells h
  exact ⟨A1, c1, rfl, l1⟩
theorem Route_mk {w : World} {S : Nat → Prop} {x : Route} {A1 : Option Addr} {m1 c1 : Nat} (l1 : lrep w S [.slice A1 m1 c1] x.Fibers) : GoTy.rep w S [(.int .i64 x.Start), (.slice A1 m1 c1)] x := ⟨_, _, rfl, rfl, l1⟩
theorem Route_mkv {w : World} {S : Nat → Prop} {x : Route} {A1 : Option Addr} {m1 c1 : Nat} (l1 : lrep w S [.slice A1 m1 c1] x.Fibers) : VR w S (.agg #[(.int .i64 x.Start), (.slice A1 m1 c1)]) x := ⟨_, Route_mk l1, rfl⟩
theorem Route_ownmk {w : World} {x : Route} {A1 : Option Addr} {m1 c1 : Nat} {F1 : List Nat} (l1 : lown w F1 [.slice A1 m1 c1] x.Fibers) : GoTy.own w F1 [(.int .i64 x.Start), (.slice A1 m1 c1)] x := ⟨_, _, [], F1, rfl, by simp, ⟨rfl, rfl⟩, l1⟩
theorem Route_own {w : World} {F : List Nat} {cs : List Value} {x : Route} (h : GoTy.own w F cs x) : ∃ A1 c1 F1, cs = [(.int .i64 x.Start), (.slice A1 x.Fibers.length c1)] ∧ F1 = F ∧ lown w F1 [.slice A1 x.Fibers.length c1] x.Fibers := by
  obtain ⟨p0, q0, X0, Y0, rfl, rfl, g0, k0⟩ := h
  obtain ⟨rfl, rfl⟩ := g0
  obtain ⟨A1, c1, rfl, l1⟩ := own_list k0
  exact ⟨A1, c1, _, rfl, by simp, l1⟩
theorem Route_vo {w : World} {F : List Nat} {v : Value} {x : Route} (h : VO w F v x) : ∃ A1 c1 F1, v = (.agg #[(.int .i64 x.Start), (.slice A1 x.Fibers.length c1)]) ∧ F1 = F ∧ lown w F1 [.slice A1 x.Fibers.length c1] x.Fibers := by
  obtain ⟨cs, h, rfl⟩ := h
  obtain ⟨A1, c1, F1, rfl, rfl, l1⟩ := Route_own h
  exact ⟨_, _, _, rfl, rfl, l1⟩
instance : GoTy Block := GoTy.via (α := (Int) × (Int)) (fun x => (x.First, x.Count))
theorem Block_cells {w : World} {S : Nat → Prop} {cs : List Value} {x : Block} (h : GoTy.rep w S cs x) : cs = [(.int .i64 x.First), (.int .i64 x.Count)] := by
  obtain ⟨p0, q0, rfl, g0, k0⟩ := h
  obtain rfl := g0
  obtain rfl := k0
  exact rfl
theorem Block_open {w : World} {S : Nat → Prop} {v : Value} {x : Block} (h : VR w S v x) : v = (.agg #[(.int .i64 x.First), (.int .i64 x.Count)]) := by
  obtain ⟨cs, h, rfl⟩ := h
  obtain rfl := Block_cells h
  exact rfl
theorem Block_mk {w : World} {S : Nat → Prop} {x : Block} : GoTy.rep w S [(.int .i64 x.First), (.int .i64 x.Count)] x := ⟨_, _, rfl, rfl, rfl⟩
theorem Block_mkv {w : World} {S : Nat → Prop} {x : Block} : VR w S (.agg #[(.int .i64 x.First), (.int .i64 x.Count)]) x := ⟨_, Block_mk, rfl⟩
instance : GoTy Light := GoTy.via (α := (Int) × (Route) × (Block)) (fun x => (x.Id, x.Route, x.Block))
instance : GoTy Plan := GoTy.via (α := (Network) × (List Light)) (fun x => (x.Network, x.Lights))
instance : GoTy Request := GoTy.via (α := (Route) × (Int)) (fun x => (x.Route, x.Count))
theorem Request_cells {w : World} {S : Nat → Prop} {cs : List Value} {x : Request} (h : GoTy.rep w S cs x) : ∃ A1 c1, cs = [(.int .i64 x.Route.Start), (.slice A1 x.Route.Fibers.length c1), (.int .i64 x.Count)] ∧ lrep w S [.slice A1 x.Route.Fibers.length c1] x.Route.Fibers := by
  obtain ⟨p0, q0, rfl, g0, k0⟩ := h
  obtain ⟨A1, c1, rfl, l1⟩ := Route_cells g0
  obtain rfl := k0
  exact ⟨A1, c1, rfl, l1⟩
theorem Request_open {w : World} {S : Nat → Prop} {v : Value} {x : Request} (h : VR w S v x) : ∃ A1 c1, v = (.agg #[(.int .i64 x.Route.Start), (.slice A1 x.Route.Fibers.length c1), (.int .i64 x.Count)]) ∧ lrep w S [.slice A1 x.Route.Fibers.length c1] x.Route.Fibers := by
  obtain ⟨cs, h, rfl⟩ := h
  obtain ⟨A1, c1, rfl, l1⟩ := Request_cells h
  exact ⟨A1, c1, rfl, l1⟩
theorem Request_mk {w : World} {S : Nat → Prop} {x : Request} {A1 : Option Addr} {m1 c1 : Nat} (l1 : lrep w S [.slice A1 m1 c1] x.Route.Fibers) : GoTy.rep w S [(.int .i64 x.Route.Start), (.slice A1 m1 c1), (.int .i64 x.Count)] x := ⟨_, _, rfl, (Route_mk l1), rfl⟩
theorem Request_mkv {w : World} {S : Nat → Prop} {x : Request} {A1 : Option Addr} {m1 c1 : Nat} (l1 : lrep w S [.slice A1 m1 c1] x.Route.Fibers) : VR w S (.agg #[(.int .i64 x.Route.Start), (.slice A1 m1 c1), (.int .i64 x.Count)]) x := ⟨_, Request_mk l1, rfl⟩
instance : GoTy L1CurP := GoTy.via (α := (List By) × (Int) × (U64)) (fun x => (x.code, x.at_, x.seed))
theorem L1CurP_cells {w : World} {S : Nat → Prop} {cs : List Value} {x : L1CurP} (h : GoTy.rep w S cs x) : ∃ A1 c1, cs = [(.slice A1 x.code.length c1), (.int .i64 x.at_), (.int .u64 x.seed.n)] ∧ lrep w S [.slice A1 x.code.length c1] x.code := by
  obtain ⟨p0, q0, rfl, g0, k0⟩ := h
  obtain ⟨A1, c1, rfl, l1⟩ := list_cells g0
  obtain ⟨p1, q1, rfl, g1, k1⟩ := k0
  obtain rfl := g1
  obtain rfl := k1
  exact ⟨A1, c1, rfl, l1⟩
theorem L1CurP_mk {w : World} {S : Nat → Prop} {x : L1CurP} {A1 : Option Addr} {m1 c1 : Nat} (l1 : lrep w S [.slice A1 m1 c1] x.code) : GoTy.rep w S [(.slice A1 m1 c1), (.int .i64 x.at_), (.int .u64 x.seed.n)] x := ⟨_, _, rfl, l1, ⟨_, _, rfl, rfl, rfl⟩⟩
instance : GoTy Action := GoTy.via (α := (Int) × (Light)) (fun x => (x.Kind, x.Light))
instance : GoTy L20SearchP := GoTy.via (α := (List Action) × (List Bool)) (fun x => (x.list, x.failed))
theorem Lens.via {N α β : Type} [GoTy α] [GoTy β] {f : N → α} {q : Nat} {get : α → β} {put : α → β → α} (h : Lens α β q get put) (g : N → β) (p : N → β → N) (hg : ∀ e, g e = get (f e)) (hp : ∀ e y, f (p e y) = put (f e) y) : @Lens N β (GoTy.via f) _ q g p := by
  refine @Lens.mk N β (GoTy.via f) _ q g p ?_
  intro w F cs e ho
  obtain ⟨Fa, F1, Fc, c, hF, hc, h1, h2⟩ := h.at_ (e := f e) ho
  refine ⟨Fa, F1, Fc, c, hF, hc, by rw [hg]; exact h1, fun w1 F2 y a b d => ?_⟩
  have := h2 w1 F2 y a b d
  rw [← hp] at this; exact this
namespace TF
theorem ai180 : AI Tryz.prog 180 4 (.agg #[(.int .i64 0), (.int .i64 0), (.int .i64 0), (.int .i64 0)]) 32 := by unfold AI; kernel_rfl
theorem ai3 : AI Tryz.prog 3 1 (.int .i64 0) 8 := by unfold AI; kernel_rfl
theorem ai4 : AI Tryz.prog 4 1 (.bool false) 1 := by unfold AI; kernel_rfl
theorem ai61 : AI Tryz.prog 61 3 (.agg #[(.int .i64 0), (.slice none 0 0), (.int .i64 0)]) 40 := by unfold AI; kernel_rfl
theorem ai71 : AI Tryz.prog 71 2 (.agg #[(.int .i64 0), (.int .i64 0)]) 16 := by unfold AI; kernel_rfl
theorem cl113 : CL Tryz.prog 113 := fun _ _ => by kernel_rfl
theorem cl116 : CL Tryz.prog 116 := fun _ _ => by kernel_rfl
theorem cl117 : CL Tryz.prog 117 := fun _ _ => by kernel_rfl
theorem cl132 : CL Tryz.prog 132 := fun _ _ => by kernel_rfl
theorem cl133 : CL Tryz.prog 133 := fun _ _ => by kernel_rfl
theorem cl134 : CL Tryz.prog 134 := fun _ _ => by kernel_rfl
theorem cl135 : CL Tryz.prog 135 := fun _ _ => by kernel_rfl
theorem cl136 : CL Tryz.prog 136 := fun _ _ => by kernel_rfl
theorem cl137 : CL Tryz.prog 137 := fun _ _ => by kernel_rfl
theorem cl138 : CL Tryz.prog 138 := fun _ _ => by kernel_rfl
theorem cl139 : CL Tryz.prog 139 := fun _ _ => by kernel_rfl
theorem cl140 : CL Tryz.prog 140 := fun _ _ => by kernel_rfl
theorem cl141 : CL Tryz.prog 141 := fun _ _ => by kernel_rfl
theorem cl142 : CL Tryz.prog 142 := fun _ _ => by kernel_rfl
theorem cl143 : CL Tryz.prog 143 := fun _ _ => by kernel_rfl
theorem cl144 : CL Tryz.prog 144 := fun _ _ => by kernel_rfl
theorem cl145 : CL Tryz.prog 145 := fun _ _ => by kernel_rfl
theorem cl146 : CL Tryz.prog 146 := fun _ _ => by kernel_rfl
theorem cl147 : CL Tryz.prog 147 := fun _ _ => by kernel_rfl
theorem cl148 : CL Tryz.prog 148 := fun _ _ => by kernel_rfl
theorem cl149 : CL Tryz.prog 149 := fun _ _ => by kernel_rfl
theorem cl150 : CL Tryz.prog 150 := fun _ _ => by kernel_rfl
theorem cl151 : CL Tryz.prog 151 := fun _ _ => by kernel_rfl
theorem cl157 : CL Tryz.prog 157 := fun _ _ => by kernel_rfl
theorem cl158 : CL Tryz.prog 158 := fun _ _ => by kernel_rfl
theorem cl159 : CL Tryz.prog 159 := fun _ _ => by kernel_rfl
theorem cl161 : CL Tryz.prog 161 := fun _ _ => by kernel_rfl
theorem cl176 : CL Tryz.prog 176 := fun _ _ => by kernel_rfl
theorem cl177 : CL Tryz.prog 177 := fun _ _ => by kernel_rfl
theorem cl178 : CL Tryz.prog 178 := fun _ _ => by kernel_rfl
theorem cl179 : CL Tryz.prog 179 := fun _ _ => by kernel_rfl
theorem cl18 : CL Tryz.prog 18 := fun _ _ => by kernel_rfl
theorem cl181 : CL Tryz.prog 181 := fun _ _ => by kernel_rfl
theorem cl182 : CL Tryz.prog 182 := fun _ _ => by kernel_rfl
theorem cl183 : CL Tryz.prog 183 := fun _ _ => by kernel_rfl
theorem cl19 : CL Tryz.prog 19 := fun _ _ => by kernel_rfl
theorem cl192 : CL Tryz.prog 192 := fun _ _ => by kernel_rfl
theorem cl193 : CL Tryz.prog 193 := fun _ _ => by kernel_rfl
theorem cl194 : CL Tryz.prog 194 := fun _ _ => by kernel_rfl
theorem cl195 : CL Tryz.prog 195 := fun _ _ => by kernel_rfl
theorem cl196 : CL Tryz.prog 196 := fun _ _ => by kernel_rfl
theorem cl197 : CL Tryz.prog 197 := fun _ _ => by kernel_rfl
theorem cl198 : CL Tryz.prog 198 := fun _ _ => by kernel_rfl
theorem cl199 : CL Tryz.prog 199 := fun _ _ => by kernel_rfl
theorem cl20 : CL Tryz.prog 20 := fun _ _ => by kernel_rfl
theorem cl205 : CL Tryz.prog 205 := fun _ _ => by kernel_rfl
theorem cl209 : CL Tryz.prog 209 := fun _ _ => by kernel_rfl
theorem cl21 : CL Tryz.prog 21 := fun _ _ => by kernel_rfl
theorem cl210 : CL Tryz.prog 210 := fun _ _ => by kernel_rfl
theorem cl211 : CL Tryz.prog 211 := fun _ _ => by kernel_rfl
theorem cl217 : CL Tryz.prog 217 := fun _ _ => by kernel_rfl
theorem cl218 : CL Tryz.prog 218 := fun _ _ => by kernel_rfl
theorem cl219 : CL Tryz.prog 219 := fun _ _ => by kernel_rfl
theorem cl22 : CL Tryz.prog 22 := fun _ _ => by kernel_rfl
theorem cl220 : CL Tryz.prog 220 := fun _ _ => by kernel_rfl
theorem cl23 : CL Tryz.prog 23 := fun _ _ => by kernel_rfl
theorem cl230 : CL Tryz.prog 230 := fun _ _ => by kernel_rfl
theorem cl233 : CL Tryz.prog 233 := fun _ _ => by kernel_rfl
theorem cl234 : CL Tryz.prog 234 := fun _ _ => by kernel_rfl
theorem cl235 : CL Tryz.prog 235 := fun _ _ => by kernel_rfl
theorem cl24 : CL Tryz.prog 24 := fun _ _ => by kernel_rfl
theorem cl241 : CL Tryz.prog 241 := fun _ _ => by kernel_rfl
theorem cl25 : CL Tryz.prog 25 := fun _ _ => by kernel_rfl
theorem cl26 : CL Tryz.prog 26 := fun _ _ => by kernel_rfl
theorem cl27 : CL Tryz.prog 27 := fun _ _ => by kernel_rfl
theorem cl28 : CL Tryz.prog 28 := fun _ _ => by kernel_rfl
theorem cl50 : CL Tryz.prog 50 := fun _ _ => by kernel_rfl
theorem cl63 : CL Tryz.prog 63 := fun _ _ => by kernel_rfl
theorem cl64 : CL Tryz.prog 64 := fun _ _ => by kernel_rfl
theorem cl65 : CL Tryz.prog 65 := fun _ _ => by kernel_rfl
theorem cl66 : CL Tryz.prog 66 := fun _ _ => by kernel_rfl
theorem cl67 : CL Tryz.prog 67 := fun _ _ => by kernel_rfl
theorem cl68 : CL Tryz.prog 68 := fun _ _ => by kernel_rfl
theorem cl69 : CL Tryz.prog 69 := fun _ _ => by kernel_rfl
theorem cl70 : CL Tryz.prog 70 := fun _ _ => by kernel_rfl
theorem cl71 : CL Tryz.prog 71 := fun _ _ => by kernel_rfl
theorem cl72 : CL Tryz.prog 72 := fun _ _ => by kernel_rfl
theorem cl73 : CL Tryz.prog 73 := fun _ _ => by kernel_rfl
theorem cl74 : CL Tryz.prog 74 := fun _ _ => by kernel_rfl
theorem cl75 : CL Tryz.prog 75 := fun _ _ => by kernel_rfl
theorem cl76 : CL Tryz.prog 76 := fun _ _ => by kernel_rfl
theorem cl77 : CL Tryz.prog 77 := fun _ _ => by kernel_rfl
theorem cl78 : CL Tryz.prog 78 := fun _ _ => by kernel_rfl
theorem cl79 : CL Tryz.prog 79 := fun _ _ => by kernel_rfl
theorem cl80 : CL Tryz.prog 80 := fun _ _ => by kernel_rfl
theorem cl82 : CL Tryz.prog 82 := fun _ _ => by kernel_rfl
theorem cl83 : CL Tryz.prog 83 := fun _ _ => by kernel_rfl
theorem cl84 : CL Tryz.prog 84 := fun _ _ => by kernel_rfl
theorem cl86 : CL Tryz.prog 86 := fun _ _ => by kernel_rfl
theorem cl90 : CL Tryz.prog 90 := fun _ _ => by kernel_rfl
theorem la180 : LA Tryz.prog 180 4 := fun _ _ => by kernel_rfl
theorem la34 : LA Tryz.prog 34 2 := fun _ _ => by kernel_rfl
theorem la59 : LA Tryz.prog 59 2 := fun _ _ => by kernel_rfl
theorem la61 : LA Tryz.prog 61 3 := fun _ _ => by kernel_rfl
theorem la71 : LA Tryz.prog 71 2 := fun _ _ => by kernel_rfl
theorem ls131 : LS Tryz.prog 131 := fun _ _ => by kernel_rfl
theorem ls170 : LS Tryz.prog 170 := fun _ _ => by kernel_rfl
theorem ls22 : LS Tryz.prog 22 := fun _ _ => by kernel_rfl
theorem ls3 : LS Tryz.prog 3 := fun _ _ => by kernel_rfl
theorem ls32 : LS Tryz.prog 32 := fun _ _ => by kernel_rfl
theorem ls4 : LS Tryz.prog 4 := fun _ _ => by kernel_rfl
theorem ls44 : LS Tryz.prog 44 := fun _ _ => by kernel_rfl
theorem ls46 : LS Tryz.prog 46 := fun _ _ => by kernel_rfl
theorem ls47 : LS Tryz.prog 47 := fun _ _ => by kernel_rfl
theorem ls5 : LS Tryz.prog 5 := fun _ _ => by kernel_rfl
theorem ls50 : LS Tryz.prog 50 := fun _ _ => by kernel_rfl
theorem ls9 : LS Tryz.prog 9 := fun _ _ => by kernel_rfl
theorem ls99 : LS Tryz.prog 99 := fun _ _ => by kernel_rfl
theorem sz131 : SZ Tryz.prog 131 1 := fun _ => by kernel_rfl
theorem sz170 : SZ Tryz.prog 170 1 := fun _ => by kernel_rfl
theorem sz180 : SZ Tryz.prog 180 4 := fun _ => by kernel_rfl
theorem sz3 : SZ Tryz.prog 3 1 := fun _ => by kernel_rfl
theorem sz32 : SZ Tryz.prog 32 1 := fun _ => by kernel_rfl
theorem sz34 : SZ Tryz.prog 34 2 := fun _ => by kernel_rfl
theorem sz4 : SZ Tryz.prog 4 1 := fun _ => by kernel_rfl
theorem sz47 : SZ Tryz.prog 47 1 := fun _ => by kernel_rfl
theorem sz5 : SZ Tryz.prog 5 1 := fun _ => by kernel_rfl
theorem sz50 : SZ Tryz.prog 50 1 := fun _ => by kernel_rfl
theorem sz59 : SZ Tryz.prog 59 2 := fun _ => by kernel_rfl
theorem sz61 : SZ Tryz.prog 61 3 := fun _ => by kernel_rfl
theorem sz71 : SZ Tryz.prog 71 2 := fun _ => by kernel_rfl
theorem sz9 : SZ Tryz.prog 9 1 := fun _ => by kernel_rfl
theorem sz99 : SZ Tryz.prog 99 1 := fun _ => by kernel_rfl
theorem zv131 : ZV Tryz.prog 131 (.slice none 0 0) := fun _ => by kernel_rfl
theorem zv170 : ZV Tryz.prog 170 .nilFunc := fun _ => by kernel_rfl
theorem zv180 : ZV Tryz.prog 180 (.agg #[(.int .i64 0), (.int .i64 0), (.int .i64 0), (.int .i64 0)]) := fun _ => by kernel_rfl
theorem zv3 : ZV Tryz.prog 3 (.int .i64 0) := fun _ => by kernel_rfl
theorem zv34 : ZV Tryz.prog 34 (.agg #[(.slice none 0 0), (.slice none 0 0)]) := fun _ => by kernel_rfl
theorem zv50 : ZV Tryz.prog 50 (.slice none 0 0) := fun _ => by kernel_rfl
theorem zv59 : ZV Tryz.prog 59 (.agg #[(.int .i64 0), (.slice none 0 0)]) := fun _ => by kernel_rfl
theorem zv61 : ZV Tryz.prog 61 (.agg #[(.int .i64 0), (.slice none 0 0), (.int .i64 0)]) := fun _ => by kernel_rfl
theorem zv71 : ZV Tryz.prog 71 (.agg #[(.int .i64 0), (.int .i64 0)]) := fun _ => by kernel_rfl
end TF
def tab : Tab := ⟨[22, 23, 26, 32, 35, 44, 46, 47, 50, 77, 189], [4], [9], [(25, 0, 0), (25, 1, 1), (28, 0, 0), (28, 1, 2), (34, 0, 0), (34, 1, 1), (37, 0, 0), (37, 1, 2), (59, 0, 0), (59, 1, 1), (61, 0, 0), (61, 1, 2), (71, 0, 0), (71, 1, 1), (73, 0, 0), (73, 1, 1), (73, 2, 3), (101, 0, 0), (101, 1, 1), (101, 2, 2), (134, 0, 0), (134, 1, 1), (138, 0, 0), (138, 1, 1), (149, 0, 0), (149, 1, 1), (150, 0, 0), (150, 1, 1), (152, 0, 0), (152, 1, 1), (152, 2, 3), (180, 0, 0), (180, 1, 1), (180, 2, 2), (180, 3, 3), (197, 0, 0), (197, 1, 1), (197, 2, 2), (197, 3, 3)]⟩
theorem inl_mem : ∀ {l : List Nat} {x : Nat}, inl l x = true → x ∈ l
  | y :: r, x, h => by
    unfold inl at h
    cases hb : Nat.beq y x <;> rw [hb] at h
    · exact List.mem_cons_of_mem _ (inl_mem h)
    · rw [Nat.eq_of_beq_eq_true hb]; exact List.mem_cons_self
theorem foff_mem : ∀ {l : List (TypeId × Nat × Nat)} {t f o : Nat}, foff l t f = some o → (t, f, o) ∈ l
  | (t', f', o') :: r, t, f, o, h => by
    unfold foff at h
    cases hb : (Nat.beq t' t && Nat.beq f' f) <;> rw [hb] at h
    · exact List.mem_cons_of_mem _ (foff_mem h)
    · simp only [Bool.and_eq_true] at hb
      injection h with h
      rw [Nat.eq_of_beq_eq_true hb.1, Nat.eq_of_beq_eq_true hb.2, h]; exact List.mem_cons_self
theorem tabOk : TabOk Tryz.prog tab where
  sl := fun T h => by
    have h := inl_mem h
    simp only [tab, List.mem_cons, List.not_mem_nil, or_false] at h
    rcases h with rfl | rfl | rfl | rfl | rfl | rfl | rfl | rfl | rfl | rfl | rfl
    · exact ⟨_, Tryz.underlying22⟩
    · exact ⟨_, Tryz.underlying23⟩
    · exact ⟨_, Tryz.underlying26⟩
    · exact ⟨_, Tryz.underlying32⟩
    · exact ⟨_, Tryz.underlying35⟩
    · exact ⟨_, Tryz.underlying44⟩
    · exact ⟨_, Tryz.underlying46⟩
    · exact ⟨_, Tryz.underlying47⟩
    · exact ⟨_, Tryz.underlying50⟩
    · exact ⟨_, Tryz.underlying77⟩
    · exact ⟨_, Tryz.underlying189⟩
  bo := fun T h => by
    have h := inl_mem h
    simp only [tab, List.mem_cons, List.not_mem_nil, or_false] at h
    rcases h with rfl
    · exact Tryz.underlying4
  st := fun T h => by
    have h := inl_mem h
    simp only [tab, List.mem_cons, List.not_mem_nil, or_false] at h
    rcases h with rfl
    · exact Tryz.underlying9
  fa := fun T f o h => by
    have h := foff_mem h
    simp only [tab, List.mem_cons, List.not_mem_nil, or_false, Prod.mk.injEq] at h
    rcases h with ⟨rfl, rfl, rfl⟩ | ⟨rfl, rfl, rfl⟩ | ⟨rfl, rfl, rfl⟩ | ⟨rfl, rfl, rfl⟩ | ⟨rfl, rfl, rfl⟩ | ⟨rfl, rfl, rfl⟩ | ⟨rfl, rfl, rfl⟩ | ⟨rfl, rfl, rfl⟩ | ⟨rfl, rfl, rfl⟩ | ⟨rfl, rfl, rfl⟩ | ⟨rfl, rfl, rfl⟩ | ⟨rfl, rfl, rfl⟩ | ⟨rfl, rfl, rfl⟩ | ⟨rfl, rfl, rfl⟩ | ⟨rfl, rfl, rfl⟩ | ⟨rfl, rfl, rfl⟩ | ⟨rfl, rfl, rfl⟩ | ⟨rfl, rfl, rfl⟩ | ⟨rfl, rfl, rfl⟩ | ⟨rfl, rfl, rfl⟩ | ⟨rfl, rfl, rfl⟩ | ⟨rfl, rfl, rfl⟩ | ⟨rfl, rfl, rfl⟩ | ⟨rfl, rfl, rfl⟩ | ⟨rfl, rfl, rfl⟩ | ⟨rfl, rfl, rfl⟩ | ⟨rfl, rfl, rfl⟩ | ⟨rfl, rfl, rfl⟩ | ⟨rfl, rfl, rfl⟩ | ⟨rfl, rfl, rfl⟩ | ⟨rfl, rfl, rfl⟩ | ⟨rfl, rfl, rfl⟩ | ⟨rfl, rfl, rfl⟩ | ⟨rfl, rfl, rfl⟩ | ⟨rfl, rfl, rfl⟩ | ⟨rfl, rfl, rfl⟩ | ⟨rfl, rfl, rfl⟩ | ⟨rfl, rfl, rfl⟩ | ⟨rfl, rfl, rfl⟩
    · exact fun _ _ => by kernel_rfl
    · exact fun _ _ => by kernel_rfl
    · exact fun _ _ => by kernel_rfl
    · exact fun _ _ => by kernel_rfl
    · exact fun _ _ => by kernel_rfl
    · exact fun _ _ => by kernel_rfl
    · exact fun _ _ => by kernel_rfl
    · exact fun _ _ => by kernel_rfl
    · exact fun _ _ => by kernel_rfl
    · exact fun _ _ => by kernel_rfl
    · exact fun _ _ => by kernel_rfl
    · exact fun _ _ => by kernel_rfl
    · exact fun _ _ => by kernel_rfl
    · exact fun _ _ => by kernel_rfl
    · exact fun _ _ => by kernel_rfl
    · exact fun _ _ => by kernel_rfl
    · exact fun _ _ => by kernel_rfl
    · exact fun _ _ => by kernel_rfl
    · exact fun _ _ => by kernel_rfl
    · exact fun _ _ => by kernel_rfl
    · exact fun _ _ => by kernel_rfl
    · exact fun _ _ => by kernel_rfl
    · exact fun _ _ => by kernel_rfl
    · exact fun _ _ => by kernel_rfl
    · exact fun _ _ => by kernel_rfl
    · exact fun _ _ => by kernel_rfl
    · exact fun _ _ => by kernel_rfl
    · exact fun _ _ => by kernel_rfl
    · exact fun _ _ => by kernel_rfl
    · exact fun _ _ => by kernel_rfl
    · exact fun _ _ => by kernel_rfl
    · exact fun _ _ => by kernel_rfl
    · exact fun _ _ => by kernel_rfl
    · exact fun _ _ => by kernel_rfl
    · exact fun _ _ => by kernel_rfl
    · exact fun _ _ => by kernel_rfl
    · exact fun _ _ => by kernel_rfl
    · exact fun _ _ => by kernel_rfl
    · exact fun _ _ => by kernel_rfl
section
variable {Q : Exit → Act → World → Prop} {w : World} {n : Nat}
theorem pr {ops : List Oper} (k : Nat) {L : List (Nat × Value)} {l : List Oper} {L' : List (Nat × Value)} {l' : List Oper} {a : Act} (hf : Fr a n L) (hd : dstOk n l = true) (h : pRun tab ops k L l = (L', l')) (hk : ∀ a', Fr a' n L' → wpList Tryz.prog ops.toArray Q l' a' w) : wpList Tryz.prog ops.toArray Q l a w := pRun_ok tabOk k L l hf hd h hk
variable {S0 : World → Prop} {B : List Nat} {bs : List Bool} {a : Act} {fuel d : Nat} {L : List (Nat × Value)} {Mid : Act → World → Prop} {op : Op} {v : Value} {l : List Oper} {t : TypeId} {ps : String} {af : Array Edge}
theorem tp (i : Nat) (hi : l[i]? = some ⟨some d, op, t, ps, af, none⟩) (hdn : Nat.ble (d + 1) n = true) (hf : Fr a n L) (hc : takeB l bs i [] B = true) (hS : nb B bs.toArray = true → S0 w) (hv : pOp tab L op = some v) (h : ∀ a', Fr a' n ((d, v) :: L) → DL Tryz.prog l Mid S0 B fuel (bs.set i true) a' w) : DL Tryz.prog l Mid S0 B (fuel + 1) bs a w := tP i hi rfl rfl hdn hf hc hS (fun _ => pOp_ok tabOk hf hv) h
theorem tpg (i : Nat) {j e : Nat} {b : Bool} (hi : l[i]? = some ⟨some d, op, t, ps, af, some (j, b)⟩) (hj : (l[j]?).bind (·.dst) = some e) (hb : lk L e = some (.bool b)) (hdn : Nat.ble (d + 1) n = true) (hf : Fr a n L) (hc : takeB l bs i [] B = true) (hS : nb B bs.toArray = true → S0 w) (hv : pOp tab L op = some v) (h : ∀ a', Fr a' n ((d, v) :: L) → DL Tryz.prog l Mid S0 B fuel (bs.set i true) a' w) : DL Tryz.prog l Mid S0 B (fuel + 1) bs a w := tPg i hi rfl rfl hj hb hdn hf hc hS (fun _ => pOp_ok tabOk hf hv) h
end
end AT
