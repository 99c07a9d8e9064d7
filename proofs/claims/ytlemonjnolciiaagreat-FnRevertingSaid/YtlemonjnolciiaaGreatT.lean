/- The types and closed facts on the program, by program (gen.py). -/
import Derived.Test.YtlemonjnolciiaaGreatAtBP
import Derived.Test.YtlemonjnolciiaaGreatF
import Derived.Test.YtlemonjnolciiaaGreatRows
set_option linter.unusedVariables false
set_option maxRecDepth 100000
namespace AT
open Go Go.RowKit Go.Proofs
instance:GoTy L1CurP:=GoTy.via (α:=(List By)×(Int)×(U64)) (fun x=>(x.code,x.at_,x.seed))
theorem L1CurP_cells {w:World} {S:Nat→Prop} {cs:List Value} {x:L1CurP} (h:GoTy.rep w S cs x):∃ A1 c1,cs=[(.slice A1 x.code.length c1),(.int .i64 x.at_),(.int .u64 x.seed.n)]∧lrep w S [.slice A1 x.code.length c1] x.code:=by
  obtain ⟨p0,q0,rfl,g0,k0⟩:=h
  obtain ⟨A1,c1,rfl,l1⟩:=list_cells g0
  obtain ⟨p1,q1,rfl,g1,k1⟩:=k0
  obtain rfl:=g1
  obtain rfl:=k1
  exact ⟨A1,c1,rfl,l1⟩
theorem L1CurP_mk {w:World} {S:Nat→Prop} {x:L1CurP} {A1:Option Addr} {m1 c1:Nat} (l1:lrep w S [.slice A1 m1 c1] x.code):GoTy.rep w S [(.slice A1 m1 c1),(.int .i64 x.at_),(.int .u64 x.seed.n)] x:=⟨_,_,rfl,l1,⟨_,_,rfl,rfl,rfl⟩⟩
instance:GoTy Fiber:=GoTy.via (α:=(Int)×(Int)×(Int)×(Int)) (fun x=>(x.A,x.B,x.Length,x.Risk))
theorem Fiber_cells {w:World} {S:Nat→Prop} {cs:List Value} {x:Fiber} (h:GoTy.rep w S cs x):cs=[(.int .i64 x.A),(.int .i64 x.B),(.int .i64 x.Length),(.int .i64 x.Risk)]:=by
  obtain ⟨p0,q0,rfl,g0,k0⟩:=h
  obtain rfl:=g0
  obtain ⟨p1,q1,rfl,g1,k1⟩:=k0
  obtain rfl:=g1
  obtain ⟨p2,q2,rfl,g2,k2⟩:=k1
  obtain rfl:=g2
  obtain rfl:=k2
  exact rfl
theorem Fiber_open {w:World} {S:Nat→Prop} {v:Value} {x:Fiber} (h:VR w S v x):v=(.agg #[(.int .i64 x.A),(.int .i64 x.B),(.int .i64 x.Length),(.int .i64 x.Risk)]):=by
  obtain ⟨cs,h,rfl⟩:=h
  obtain rfl:=Fiber_cells h
  exact rfl
theorem Fiber_mk {w:World} {S:Nat→Prop} {x:Fiber}:GoTy.rep w S [(.int .i64 x.A),(.int .i64 x.B),(.int .i64 x.Length),(.int .i64 x.Risk)] x:=⟨_,_,rfl,rfl,⟨_,_,rfl,rfl,⟨_,_,rfl,rfl,rfl⟩⟩⟩
theorem Fiber_mkv {w:World} {S:Nat→Prop} {x:Fiber}:VR w S (.agg #[(.int .i64 x.A),(.int .i64 x.B),(.int .i64 x.Length),(.int .i64 x.Risk)]) x:=⟨_,Fiber_mk,rfl⟩
instance:GoTy Network:=GoTy.via (α:=(List ByteArray)×(List Fiber)) (fun x=>(x.Nodes,x.Fibers))
theorem Network_cells {w:World} {S:Nat→Prop} {cs:List Value} {x:Network} (h:GoTy.rep w S cs x):∃ A1 c1,∃ A2 c2,cs=[(.slice A1 x.Nodes.length c1),(.slice A2 x.Fibers.length c2)]∧lrep w S [.slice A1 x.Nodes.length c1] x.Nodes∧lrep w S [.slice A2 x.Fibers.length c2] x.Fibers:=by
  obtain ⟨p0,q0,rfl,g0,k0⟩:=h
  obtain ⟨A1,c1,rfl,l1⟩:=list_cells g0
  obtain ⟨A2,c2,rfl,l2⟩:=list_cells k0
  exact ⟨A1,c1,A2,c2,rfl,l1,l2⟩
theorem Network_open {w:World} {S:Nat→Prop} {v:Value} {x:Network} (h:VR w S v x):∃ A1 c1,∃ A2 c2,v=(.agg #[(.slice A1 x.Nodes.length c1),(.slice A2 x.Fibers.length c2)])∧lrep w S [.slice A1 x.Nodes.length c1] x.Nodes∧lrep w S [.slice A2 x.Fibers.length c2] x.Fibers:=by
  obtain ⟨cs,h,rfl⟩:=h
  obtain ⟨A1,c1,A2,c2,rfl,l1,l2⟩:=Network_cells h
  exact ⟨A1,c1,A2,c2,rfl,l1,l2⟩
theorem Network_mk {w:World} {S:Nat→Prop} {x:Network} {A1:Option Addr} {m1 c1:Nat} (l1:lrep w S [.slice A1 m1 c1] x.Nodes) {A2:Option Addr} {m2 c2:Nat} (l2:lrep w S [.slice A2 m2 c2] x.Fibers):GoTy.rep w S [(.slice A1 m1 c1),(.slice A2 m2 c2)] x:=⟨_,_,rfl,l1,l2⟩
theorem Network_mkv {w:World} {S:Nat→Prop} {x:Network} {A1:Option Addr} {m1 c1:Nat} (l1:lrep w S [.slice A1 m1 c1] x.Nodes) {A2:Option Addr} {m2 c2:Nat} (l2:lrep w S [.slice A2 m2 c2] x.Fibers):VR w S (.agg #[(.slice A1 m1 c1),(.slice A2 m2 c2)]) x:=⟨_,Network_mk l1 l2,rfl⟩
theorem Network_ownmk {w:World} {x:Network} {A1:Option Addr} {m1 c1:Nat} {F1:List Nat} (l1:lown w F1 [.slice A1 m1 c1] x.Nodes) {A2:Option Addr} {m2 c2:Nat} {F2:List Nat} (l2:lown w F2 [.slice A2 m2 c2] x.Fibers):GoTy.own w (F1++F2) [(.slice A1 m1 c1),(.slice A2 m2 c2)] x:=⟨_,_,F1,F2,rfl,by simp,l1,l2⟩
theorem Network_own {w:World} {F:List Nat} {cs:List Value} {x:Network} (h:GoTy.own w F cs x):∃ A1 c1 F1,∃ A2 c2 F2,cs=[(.slice A1 x.Nodes.length c1),(.slice A2 x.Fibers.length c2)]∧F1++(F2)=F∧lown w F1 [.slice A1 x.Nodes.length c1] x.Nodes∧lown w F2 [.slice A2 x.Fibers.length c2] x.Fibers:=by
  obtain ⟨p0,q0,X0,Y0,rfl,rfl,g0,k0⟩:=h
  obtain ⟨A1,c1,rfl,l1⟩:=own_list g0
  obtain ⟨A2,c2,rfl,l2⟩:=own_list k0
  exact ⟨A1,c1,_,A2,c2,_,rfl,by simp,l1,l2⟩
theorem Network_vo {w:World} {F:List Nat} {v:Value} {x:Network} (h:VO w F v x):∃ A1 c1 F1,∃ A2 c2 F2,v=(.agg #[(.slice A1 x.Nodes.length c1),(.slice A2 x.Fibers.length c2)])∧F1++(F2)=F∧lown w F1 [.slice A1 x.Nodes.length c1] x.Nodes∧lown w F2 [.slice A2 x.Fibers.length c2] x.Fibers:=by
  obtain ⟨cs,h,rfl⟩:=h
  obtain ⟨A1,c1,F1,A2,c2,F2,rfl,rfl,l1,l2⟩:=Network_own h
  exact ⟨_,_,_,_,_,_,rfl,rfl,l1,l2⟩
instance:GoTy Route:=GoTy.via (α:=(Int)×(List Int)) (fun x=>(x.Start,x.Fibers))
theorem Route_cells {w:World} {S:Nat→Prop} {cs:List Value} {x:Route} (h:GoTy.rep w S cs x):∃ A1 c1,cs=[(.int .i64 x.Start),(.slice A1 x.Fibers.length c1)]∧lrep w S [.slice A1 x.Fibers.length c1] x.Fibers:=by
  obtain ⟨p0,q0,rfl,g0,k0⟩:=h
  obtain rfl:=g0
  obtain ⟨A1,c1,rfl,l1⟩:=list_cells k0
  exact ⟨A1,c1,rfl,l1⟩
theorem Route_open {w:World} {S:Nat→Prop} {v:Value} {x:Route} (h:VR w S v x):∃ A1 c1,v=(.agg #[(.int .i64 x.Start),(.slice A1 x.Fibers.length c1)])∧lrep w S [.slice A1 x.Fibers.length c1] x.Fibers:=by
  obtain ⟨cs,h,rfl⟩:=h
  obtain ⟨A1,c1,rfl,l1⟩:=Route_cells h
  exact ⟨A1,c1,rfl,l1⟩
theorem Route_mk {w:World} {S:Nat→Prop} {x:Route} {A1:Option Addr} {m1 c1:Nat} (l1:lrep w S [.slice A1 m1 c1] x.Fibers):GoTy.rep w S [(.int .i64 x.Start),(.slice A1 m1 c1)] x:=⟨_,_,rfl,rfl,l1⟩
theorem Route_mkv {w:World} {S:Nat→Prop} {x:Route} {A1:Option Addr} {m1 c1:Nat} (l1:lrep w S [.slice A1 m1 c1] x.Fibers):VR w S (.agg #[(.int .i64 x.Start),(.slice A1 m1 c1)]) x:=⟨_,Route_mk l1,rfl⟩
theorem Route_ownmk {w:World} {x:Route} {A1:Option Addr} {m1 c1:Nat} {F1:List Nat} (l1:lown w F1 [.slice A1 m1 c1] x.Fibers):GoTy.own w F1 [(.int .i64 x.Start),(.slice A1 m1 c1)] x:=⟨_,_,[],F1,rfl,by simp,⟨rfl,rfl⟩,l1⟩
theorem Route_own {w:World} {F:List Nat} {cs:List Value} {x:Route} (h:GoTy.own w F cs x):∃ A1 c1 F1,cs=[(.int .i64 x.Start),(.slice A1 x.Fibers.length c1)]∧F1=F∧lown w F1 [.slice A1 x.Fibers.length c1] x.Fibers:=by
  obtain ⟨p0,q0,X0,Y0,rfl,rfl,g0,k0⟩:=h
  obtain ⟨rfl,rfl⟩:=g0
  obtain ⟨A1,c1,rfl,l1⟩:=own_list k0
  exact ⟨A1,c1,_,rfl,by simp,l1⟩
theorem Route_vo {w:World} {F:List Nat} {v:Value} {x:Route} (h:VO w F v x):∃ A1 c1 F1,v=(.agg #[(.int .i64 x.Start),(.slice A1 x.Fibers.length c1)])∧F1=F∧lown w F1 [.slice A1 x.Fibers.length c1] x.Fibers:=by
  obtain ⟨cs,h,rfl⟩:=h
  obtain ⟨A1,c1,F1,rfl,rfl,l1⟩:=Route_own h
  exact ⟨_,_,_,rfl,rfl,l1⟩
instance:GoTy Block:=GoTy.via (α:=(Int)×(Int)) (fun x=>(x.First,x.Count))
theorem Block_cells {w:World} {S:Nat→Prop} {cs:List Value} {x:Block} (h:GoTy.rep w S cs x):cs=[(.int .i64 x.First),(.int .i64 x.Count)]:=by
  obtain ⟨p0,q0,rfl,g0,k0⟩:=h
  obtain rfl:=g0
  obtain rfl:=k0
  exact rfl
theorem Block_open {w:World} {S:Nat→Prop} {v:Value} {x:Block} (h:VR w S v x):v=(.agg #[(.int .i64 x.First),(.int .i64 x.Count)]):=by
  obtain ⟨cs,h,rfl⟩:=h
  obtain rfl:=Block_cells h
  exact rfl
theorem Block_mk {w:World} {S:Nat→Prop} {x:Block}:GoTy.rep w S [(.int .i64 x.First),(.int .i64 x.Count)] x:=⟨_,_,rfl,rfl,rfl⟩
theorem Block_mkv {w:World} {S:Nat→Prop} {x:Block}:VR w S (.agg #[(.int .i64 x.First),(.int .i64 x.Count)]) x:=⟨_,Block_mk,rfl⟩
theorem Block_ownmk {w:World} {x:Block}:GoTy.own w [] [(.int .i64 x.First),(.int .i64 x.Count)] x:=⟨_,_,[],[],rfl,by simp,⟨rfl,rfl⟩,⟨rfl,rfl⟩⟩
theorem Block_ownF {w:World} {F:List Nat} {cs:List Value} {x:Block} (h:GoTy.own w F cs x):F=[]:=by
  obtain ⟨p0,q0,X0,Y0,rfl,rfl,g0,k0⟩:=h
  obtain ⟨rfl,rfl⟩:=g0
  obtain ⟨rfl,rfl⟩:=k0
  rfl
instance:GoTy Light:=GoTy.via (α:=(Int)×(Route)×(Block)) (fun x=>(x.Id,x.Route,x.Block))
theorem Light_cells {w:World} {S:Nat→Prop} {cs:List Value} {x:Light} (h:GoTy.rep w S cs x):∃ A1 c1,cs=[(.int .i64 x.Id),(.int .i64 x.Route.Start),(.slice A1 x.Route.Fibers.length c1),(.int .i64 x.Block.First),(.int .i64 x.Block.Count)]∧lrep w S [.slice A1 x.Route.Fibers.length c1] x.Route.Fibers:=by
  obtain ⟨p0,q0,rfl,g0,k0⟩:=h
  obtain rfl:=g0
  obtain ⟨p1,q1,rfl,g1,k1⟩:=k0
  obtain ⟨A1,c1,rfl,l1⟩:=Route_cells g1
  obtain rfl:=Block_cells k1
  exact ⟨A1,c1,rfl,l1⟩
theorem Light_open {w:World} {S:Nat→Prop} {v:Value} {x:Light} (h:VR w S v x):∃ A1 c1,v=(.agg #[(.int .i64 x.Id),(.int .i64 x.Route.Start),(.slice A1 x.Route.Fibers.length c1),(.int .i64 x.Block.First),(.int .i64 x.Block.Count)])∧lrep w S [.slice A1 x.Route.Fibers.length c1] x.Route.Fibers:=by
  obtain ⟨cs,h,rfl⟩:=h
  obtain ⟨A1,c1,rfl,l1⟩:=Light_cells h
  exact ⟨A1,c1,rfl,l1⟩
theorem Light_mk {w:World} {S:Nat→Prop} {x:Light} {A1:Option Addr} {m1 c1:Nat} (l1:lrep w S [.slice A1 m1 c1] x.Route.Fibers):GoTy.rep w S [(.int .i64 x.Id),(.int .i64 x.Route.Start),(.slice A1 m1 c1),(.int .i64 x.Block.First),(.int .i64 x.Block.Count)] x:=⟨_,_,rfl,rfl,⟨_,_,rfl,(Route_mk l1),Block_mk⟩⟩
theorem Light_mkv {w:World} {S:Nat→Prop} {x:Light} {A1:Option Addr} {m1 c1:Nat} (l1:lrep w S [.slice A1 m1 c1] x.Route.Fibers):VR w S (.agg #[(.int .i64 x.Id),(.int .i64 x.Route.Start),(.slice A1 m1 c1),(.int .i64 x.Block.First),(.int .i64 x.Block.Count)]) x:=⟨_,Light_mk l1,rfl⟩
theorem Light_ownmk {w:World} {x:Light} {A1:Option Addr} {m1 c1:Nat} {F1:List Nat} (l1:lown w F1 [.slice A1 m1 c1] x.Route.Fibers):GoTy.own w F1 [(.int .i64 x.Id),(.int .i64 x.Route.Start),(.slice A1 m1 c1),(.int .i64 x.Block.First),(.int .i64 x.Block.Count)] x:=⟨_,_,[],F1,rfl,by simp,⟨rfl,rfl⟩,⟨_,_,F1,[],rfl,by simp,(Route_ownmk l1),(Block_ownmk)⟩⟩
theorem Light_own {w:World} {F:List Nat} {cs:List Value} {x:Light} (h:GoTy.own w F cs x):∃ A1 c1 F1,cs=[(.int .i64 x.Id),(.int .i64 x.Route.Start),(.slice A1 x.Route.Fibers.length c1),(.int .i64 x.Block.First),(.int .i64 x.Block.Count)]∧F1=F∧lown w F1 [.slice A1 x.Route.Fibers.length c1] x.Route.Fibers:=by
  obtain ⟨p0,q0,X0,Y0,rfl,rfl,g0,k0⟩:=h
  obtain ⟨rfl,rfl⟩:=g0
  obtain ⟨p1,q1,X1,Y1,rfl,rfl,g1,k1⟩:=k0
  obtain ⟨A1,c1,F1,rfl,rfl,l1⟩:=Route_own g1
  obtain rfl:=Block_cells (GoTy.own_rep k1)
  obtain rfl:=Block_ownF k1
  exact ⟨A1,c1,_,rfl,by simp,l1⟩
theorem Light_vo {w:World} {F:List Nat} {v:Value} {x:Light} (h:VO w F v x):∃ A1 c1 F1,v=(.agg #[(.int .i64 x.Id),(.int .i64 x.Route.Start),(.slice A1 x.Route.Fibers.length c1),(.int .i64 x.Block.First),(.int .i64 x.Block.Count)])∧F1=F∧lown w F1 [.slice A1 x.Route.Fibers.length c1] x.Route.Fibers:=by
  obtain ⟨cs,h,rfl⟩:=h
  obtain ⟨A1,c1,F1,rfl,rfl,l1⟩:=Light_own h
  exact ⟨_,_,_,rfl,rfl,l1⟩
instance:GoTy Plan:=GoTy.via (α:=(Network)×(List Light)) (fun x=>(x.Network,x.Lights))
theorem Plan_cells {w:World} {S:Nat→Prop} {cs:List Value} {x:Plan} (h:GoTy.rep w S cs x):∃ A1 c1,∃ A2 c2,∃ A3 c3,cs=[(.slice A1 x.Network.Nodes.length c1),(.slice A2 x.Network.Fibers.length c2),(.slice A3 x.Lights.length c3)]∧lrep w S [.slice A1 x.Network.Nodes.length c1] x.Network.Nodes∧lrep w S [.slice A2 x.Network.Fibers.length c2] x.Network.Fibers∧lrep w S [.slice A3 x.Lights.length c3] x.Lights:=by
  obtain ⟨p0,q0,rfl,g0,k0⟩:=h
  obtain ⟨A1,c1,A2,c2,rfl,l1,l2⟩:=Network_cells g0
  obtain ⟨A3,c3,rfl,l3⟩:=list_cells k0
  exact ⟨A1,c1,A2,c2,A3,c3,rfl,l1,l2,l3⟩
theorem Plan_open {w:World} {S:Nat→Prop} {v:Value} {x:Plan} (h:VR w S v x):∃ A1 c1,∃ A2 c2,∃ A3 c3,v=(.agg #[(.slice A1 x.Network.Nodes.length c1),(.slice A2 x.Network.Fibers.length c2),(.slice A3 x.Lights.length c3)])∧lrep w S [.slice A1 x.Network.Nodes.length c1] x.Network.Nodes∧lrep w S [.slice A2 x.Network.Fibers.length c2] x.Network.Fibers∧lrep w S [.slice A3 x.Lights.length c3] x.Lights:=by
  obtain ⟨cs,h,rfl⟩:=h
  obtain ⟨A1,c1,A2,c2,A3,c3,rfl,l1,l2,l3⟩:=Plan_cells h
  exact ⟨A1,c1,A2,c2,A3,c3,rfl,l1,l2,l3⟩
theorem Plan_mk {w:World} {S:Nat→Prop} {x:Plan} {A1:Option Addr} {m1 c1:Nat} (l1:lrep w S [.slice A1 m1 c1] x.Network.Nodes) {A2:Option Addr} {m2 c2:Nat} (l2:lrep w S [.slice A2 m2 c2] x.Network.Fibers) {A3:Option Addr} {m3 c3:Nat} (l3:lrep w S [.slice A3 m3 c3] x.Lights):GoTy.rep w S [(.slice A1 m1 c1),(.slice A2 m2 c2),(.slice A3 m3 c3)] x:=⟨_,_,rfl,(Network_mk l1 l2),l3⟩
theorem Plan_mkv {w:World} {S:Nat→Prop} {x:Plan} {A1:Option Addr} {m1 c1:Nat} (l1:lrep w S [.slice A1 m1 c1] x.Network.Nodes) {A2:Option Addr} {m2 c2:Nat} (l2:lrep w S [.slice A2 m2 c2] x.Network.Fibers) {A3:Option Addr} {m3 c3:Nat} (l3:lrep w S [.slice A3 m3 c3] x.Lights):VR w S (.agg #[(.slice A1 m1 c1),(.slice A2 m2 c2),(.slice A3 m3 c3)]) x:=⟨_,Plan_mk l1 l2 l3,rfl⟩
theorem Plan_ownmk {w:World} {x:Plan} {A1:Option Addr} {m1 c1:Nat} {F1:List Nat} (l1:lown w F1 [.slice A1 m1 c1] x.Network.Nodes) {A2:Option Addr} {m2 c2:Nat} {F2:List Nat} (l2:lown w F2 [.slice A2 m2 c2] x.Network.Fibers) {A3:Option Addr} {m3 c3:Nat} {F3:List Nat} (l3:lown w F3 [.slice A3 m3 c3] x.Lights):GoTy.own w (F1++(F2++F3)) [(.slice A1 m1 c1),(.slice A2 m2 c2),(.slice A3 m3 c3)] x:=⟨_,_,(F1++F2),F3,rfl,by simp,(Network_ownmk l1 l2),l3⟩
theorem Plan_own {w:World} {F:List Nat} {cs:List Value} {x:Plan} (h:GoTy.own w F cs x):∃ A1 c1 F1,∃ A2 c2 F2,∃ A3 c3 F3,cs=[(.slice A1 x.Network.Nodes.length c1),(.slice A2 x.Network.Fibers.length c2),(.slice A3 x.Lights.length c3)]∧F1++(F2++(F3))=F∧lown w F1 [.slice A1 x.Network.Nodes.length c1] x.Network.Nodes∧lown w F2 [.slice A2 x.Network.Fibers.length c2] x.Network.Fibers∧lown w F3 [.slice A3 x.Lights.length c3] x.Lights:=by
  obtain ⟨p0,q0,X0,Y0,rfl,rfl,g0,k0⟩:=h
  obtain ⟨A1,c1,F1,A2,c2,F2,rfl,rfl,l1,l2⟩:=Network_own g0
  obtain ⟨A3,c3,rfl,l3⟩:=own_list k0
  exact ⟨A1,c1,_,A2,c2,_,A3,c3,_,rfl,by simp,l1,l2,l3⟩
theorem Plan_vo {w:World} {F:List Nat} {v:Value} {x:Plan} (h:VO w F v x):∃ A1 c1 F1,∃ A2 c2 F2,∃ A3 c3 F3,v=(.agg #[(.slice A1 x.Network.Nodes.length c1),(.slice A2 x.Network.Fibers.length c2),(.slice A3 x.Lights.length c3)])∧F1++(F2++(F3))=F∧lown w F1 [.slice A1 x.Network.Nodes.length c1] x.Network.Nodes∧lown w F2 [.slice A2 x.Network.Fibers.length c2] x.Network.Fibers∧lown w F3 [.slice A3 x.Lights.length c3] x.Lights:=by
  obtain ⟨cs,h,rfl⟩:=h
  obtain ⟨A1,c1,F1,A2,c2,F2,A3,c3,F3,rfl,rfl,l1,l2,l3⟩:=Plan_own h
  exact ⟨_,_,_,_,_,_,_,_,_,rfl,rfl,l1,l2,l3⟩
instance:GoTy Format:=GoTy.via (α:=(Int)×(Int)) (fun x=>(x.Reach,x.Rate))
instance:GoTy Restoration:=GoTy.via (α:=(Plan)×(List Light)×(List Int)) (fun x=>(x.Plan,x.Home,x.Down))
theorem Restoration_cells {w:World} {S:Nat→Prop} {cs:List Value} {x:Restoration} (h:GoTy.rep w S cs x):∃ A1 c1,∃ A2 c2,∃ A3 c3,∃ A4 c4,∃ A5 c5,cs=[(.slice A1 x.Plan.Network.Nodes.length c1),(.slice A2 x.Plan.Network.Fibers.length c2),(.slice A3 x.Plan.Lights.length c3),(.slice A4 x.Home.length c4),(.slice A5 x.Down.length c5)]∧lrep w S [.slice A1 x.Plan.Network.Nodes.length c1] x.Plan.Network.Nodes∧lrep w S [.slice A2 x.Plan.Network.Fibers.length c2] x.Plan.Network.Fibers∧lrep w S [.slice A3 x.Plan.Lights.length c3] x.Plan.Lights∧lrep w S [.slice A4 x.Home.length c4] x.Home∧lrep w S [.slice A5 x.Down.length c5] x.Down:=by
  obtain ⟨p0,q0,rfl,g0,k0⟩:=h
  obtain ⟨A1,c1,A2,c2,A3,c3,rfl,l1,l2,l3⟩:=Plan_cells g0
  obtain ⟨p1,q1,rfl,g1,k1⟩:=k0
  obtain ⟨A4,c4,rfl,l4⟩:=list_cells g1
  obtain ⟨A5,c5,rfl,l5⟩:=list_cells k1
  exact ⟨A1,c1,A2,c2,A3,c3,A4,c4,A5,c5,rfl,l1,l2,l3,l4,l5⟩
theorem Restoration_open {w:World} {S:Nat→Prop} {v:Value} {x:Restoration} (h:VR w S v x):∃ A1 c1,∃ A2 c2,∃ A3 c3,∃ A4 c4,∃ A5 c5,v=(.agg #[(.slice A1 x.Plan.Network.Nodes.length c1),(.slice A2 x.Plan.Network.Fibers.length c2),(.slice A3 x.Plan.Lights.length c3),(.slice A4 x.Home.length c4),(.slice A5 x.Down.length c5)])∧lrep w S [.slice A1 x.Plan.Network.Nodes.length c1] x.Plan.Network.Nodes∧lrep w S [.slice A2 x.Plan.Network.Fibers.length c2] x.Plan.Network.Fibers∧lrep w S [.slice A3 x.Plan.Lights.length c3] x.Plan.Lights∧lrep w S [.slice A4 x.Home.length c4] x.Home∧lrep w S [.slice A5 x.Down.length c5] x.Down:=by
  obtain ⟨cs,h,rfl⟩:=h
  obtain ⟨A1,c1,A2,c2,A3,c3,A4,c4,A5,c5,rfl,l1,l2,l3,l4,l5⟩:=Restoration_cells h
  exact ⟨A1,c1,A2,c2,A3,c3,A4,c4,A5,c5,rfl,l1,l2,l3,l4,l5⟩
theorem Restoration_mk {w:World} {S:Nat→Prop} {x:Restoration} {A1:Option Addr} {m1 c1:Nat} (l1:lrep w S [.slice A1 m1 c1] x.Plan.Network.Nodes) {A2:Option Addr} {m2 c2:Nat} (l2:lrep w S [.slice A2 m2 c2] x.Plan.Network.Fibers) {A3:Option Addr} {m3 c3:Nat} (l3:lrep w S [.slice A3 m3 c3] x.Plan.Lights) {A4:Option Addr} {m4 c4:Nat} (l4:lrep w S [.slice A4 m4 c4] x.Home) {A5:Option Addr} {m5 c5:Nat} (l5:lrep w S [.slice A5 m5 c5] x.Down):GoTy.rep w S [(.slice A1 m1 c1),(.slice A2 m2 c2),(.slice A3 m3 c3),(.slice A4 m4 c4),(.slice A5 m5 c5)] x:=⟨_,_,rfl,(Plan_mk l1 l2 l3),⟨_,_,rfl,l4,l5⟩⟩
theorem Restoration_mkv {w:World} {S:Nat→Prop} {x:Restoration} {A1:Option Addr} {m1 c1:Nat} (l1:lrep w S [.slice A1 m1 c1] x.Plan.Network.Nodes) {A2:Option Addr} {m2 c2:Nat} (l2:lrep w S [.slice A2 m2 c2] x.Plan.Network.Fibers) {A3:Option Addr} {m3 c3:Nat} (l3:lrep w S [.slice A3 m3 c3] x.Plan.Lights) {A4:Option Addr} {m4 c4:Nat} (l4:lrep w S [.slice A4 m4 c4] x.Home) {A5:Option Addr} {m5 c5:Nat} (l5:lrep w S [.slice A5 m5 c5] x.Down):VR w S (.agg #[(.slice A1 m1 c1),(.slice A2 m2 c2),(.slice A3 m3 c3),(.slice A4 m4 c4),(.slice A5 m5 c5)]) x:=⟨_,Restoration_mk l1 l2 l3 l4 l5,rfl⟩
theorem Restoration_ownmk {w:World} {x:Restoration} {A1:Option Addr} {m1 c1:Nat} {F1:List Nat} (l1:lown w F1 [.slice A1 m1 c1] x.Plan.Network.Nodes) {A2:Option Addr} {m2 c2:Nat} {F2:List Nat} (l2:lown w F2 [.slice A2 m2 c2] x.Plan.Network.Fibers) {A3:Option Addr} {m3 c3:Nat} {F3:List Nat} (l3:lown w F3 [.slice A3 m3 c3] x.Plan.Lights) {A4:Option Addr} {m4 c4:Nat} {F4:List Nat} (l4:lown w F4 [.slice A4 m4 c4] x.Home) {A5:Option Addr} {m5 c5:Nat} {F5:List Nat} (l5:lown w F5 [.slice A5 m5 c5] x.Down):GoTy.own w (F1++(F2++(F3++(F4++F5)))) [(.slice A1 m1 c1),(.slice A2 m2 c2),(.slice A3 m3 c3),(.slice A4 m4 c4),(.slice A5 m5 c5)] x:=⟨_,_,(F1++(F2++F3)),(F4++F5),rfl,by simp,(Plan_ownmk l1 l2 l3),⟨_,_,F4,F5,rfl,by simp,l4,l5⟩⟩
theorem Restoration_own {w:World} {F:List Nat} {cs:List Value} {x:Restoration} (h:GoTy.own w F cs x):∃ A1 c1 F1,∃ A2 c2 F2,∃ A3 c3 F3,∃ A4 c4 F4,∃ A5 c5 F5,cs=[(.slice A1 x.Plan.Network.Nodes.length c1),(.slice A2 x.Plan.Network.Fibers.length c2),(.slice A3 x.Plan.Lights.length c3),(.slice A4 x.Home.length c4),(.slice A5 x.Down.length c5)]∧F1++(F2++(F3++(F4++(F5))))=F∧lown w F1 [.slice A1 x.Plan.Network.Nodes.length c1] x.Plan.Network.Nodes∧lown w F2 [.slice A2 x.Plan.Network.Fibers.length c2] x.Plan.Network.Fibers∧lown w F3 [.slice A3 x.Plan.Lights.length c3] x.Plan.Lights∧lown w F4 [.slice A4 x.Home.length c4] x.Home∧lown w F5 [.slice A5 x.Down.length c5] x.Down:=by
  obtain ⟨p0,q0,X0,Y0,rfl,rfl,g0,k0⟩:=h
  obtain ⟨A1,c1,F1,A2,c2,F2,A3,c3,F3,rfl,rfl,l1,l2,l3⟩:=Plan_own g0
  obtain ⟨p1,q1,X1,Y1,rfl,rfl,g1,k1⟩:=k0
  obtain ⟨A4,c4,rfl,l4⟩:=own_list g1
  obtain ⟨A5,c5,rfl,l5⟩:=own_list k1
  exact ⟨A1,c1,_,A2,c2,_,A3,c3,_,A4,c4,_,A5,c5,_,rfl,by simp,l1,l2,l3,l4,l5⟩
theorem Restoration_vo {w:World} {F:List Nat} {v:Value} {x:Restoration} (h:VO w F v x):∃ A1 c1 F1,∃ A2 c2 F2,∃ A3 c3 F3,∃ A4 c4 F4,∃ A5 c5 F5,v=(.agg #[(.slice A1 x.Plan.Network.Nodes.length c1),(.slice A2 x.Plan.Network.Fibers.length c2),(.slice A3 x.Plan.Lights.length c3),(.slice A4 x.Home.length c4),(.slice A5 x.Down.length c5)])∧F1++(F2++(F3++(F4++(F5))))=F∧lown w F1 [.slice A1 x.Plan.Network.Nodes.length c1] x.Plan.Network.Nodes∧lown w F2 [.slice A2 x.Plan.Network.Fibers.length c2] x.Plan.Network.Fibers∧lown w F3 [.slice A3 x.Plan.Lights.length c3] x.Plan.Lights∧lown w F4 [.slice A4 x.Home.length c4] x.Home∧lown w F5 [.slice A5 x.Down.length c5] x.Down:=by
  obtain ⟨cs,h,rfl⟩:=h
  obtain ⟨A1,c1,F1,A2,c2,F2,A3,c3,F3,A4,c4,F4,A5,c5,F5,rfl,rfl,l1,l2,l3,l4,l5⟩:=Restoration_own h
  exact ⟨_,_,_,_,_,_,_,_,_,_,_,_,_,_,_,rfl,rfl,l1,l2,l3,l4,l5⟩
instance:GoTy L4SearchP:=GoTy.via (α:=(Network)×(Int)×(List Route)) (fun x=>(x.n,x.to,x.list))
theorem L4SearchP_cells {w:World} {S:Nat→Prop} {cs:List Value} {x:L4SearchP} (h:GoTy.rep w S cs x):∃ A1 c1,∃ A2 c2,∃ A3 c3,cs=[(.slice A1 x.n.Nodes.length c1),(.slice A2 x.n.Fibers.length c2),(.int .i64 x.to),(.slice A3 x.list.length c3)]∧lrep w S [.slice A1 x.n.Nodes.length c1] x.n.Nodes∧lrep w S [.slice A2 x.n.Fibers.length c2] x.n.Fibers∧lrep w S [.slice A3 x.list.length c3] x.list:=by
  obtain ⟨p0,q0,rfl,g0,k0⟩:=h
  obtain ⟨A1,c1,A2,c2,rfl,l1,l2⟩:=Network_cells g0
  obtain ⟨p1,q1,rfl,g1,k1⟩:=k0
  obtain rfl:=g1
  obtain ⟨A3,c3,rfl,l3⟩:=list_cells k1
  exact ⟨A1,c1,A2,c2,A3,c3,rfl,l1,l2,l3⟩
theorem L4SearchP_mk {w:World} {S:Nat→Prop} {x:L4SearchP} {A1:Option Addr} {m1 c1:Nat} (l1:lrep w S [.slice A1 m1 c1] x.n.Nodes) {A2:Option Addr} {m2 c2:Nat} (l2:lrep w S [.slice A2 m2 c2] x.n.Fibers) {A3:Option Addr} {m3 c3:Nat} (l3:lrep w S [.slice A3 m3 c3] x.list):GoTy.rep w S [(.slice A1 m1 c1),(.slice A2 m2 c2),(.int .i64 x.to),(.slice A3 m3 c3)] x:=⟨_,_,rfl,(Network_mk l1 l2),⟨_,_,rfl,rfl,l3⟩⟩
instance:GoTy Action:=GoTy.via (α:=(Int)×(Light)) (fun x=>(x.Kind,x.Light))
instance:GoTy L20SearchP:=GoTy.via (α:=(List Action)×(List Bool)) (fun x=>(x.list,x.failed))
instance:GoTy FiberEvent:=GoTy.via (α:=(Bool)×(List Int)) (fun x=>(x.Fail,x.Fibers))
instance:GoTy Demand:=GoTy.via (α:=(Int)×(Int)×(Int)×(Int)) (fun x=>(x.From,x.To,x.Rate,x.Class))
instance:GoTy Served:=GoTy.via (α:=(Plan)×(List Int)×(Int)) (fun x=>(x.Plan,x.Ids,x.Blocked))
instance:GoTy ChoiceP:=GoTy.via (α:=(Route)×(Int)) (fun x=>(x.route,x.count))
theorem Lens.via {N α β:Type} [GoTy α] [GoTy β] {f:N→α} {q:Nat} {get:α→β} {put:α→β→α} (h:Lens α β q get put) (g:N→β) (p:N→β→N) (hg:∀ e,g e=get (f e)) (hp:∀ e y,f (p e y)=put (f e) y):@Lens N β (GoTy.via f) _ q g p:=by
  refine @Lens.mk N β (GoTy.via f) _ q g p ?_
  intro w F cs e ho
  obtain ⟨Fa,F1,Fc,c,hF,hc,h1,h2⟩:=h.at_ (e:=f e) ho
  refine ⟨Fa,F1,Fc,c,hF,hc,by rw [hg]; exact h1,fun w1 F2 y a b d=>?_⟩
  have:=h2 w1 F2 y a b d
  rw [←hp] at this; exact this
namespace TF
theorem ai180:AI Tryz.prog 180 4 (.agg #[(.int .i64 0),(.int .i64 0),(.int .i64 0),(.int .i64 0)]) 32:=by unfold AI; kernel_rfl
theorem ai3:AI Tryz.prog 3 1 (.int .i64 0) 8:=by unfold AI; kernel_rfl
theorem ai45:AI Tryz.prog 45 2 (.agg #[(.int .i64 0),(.slice none 0 0)]) 32:=by unfold AI; kernel_rfl
theorem ai49:AI Tryz.prog 49 5 (.agg #[(.int .i64 0),(.int .i64 0),(.slice none 0 0),(.int .i64 0),(.int .i64 0)]) 56:=by unfold AI; kernel_rfl
theorem ai9:AI Tryz.prog 9 1 (.string ByteArray.empty) 16:=by unfold AI; kernel_rfl
theorem cl10:CL Tryz.prog 10:=fun _ _=>by kernel_rfl
theorem cl106:CL Tryz.prog 106:=fun _ _=>by kernel_rfl
theorem cl121:CL Tryz.prog 121:=fun _ _=>by kernel_rfl
theorem cl125:CL Tryz.prog 125:=fun _ _=>by kernel_rfl
theorem cl126:CL Tryz.prog 126:=fun _ _=>by kernel_rfl
theorem cl127:CL Tryz.prog 127:=fun _ _=>by kernel_rfl
theorem cl128:CL Tryz.prog 128:=fun _ _=>by kernel_rfl
theorem cl130:CL Tryz.prog 130:=fun _ _=>by kernel_rfl
theorem cl131:CL Tryz.prog 131:=fun _ _=>by kernel_rfl
theorem cl133:CL Tryz.prog 133:=fun _ _=>by kernel_rfl
theorem cl140:CL Tryz.prog 140:=fun _ _=>by kernel_rfl
theorem cl141:CL Tryz.prog 141:=fun _ _=>by kernel_rfl
theorem cl142:CL Tryz.prog 142:=fun _ _=>by kernel_rfl
theorem cl143:CL Tryz.prog 143:=fun _ _=>by kernel_rfl
theorem cl144:CL Tryz.prog 144:=fun _ _=>by kernel_rfl
theorem cl145:CL Tryz.prog 145:=fun _ _=>by kernel_rfl
theorem cl153:CL Tryz.prog 153:=fun _ _=>by kernel_rfl
theorem cl154:CL Tryz.prog 154:=fun _ _=>by kernel_rfl
theorem cl156:CL Tryz.prog 156:=fun _ _=>by kernel_rfl
theorem cl158:CL Tryz.prog 158:=fun _ _=>by kernel_rfl
theorem cl159:CL Tryz.prog 159:=fun _ _=>by kernel_rfl
theorem cl160:CL Tryz.prog 160:=fun _ _=>by kernel_rfl
theorem cl161:CL Tryz.prog 161:=fun _ _=>by kernel_rfl
theorem cl162:CL Tryz.prog 162:=fun _ _=>by kernel_rfl
theorem cl164:CL Tryz.prog 164:=fun _ _=>by kernel_rfl
theorem cl165:CL Tryz.prog 165:=fun _ _=>by kernel_rfl
theorem cl166:CL Tryz.prog 166:=fun _ _=>by kernel_rfl
theorem cl167:CL Tryz.prog 167:=fun _ _=>by kernel_rfl
theorem cl172:CL Tryz.prog 172:=fun _ _=>by kernel_rfl
theorem cl173:CL Tryz.prog 173:=fun _ _=>by kernel_rfl
theorem cl174:CL Tryz.prog 174:=fun _ _=>by kernel_rfl
theorem cl175:CL Tryz.prog 175:=fun _ _=>by kernel_rfl
theorem cl176:CL Tryz.prog 176:=fun _ _=>by kernel_rfl
theorem cl177:CL Tryz.prog 177:=fun _ _=>by kernel_rfl
theorem cl178:CL Tryz.prog 178:=fun _ _=>by kernel_rfl
theorem cl179:CL Tryz.prog 179:=fun _ _=>by kernel_rfl
theorem cl18:CL Tryz.prog 18:=fun _ _=>by kernel_rfl
theorem cl180:CL Tryz.prog 180:=fun _ _=>by kernel_rfl
theorem cl181:CL Tryz.prog 181:=fun _ _=>by kernel_rfl
theorem cl182:CL Tryz.prog 182:=fun _ _=>by kernel_rfl
theorem cl183:CL Tryz.prog 183:=fun _ _=>by kernel_rfl
theorem cl184:CL Tryz.prog 184:=fun _ _=>by kernel_rfl
theorem cl185:CL Tryz.prog 185:=fun _ _=>by kernel_rfl
theorem cl186:CL Tryz.prog 186:=fun _ _=>by kernel_rfl
theorem cl187:CL Tryz.prog 187:=fun _ _=>by kernel_rfl
theorem cl188:CL Tryz.prog 188:=fun _ _=>by kernel_rfl
theorem cl192:CL Tryz.prog 192:=fun _ _=>by kernel_rfl
theorem cl197:CL Tryz.prog 197:=fun _ _=>by kernel_rfl
theorem cl198:CL Tryz.prog 198:=fun _ _=>by kernel_rfl
theorem cl199:CL Tryz.prog 199:=fun _ _=>by kernel_rfl
theorem cl21:CL Tryz.prog 21:=fun _ _=>by kernel_rfl
theorem cl213:CL Tryz.prog 213:=fun _ _=>by kernel_rfl
theorem cl214:CL Tryz.prog 214:=fun _ _=>by kernel_rfl
theorem cl215:CL Tryz.prog 215:=fun _ _=>by kernel_rfl
theorem cl217:CL Tryz.prog 217:=fun _ _=>by kernel_rfl
theorem cl218:CL Tryz.prog 218:=fun _ _=>by kernel_rfl
theorem cl22:CL Tryz.prog 22:=fun _ _=>by kernel_rfl
theorem cl225:CL Tryz.prog 225:=fun _ _=>by kernel_rfl
theorem cl226:CL Tryz.prog 226:=fun _ _=>by kernel_rfl
theorem cl227:CL Tryz.prog 227:=fun _ _=>by kernel_rfl
theorem cl228:CL Tryz.prog 228:=fun _ _=>by kernel_rfl
theorem cl229:CL Tryz.prog 229:=fun _ _=>by kernel_rfl
theorem cl23:CL Tryz.prog 23:=fun _ _=>by kernel_rfl
theorem cl230:CL Tryz.prog 230:=fun _ _=>by kernel_rfl
theorem cl231:CL Tryz.prog 231:=fun _ _=>by kernel_rfl
theorem cl238:CL Tryz.prog 238:=fun _ _=>by kernel_rfl
theorem cl24:CL Tryz.prog 24:=fun _ _=>by kernel_rfl
theorem cl241:CL Tryz.prog 241:=fun _ _=>by kernel_rfl
theorem cl242:CL Tryz.prog 242:=fun _ _=>by kernel_rfl
theorem cl245:CL Tryz.prog 245:=fun _ _=>by kernel_rfl
theorem cl246:CL Tryz.prog 246:=fun _ _=>by kernel_rfl
theorem cl247:CL Tryz.prog 247:=fun _ _=>by kernel_rfl
theorem cl248:CL Tryz.prog 248:=fun _ _=>by kernel_rfl
theorem cl249:CL Tryz.prog 249:=fun _ _=>by kernel_rfl
theorem cl25:CL Tryz.prog 25:=fun _ _=>by kernel_rfl
theorem cl257:CL Tryz.prog 257:=fun _ _=>by kernel_rfl
theorem cl258:CL Tryz.prog 258:=fun _ _=>by kernel_rfl
theorem cl259:CL Tryz.prog 259:=fun _ _=>by kernel_rfl
theorem cl26:CL Tryz.prog 26:=fun _ _=>by kernel_rfl
theorem cl260:CL Tryz.prog 260:=fun _ _=>by kernel_rfl
theorem cl261:CL Tryz.prog 261:=fun _ _=>by kernel_rfl
theorem cl262:CL Tryz.prog 262:=fun _ _=>by kernel_rfl
theorem cl27:CL Tryz.prog 27:=fun _ _=>by kernel_rfl
theorem cl271:CL Tryz.prog 271:=fun _ _=>by kernel_rfl
theorem cl277:CL Tryz.prog 277:=fun _ _=>by kernel_rfl
theorem cl281:CL Tryz.prog 281:=fun _ _=>by kernel_rfl
theorem cl290:CL Tryz.prog 290:=fun _ _=>by kernel_rfl
theorem cl291:CL Tryz.prog 291:=fun _ _=>by kernel_rfl
theorem cl292:CL Tryz.prog 292:=fun _ _=>by kernel_rfl
theorem cl293:CL Tryz.prog 293:=fun _ _=>by kernel_rfl
theorem cl302:CL Tryz.prog 302:=fun _ _=>by kernel_rfl
theorem cl303:CL Tryz.prog 303:=fun _ _=>by kernel_rfl
theorem cl304:CL Tryz.prog 304:=fun _ _=>by kernel_rfl
theorem cl308:CL Tryz.prog 308:=fun _ _=>by kernel_rfl
theorem cl330:CL Tryz.prog 330:=fun _ _=>by kernel_rfl
theorem cl332:CL Tryz.prog 332:=fun _ _=>by kernel_rfl
theorem cl336:CL Tryz.prog 336:=fun _ _=>by kernel_rfl
theorem cl347:CL Tryz.prog 347:=fun _ _=>by kernel_rfl
theorem cl361:CL Tryz.prog 361:=fun _ _=>by kernel_rfl
theorem cl366:CL Tryz.prog 366:=fun _ _=>by kernel_rfl
theorem cl369:CL Tryz.prog 369:=fun _ _=>by kernel_rfl
theorem cl56:CL Tryz.prog 56:=fun _ _=>by kernel_rfl
theorem cl65:CL Tryz.prog 65:=fun _ _=>by kernel_rfl
theorem cl66:CL Tryz.prog 66:=fun _ _=>by kernel_rfl
theorem cl69:CL Tryz.prog 69:=fun _ _=>by kernel_rfl
theorem cl72:CL Tryz.prog 72:=fun _ _=>by kernel_rfl
theorem cl74:CL Tryz.prog 74:=fun _ _=>by kernel_rfl
theorem cl75:CL Tryz.prog 75:=fun _ _=>by kernel_rfl
theorem cl76:CL Tryz.prog 76:=fun _ _=>by kernel_rfl
theorem cl77:CL Tryz.prog 77:=fun _ _=>by kernel_rfl
theorem cl82:CL Tryz.prog 82:=fun _ _=>by kernel_rfl
theorem cl83:CL Tryz.prog 83:=fun _ _=>by kernel_rfl
theorem cl84:CL Tryz.prog 84:=fun _ _=>by kernel_rfl
theorem cl85:CL Tryz.prog 85:=fun _ _=>by kernel_rfl
theorem cl86:CL Tryz.prog 86:=fun _ _=>by kernel_rfl
theorem cl87:CL Tryz.prog 87:=fun _ _=>by kernel_rfl
theorem cl88:CL Tryz.prog 88:=fun _ _=>by kernel_rfl
theorem cl89:CL Tryz.prog 89:=fun _ _=>by kernel_rfl
theorem cl90:CL Tryz.prog 90:=fun _ _=>by kernel_rfl
theorem cl91:CL Tryz.prog 91:=fun _ _=>by kernel_rfl
theorem cl92:CL Tryz.prog 92:=fun _ _=>by kernel_rfl
theorem cl93:CL Tryz.prog 93:=fun _ _=>by kernel_rfl
theorem cl94:CL Tryz.prog 94:=fun _ _=>by kernel_rfl
theorem cl95:CL Tryz.prog 95:=fun _ _=>by kernel_rfl
theorem cl96:CL Tryz.prog 96:=fun _ _=>by kernel_rfl
theorem cl97:CL Tryz.prog 97:=fun _ _=>by kernel_rfl
theorem cl98:CL Tryz.prog 98:=fun _ _=>by kernel_rfl
theorem la180:LA Tryz.prog 180 4:=fun _ _=>by kernel_rfl
theorem la27:LA Tryz.prog 27 2:=fun _ _=>by kernel_rfl
theorem la30:LA Tryz.prog 30 3:=fun _ _=>by kernel_rfl
theorem la45:LA Tryz.prog 45 2:=fun _ _=>by kernel_rfl
theorem la47:LA Tryz.prog 47 2:=fun _ _=>by kernel_rfl
theorem la49:LA Tryz.prog 49 5:=fun _ _=>by kernel_rfl
theorem la60:LA Tryz.prog 60 5:=fun _ _=>by kernel_rfl
theorem ls107:LS Tryz.prog 107:=fun _ _=>by kernel_rfl
theorem ls22:LS Tryz.prog 22:=fun _ _=>by kernel_rfl
theorem ls230:LS Tryz.prog 230:=fun _ _=>by kernel_rfl
theorem ls24:LS Tryz.prog 24:=fun _ _=>by kernel_rfl
theorem ls25:LS Tryz.prog 25:=fun _ _=>by kernel_rfl
theorem ls28:LS Tryz.prog 28:=fun _ _=>by kernel_rfl
theorem ls3:LS Tryz.prog 3:=fun _ _=>by kernel_rfl
theorem ls35:LS Tryz.prog 35:=fun _ _=>by kernel_rfl
theorem ls5:LS Tryz.prog 5:=fun _ _=>by kernel_rfl
theorem ls9:LS Tryz.prog 9:=fun _ _=>by kernel_rfl
theorem pt3:PT Tryz.prog 3:=fun _=>⟨by kernel_rfl,by kernel_rfl⟩
theorem qeqt47:EQT Tryz.prog 47 2 3:=⟨by kernel_rfl,by kernel_rfl,by kernel_rfl,by kernel_rfl,by kernel_rfl,pt3,⟨_,Tryz.underlying3⟩⟩
theorem sz107:SZ Tryz.prog 107 1:=fun _=>by kernel_rfl
theorem sz180:SZ Tryz.prog 180 4:=fun _=>by kernel_rfl
theorem sz230:SZ Tryz.prog 230 1:=fun _=>by kernel_rfl
theorem sz24:SZ Tryz.prog 24 1:=fun _=>by kernel_rfl
theorem sz25:SZ Tryz.prog 25 1:=fun _=>by kernel_rfl
theorem sz27:SZ Tryz.prog 27 2:=fun _=>by kernel_rfl
theorem sz28:SZ Tryz.prog 28 1:=fun _=>by kernel_rfl
theorem sz3:SZ Tryz.prog 3 1:=fun _=>by kernel_rfl
theorem sz30:SZ Tryz.prog 30 3:=fun _=>by kernel_rfl
theorem sz35:SZ Tryz.prog 35 1:=fun _=>by kernel_rfl
theorem sz45:SZ Tryz.prog 45 2:=fun _=>by kernel_rfl
theorem sz47:SZ Tryz.prog 47 2:=fun _=>by kernel_rfl
theorem sz49:SZ Tryz.prog 49 5:=fun _=>by kernel_rfl
theorem sz5:SZ Tryz.prog 5 1:=fun _=>by kernel_rfl
theorem sz60:SZ Tryz.prog 60 5:=fun _=>by kernel_rfl
theorem sz9:SZ Tryz.prog 9 1:=fun _=>by kernel_rfl
theorem zv180:ZV Tryz.prog 180 (.agg #[(.int .i64 0),(.int .i64 0),(.int .i64 0),(.int .i64 0)]):=fun _=>by kernel_rfl
theorem zv27:ZV Tryz.prog 27 (.agg #[(.slice none 0 0),(.slice none 0 0)]):=fun _=>by kernel_rfl
theorem zv30:ZV Tryz.prog 30 (.agg #[(.slice none 0 0),(.slice none 0 0),(.slice none 0 0)]):=fun _=>by kernel_rfl
theorem zv45:ZV Tryz.prog 45 (.agg #[(.int .i64 0),(.slice none 0 0)]):=fun _=>by kernel_rfl
theorem zv47:ZV Tryz.prog 47 (.agg #[(.int .i64 0),(.int .i64 0)]):=fun _=>by kernel_rfl
theorem zv49:ZV Tryz.prog 49 (.agg #[(.int .i64 0),(.int .i64 0),(.slice none 0 0),(.int .i64 0),(.int .i64 0)]):=fun _=>by kernel_rfl
theorem zv60:ZV Tryz.prog 60 (.agg #[(.slice none 0 0),(.slice none 0 0),(.slice none 0 0),(.slice none 0 0),(.slice none 0 0)]):=fun _=>by kernel_rfl
end TF
def tab:Tab:=⟨[22,24,25,28,31,32,35,70,75,78,87,213,228,230,246,318],[4],[9],[(27,0,0),(27,1,1),(30,0,0),(30,1,2),(37,0,0),(37,1,3),(37,2,4),(45,0,0),(45,1,1),(47,0,0),(47,1,1),(49,0,0),(49,1,1),(49,2,3),(51,0,0),(51,1,1),(51,2,2),(51,3,3),(60,0,0),(60,1,3),(60,2,4),(77,0,0),(77,1,1),(80,0,0),(80,1,2),(94,0,0),(94,1,1),(109,0,0),(109,1,1),(109,2,2),(145,0,0),(145,1,1),(148,0,0),(148,1,1),(180,0,0),(180,1,1),(180,2,2),(180,3,3),(182,0,0),(182,1,1),(198,0,0),(198,1,2),(218,0,0),(218,1,1),(219,0,0),(219,1,1),(221,0,0),(221,1,1),(221,2,3),(261,0,0),(261,1,1),(261,2,2),(261,3,3),(322,0,0),(322,1,2),(322,2,3)]⟩
theorem inl_mem:∀ {l:List Nat} {x:Nat},inl l x=true→x∈l
  | y::r,x,h=>by
    unfold inl at h
    cases hb:Nat.beq y x <;> rw [hb] at h
    · exact List.mem_cons_of_mem _ (inl_mem h)
    · rw [Nat.eq_of_beq_eq_true hb]; exact List.mem_cons_self
theorem foff_mem:∀ {l:List (TypeId×Nat×Nat)} {t f o:Nat},foff l t f=some o→(t,f,o)∈l
  | (t',f',o')::r,t,f,o,h=>by
    unfold foff at h
    cases hb:(Nat.beq t' t&&Nat.beq f' f) <;> rw [hb] at h
    · exact List.mem_cons_of_mem _ (foff_mem h)
    · simp only [Bool.and_eq_true] at hb
      injection h with h
      rw [Nat.eq_of_beq_eq_true hb.1,Nat.eq_of_beq_eq_true hb.2,h]; exact List.mem_cons_self
theorem tabOk:TabOk Tryz.prog tab where
  sl:=fun T h=>by
    have h:=inl_mem h
    simp only [tab,List.mem_cons,List.not_mem_nil,or_false] at h
    rcases h with rfl | rfl | rfl | rfl | rfl | rfl | rfl | rfl | rfl | rfl | rfl | rfl | rfl | rfl | rfl | rfl
    · exact ⟨_,Tryz.underlying22⟩
    · exact ⟨_,Tryz.underlying24⟩
    · exact ⟨_,Tryz.underlying25⟩
    · exact ⟨_,Tryz.underlying28⟩
    · exact ⟨_,Tryz.underlying31⟩
    · exact ⟨_,Tryz.underlying32⟩
    · exact ⟨_,Tryz.underlying35⟩
    · exact ⟨_,Tryz.underlying70⟩
    · exact ⟨_,Tryz.underlying75⟩
    · exact ⟨_,Tryz.underlying78⟩
    · exact ⟨_,Tryz.underlying87⟩
    · exact ⟨_,Tryz.underlying213⟩
    · exact ⟨_,Tryz.underlying228⟩
    · exact ⟨_,Tryz.underlying230⟩
    · exact ⟨_,Tryz.underlying246⟩
    · exact ⟨_,Tryz.underlying318⟩
  bo:=fun T h=>by
    have h:=inl_mem h
    simp only [tab,List.mem_cons,List.not_mem_nil,or_false] at h
    rcases h with rfl
    · exact Tryz.underlying4
  st:=fun T h=>by
    have h:=inl_mem h
    simp only [tab,List.mem_cons,List.not_mem_nil,or_false] at h
    rcases h with rfl
    · exact Tryz.underlying9
  fa:=fun T f o h=>by
    have h:=foff_mem h
    simp only [tab,List.mem_cons,List.not_mem_nil,or_false,Prod.mk.injEq] at h
    rcases h with ⟨rfl,rfl,rfl⟩ | ⟨rfl,rfl,rfl⟩ | ⟨rfl,rfl,rfl⟩ | ⟨rfl,rfl,rfl⟩ | ⟨rfl,rfl,rfl⟩ | ⟨rfl,rfl,rfl⟩ | ⟨rfl,rfl,rfl⟩ | ⟨rfl,rfl,rfl⟩ | ⟨rfl,rfl,rfl⟩ | ⟨rfl,rfl,rfl⟩ | ⟨rfl,rfl,rfl⟩ | ⟨rfl,rfl,rfl⟩ | ⟨rfl,rfl,rfl⟩ | ⟨rfl,rfl,rfl⟩ | ⟨rfl,rfl,rfl⟩ | ⟨rfl,rfl,rfl⟩ | ⟨rfl,rfl,rfl⟩ | ⟨rfl,rfl,rfl⟩ | ⟨rfl,rfl,rfl⟩ | ⟨rfl,rfl,rfl⟩ | ⟨rfl,rfl,rfl⟩ | ⟨rfl,rfl,rfl⟩ | ⟨rfl,rfl,rfl⟩ | ⟨rfl,rfl,rfl⟩ | ⟨rfl,rfl,rfl⟩ | ⟨rfl,rfl,rfl⟩ | ⟨rfl,rfl,rfl⟩ | ⟨rfl,rfl,rfl⟩ | ⟨rfl,rfl,rfl⟩ | ⟨rfl,rfl,rfl⟩ | ⟨rfl,rfl,rfl⟩ | ⟨rfl,rfl,rfl⟩ | ⟨rfl,rfl,rfl⟩ | ⟨rfl,rfl,rfl⟩ | ⟨rfl,rfl,rfl⟩ | ⟨rfl,rfl,rfl⟩ | ⟨rfl,rfl,rfl⟩ | ⟨rfl,rfl,rfl⟩ | ⟨rfl,rfl,rfl⟩ | ⟨rfl,rfl,rfl⟩ | ⟨rfl,rfl,rfl⟩ | ⟨rfl,rfl,rfl⟩ | ⟨rfl,rfl,rfl⟩ | ⟨rfl,rfl,rfl⟩ | ⟨rfl,rfl,rfl⟩ | ⟨rfl,rfl,rfl⟩ | ⟨rfl,rfl,rfl⟩ | ⟨rfl,rfl,rfl⟩ | ⟨rfl,rfl,rfl⟩ | ⟨rfl,rfl,rfl⟩ | ⟨rfl,rfl,rfl⟩ | ⟨rfl,rfl,rfl⟩ | ⟨rfl,rfl,rfl⟩ | ⟨rfl,rfl,rfl⟩ | ⟨rfl,rfl,rfl⟩ | ⟨rfl,rfl,rfl⟩
    · exact fun _ _=>by kernel_rfl
    · exact fun _ _=>by kernel_rfl
    · exact fun _ _=>by kernel_rfl
    · exact fun _ _=>by kernel_rfl
    · exact fun _ _=>by kernel_rfl
    · exact fun _ _=>by kernel_rfl
    · exact fun _ _=>by kernel_rfl
    · exact fun _ _=>by kernel_rfl
    · exact fun _ _=>by kernel_rfl
    · exact fun _ _=>by kernel_rfl
    · exact fun _ _=>by kernel_rfl
    · exact fun _ _=>by kernel_rfl
    · exact fun _ _=>by kernel_rfl
    · exact fun _ _=>by kernel_rfl
    · exact fun _ _=>by kernel_rfl
    · exact fun _ _=>by kernel_rfl
    · exact fun _ _=>by kernel_rfl
    · exact fun _ _=>by kernel_rfl
    · exact fun _ _=>by kernel_rfl
    · exact fun _ _=>by kernel_rfl
    · exact fun _ _=>by kernel_rfl
    · exact fun _ _=>by kernel_rfl
    · exact fun _ _=>by kernel_rfl
    · exact fun _ _=>by kernel_rfl
    · exact fun _ _=>by kernel_rfl
    · exact fun _ _=>by kernel_rfl
    · exact fun _ _=>by kernel_rfl
    · exact fun _ _=>by kernel_rfl
    · exact fun _ _=>by kernel_rfl
    · exact fun _ _=>by kernel_rfl
    · exact fun _ _=>by kernel_rfl
    · exact fun _ _=>by kernel_rfl
    · exact fun _ _=>by kernel_rfl
    · exact fun _ _=>by kernel_rfl
    · exact fun _ _=>by kernel_rfl
    · exact fun _ _=>by kernel_rfl
    · exact fun _ _=>by kernel_rfl
    · exact fun _ _=>by kernel_rfl
    · exact fun _ _=>by kernel_rfl
    · exact fun _ _=>by kernel_rfl
    · exact fun _ _=>by kernel_rfl
    · exact fun _ _=>by kernel_rfl
    · exact fun _ _=>by kernel_rfl
    · exact fun _ _=>by kernel_rfl
    · exact fun _ _=>by kernel_rfl
    · exact fun _ _=>by kernel_rfl
    · exact fun _ _=>by kernel_rfl
    · exact fun _ _=>by kernel_rfl
    · exact fun _ _=>by kernel_rfl
    · exact fun _ _=>by kernel_rfl
    · exact fun _ _=>by kernel_rfl
    · exact fun _ _=>by kernel_rfl
    · exact fun _ _=>by kernel_rfl
    · exact fun _ _=>by kernel_rfl
    · exact fun _ _=>by kernel_rfl
    · exact fun _ _=>by kernel_rfl
section
variable {Q:Exit→Act→World→Prop} {w:World} {n:Nat}
theorem pr {ops:List Oper} (k:Nat) {L:List (Nat×Value)} {l:List Oper} {L':List (Nat×Value)} {l':List Oper} {a:Act} (hf:Fr a n L) (hd:dstOk n l=true) (h:pRun tab ops k L l=(L',l')) (hk:∀ a',Fr a' n L'→wpList Tryz.prog ops.toArray Q l' a' w):wpList Tryz.prog ops.toArray Q l a w:=pRun_ok tabOk k L l hf hd h hk
variable {S0:World→Prop} {B:List Nat} {bs:List Bool} {a:Act} {fuel d:Nat} {L:List (Nat×Value)} {Mid:Act→World→Prop} {op:Op} {v:Value} {l:List Oper} {t:TypeId} {ps:String} {af:Array Edge}
theorem tp (i:Nat) (hi:l[i]?=some ⟨some d,op,t,ps,af,none⟩) (hdn:Nat.ble (d + 1) n=true) (hf:Fr a n L) (hc:takeB l bs i [] B=true) (hS:nb B bs.toArray=true→S0 w) (hv:pOp tab L op=some v) (h:∀ a',Fr a' n ((d,v)::L)→DL Tryz.prog l Mid S0 B fuel (bs.set i true) a' w):DL Tryz.prog l Mid S0 B (fuel + 1) bs a w:=tP i hi rfl rfl hdn hf hc hS (fun _=>pOp_ok tabOk hf hv) h
theorem tpg (i:Nat) {j e:Nat} {b:Bool} (hi:l[i]?=some ⟨some d,op,t,ps,af,some (j,b)⟩) (hj:(l[j]?).bind (·.dst)=some e) (hb:lk L e=some (.bool b)) (hdn:Nat.ble (d + 1) n=true) (hf:Fr a n L) (hc:takeB l bs i [] B=true) (hS:nb B bs.toArray=true→S0 w) (hv:pOp tab L op=some v) (h:∀ a',Fr a' n ((d,v)::L)→DL Tryz.prog l Mid S0 B fuel (bs.set i true) a' w):DL Tryz.prog l Mid S0 B (fuel + 1) bs a w:=tPg i hi rfl rfl hj hb hdn hf hc hS (fun _=>pOp_ok tabOk hf hv) h
end
end AT
