/- The types and closed facts on the program, by program (gen.py). -/
import Derived.Test.YtlemonjnolciiaaGreatAtSd
import Derived.Test.YtlemonjnolciiaaGreatF
import Derived.Test.YtlemonjnolciiaaGreatRows
set_option linter.unusedVariables false
set_option maxRecDepth 100000
namespace AT
open Go Go.RowKit Go.Proofs
instance:GoTy L1CurP:=GoTy.via (α:=(List By)×(Int)×(U64)) (fun x=>(x.code,x.at_,x.seed))
theorem uc {w:World} {S:Nat→Prop} {cs:List Value} {x:L1CurP} (h:GoTy.rep w S cs x):∃ A1 c1,cs=[(.slice A1 x.code.length c1),(.int .i64 x.at_),(.int .u64 x.seed.n)]∧lrep w S [.slice A1 x.code.length c1] x.code:=by
  obtain ⟨p0,q0,rfl,g0,k0⟩:=h
  obtain ⟨A1,c1,rfl,l1⟩:=gaA g0
  obtain ⟨p1,q1,rfl,g1,k1⟩:=k0
  obtain rfl:=g1
  obtain rfl:=k1
  exact ⟨A1,c1,rfl,l1⟩
theorem ud {w:World} {S:Nat→Prop} {x:L1CurP} {A1:Option Addr} {m1 c1:Nat} (l1:lrep w S [.slice A1 m1 c1] x.code):GoTy.rep w S [(.slice A1 m1 c1),(.int .i64 x.at_),(.int .u64 x.seed.n)] x:=⟨_,_,rfl,l1,⟨_,_,rfl,rfl,rfl⟩⟩
instance:GoTy Fiber:=GoTy.via (α:=(Int)×(Int)×(Int)×(Int)) (fun x=>(x.A,x.B,x.Length,x.Risk))
theorem uZ {w:World} {S:Nat→Prop} {cs:List Value} {x:Fiber} (h:GoTy.rep w S cs x):cs=[(.int .i64 x.A),(.int .i64 x.B),(.int .i64 x.Length),(.int .i64 x.Risk)]:=by
  obtain ⟨p0,q0,rfl,g0,k0⟩:=h
  obtain rfl:=g0
  obtain ⟨p1,q1,rfl,g1,k1⟩:=k0
  obtain rfl:=g1
  obtain ⟨p2,q2,rfl,g2,k2⟩:=k1
  obtain rfl:=g2
  obtain rfl:=k2
  exact rfl
theorem gaD {w:World} {S:Nat→Prop} {v:Value} {x:Fiber} (h:VR w S v x):v=(.agg #[(.int .i64 x.A),(.int .i64 x.B),(.int .i64 x.Length),(.int .i64 x.Risk)]):=by
  obtain ⟨cs,h,rfl⟩:=h
  obtain rfl:=uZ h
  exact rfl
theorem zr {w:World} {S:Nat→Prop} {x:Fiber}:GoTy.rep w S [(.int .i64 x.A),(.int .i64 x.B),(.int .i64 x.Length),(.int .i64 x.Risk)] x:=⟨_,_,rfl,rfl,⟨_,_,rfl,rfl,⟨_,_,rfl,rfl,rfl⟩⟩⟩
theorem xU {w:World} {S:Nat→Prop} {x:Fiber}:VR w S (.agg #[(.int .i64 x.A),(.int .i64 x.B),(.int .i64 x.Length),(.int .i64 x.Risk)]) x:=⟨_,zr,rfl⟩
instance:GoTy Network:=GoTy.via (α:=(List ByteArray)×(List Fiber)) (fun x=>(x.Nodes,x.Fibers))
theorem gds {w:World} {S:Nat→Prop} {cs:List Value} {x:Network} (h:GoTy.rep w S cs x):∃ A1 c1,∃ A2 c2,cs=[(.slice A1 x.Nodes.length c1),(.slice A2 x.Fibers.length c2)]∧lrep w S [.slice A1 x.Nodes.length c1] x.Nodes∧lrep w S [.slice A2 x.Fibers.length c2] x.Fibers:=by
  obtain ⟨p0,q0,rfl,g0,k0⟩:=h
  obtain ⟨A1,c1,rfl,l1⟩:=gaA g0
  obtain ⟨A2,c2,rfl,l2⟩:=gaA k0
  exact ⟨A1,c1,A2,c2,rfl,l1,l2⟩
theorem vA {w:World} {S:Nat→Prop} {v:Value} {x:Network} (h:VR w S v x):∃ A1 c1,∃ A2 c2,v=(.agg #[(.slice A1 x.Nodes.length c1),(.slice A2 x.Fibers.length c2)])∧lrep w S [.slice A1 x.Nodes.length c1] x.Nodes∧lrep w S [.slice A2 x.Fibers.length c2] x.Fibers:=by
  obtain ⟨cs,h,rfl⟩:=h
  obtain ⟨A1,c1,A2,c2,rfl,l1,l2⟩:=gds h
  exact ⟨A1,c1,A2,c2,rfl,l1,l2⟩
theorem ge7 {w:World} {S:Nat→Prop} {x:Network} {A1:Option Addr} {m1 c1:Nat} (l1:lrep w S [.slice A1 m1 c1] x.Nodes) {A2:Option Addr} {m2 c2:Nat} (l2:lrep w S [.slice A2 m2 c2] x.Fibers):GoTy.rep w S [(.slice A1 m1 c1),(.slice A2 m2 c2)] x:=⟨_,_,rfl,l1,l2⟩
theorem uY {w:World} {S:Nat→Prop} {x:Network} {A1:Option Addr} {m1 c1:Nat} (l1:lrep w S [.slice A1 m1 c1] x.Nodes) {A2:Option Addr} {m2 c2:Nat} (l2:lrep w S [.slice A2 m2 c2] x.Fibers):VR w S (.agg #[(.slice A1 m1 c1),(.slice A2 m2 c2)]) x:=⟨_,ge7 l1 l2,rfl⟩
theorem vw {w:World} {x:Network} {A1:Option Addr} {m1 c1:Nat} {F1:List Nat} (l1:lown w F1 [.slice A1 m1 c1] x.Nodes) {A2:Option Addr} {m2 c2:Nat} {F2:List Nat} (l2:lown w F2 [.slice A2 m2 c2] x.Fibers):GoTy.own w (F1++F2) [(.slice A1 m1 c1),(.slice A2 m2 c2)] x:=⟨_,_,F1,F2,rfl,by simp,l1,l2⟩
theorem geB {w:World} {F:List Nat} {cs:List Value} {x:Network} (h:GoTy.own w F cs x):∃ A1 c1 F1,∃ A2 c2 F2,cs=[(.slice A1 x.Nodes.length c1),(.slice A2 x.Fibers.length c2)]∧F1++(F2)=F∧lown w F1 [.slice A1 x.Nodes.length c1] x.Nodes∧lown w F2 [.slice A2 x.Fibers.length c2] x.Fibers:=by
  obtain ⟨p0,q0,X0,Y0,rfl,rfl,g0,k0⟩:=h
  obtain ⟨A1,c1,rfl,l1⟩:=gb2 g0
  obtain ⟨A2,c2,rfl,l2⟩:=gb2 k0
  exact ⟨A1,c1,_,A2,c2,_,rfl,by simp,l1,l2⟩
theorem gaf {w:World} {F:List Nat} {v:Value} {x:Network} (h:VO w F v x):∃ A1 c1 F1,∃ A2 c2 F2,v=(.agg #[(.slice A1 x.Nodes.length c1),(.slice A2 x.Fibers.length c2)])∧F1++(F2)=F∧lown w F1 [.slice A1 x.Nodes.length c1] x.Nodes∧lown w F2 [.slice A2 x.Fibers.length c2] x.Fibers:=by
  obtain ⟨cs,h,rfl⟩:=h
  obtain ⟨A1,c1,F1,A2,c2,F2,rfl,rfl,l1,l2⟩:=geB h
  exact ⟨_,_,_,_,_,_,rfl,rfl,l1,l2⟩
instance:GoTy Route:=GoTy.via (α:=(Int)×(List Int)) (fun x=>(x.Start,x.Fibers))
theorem geA {w:World} {S:Nat→Prop} {cs:List Value} {x:Route} (h:GoTy.rep w S cs x):∃ A1 c1,cs=[(.int .i64 x.Start),(.slice A1 x.Fibers.length c1)]∧lrep w S [.slice A1 x.Fibers.length c1] x.Fibers:=by
  obtain ⟨p0,q0,rfl,g0,k0⟩:=h
  obtain rfl:=g0
  obtain ⟨A1,c1,rfl,l1⟩:=gaA k0
  exact ⟨A1,c1,rfl,l1⟩
theorem yi {w:World} {S:Nat→Prop} {v:Value} {x:Route} (h:VR w S v x):∃ A1 c1,v=(.agg #[(.int .i64 x.Start),(.slice A1 x.Fibers.length c1)])∧lrep w S [.slice A1 x.Fibers.length c1] x.Fibers:=by
  obtain ⟨cs,h,rfl⟩:=h
  obtain ⟨A1,c1,rfl,l1⟩:=geA h
  exact ⟨A1,c1,rfl,l1⟩
theorem gg5 {w:World} {S:Nat→Prop} {x:Route} {A1:Option Addr} {m1 c1:Nat} (l1:lrep w S [.slice A1 m1 c1] x.Fibers):GoTy.rep w S [(.int .i64 x.Start),(.slice A1 m1 c1)] x:=⟨_,_,rfl,rfl,l1⟩
theorem xk {w:World} {S:Nat→Prop} {x:Route} {A1:Option Addr} {m1 c1:Nat} (l1:lrep w S [.slice A1 m1 c1] x.Fibers):VR w S (.agg #[(.int .i64 x.Start),(.slice A1 m1 c1)]) x:=⟨_,gg5 l1,rfl⟩
theorem xQ {w:World} {x:Route} {A1:Option Addr} {m1 c1:Nat} {F1:List Nat} (l1:lown w F1 [.slice A1 m1 c1] x.Fibers):GoTy.own w F1 [(.int .i64 x.Start),(.slice A1 m1 c1)] x:=⟨_,_,[],F1,rfl,by simp,⟨rfl,rfl⟩,l1⟩
theorem ggj {w:World} {F:List Nat} {cs:List Value} {x:Route} (h:GoTy.own w F cs x):∃ A1 c1 F1,cs=[(.int .i64 x.Start),(.slice A1 x.Fibers.length c1)]∧F1=F∧lown w F1 [.slice A1 x.Fibers.length c1] x.Fibers:=by
  obtain ⟨p0,q0,X0,Y0,rfl,rfl,g0,k0⟩:=h
  obtain ⟨rfl,rfl⟩:=g0
  obtain ⟨A1,c1,rfl,l1⟩:=gb2 k0
  exact ⟨A1,c1,_,rfl,by simp,l1⟩
theorem yT {w:World} {F:List Nat} {v:Value} {x:Route} (h:VO w F v x):∃ A1 c1 F1,v=(.agg #[(.int .i64 x.Start),(.slice A1 x.Fibers.length c1)])∧F1=F∧lown w F1 [.slice A1 x.Fibers.length c1] x.Fibers:=by
  obtain ⟨cs,h,rfl⟩:=h
  obtain ⟨A1,c1,F1,rfl,rfl,l1⟩:=ggj h
  exact ⟨_,_,_,rfl,rfl,l1⟩
instance:GoTy Block:=GoTy.via (α:=(Int)×(Int)) (fun x=>(x.First,x.Count))
theorem gc5 {w:World} {S:Nat→Prop} {cs:List Value} {x:Block} (h:GoTy.rep w S cs x):cs=[(.int .i64 x.First),(.int .i64 x.Count)]:=by
  obtain ⟨p0,q0,rfl,g0,k0⟩:=h
  obtain rfl:=g0
  obtain rfl:=k0
  exact rfl
theorem yj {w:World} {S:Nat→Prop} {v:Value} {x:Block} (h:VR w S v x):v=(.agg #[(.int .i64 x.First),(.int .i64 x.Count)]):=by
  obtain ⟨cs,h,rfl⟩:=h
  obtain rfl:=gc5 h
  exact rfl
theorem gg7 {w:World} {S:Nat→Prop} {x:Block}:GoTy.rep w S [(.int .i64 x.First),(.int .i64 x.Count)] x:=⟨_,_,rfl,rfl,rfl⟩
theorem zb {w:World} {S:Nat→Prop} {x:Block}:VR w S (.agg #[(.int .i64 x.First),(.int .i64 x.Count)]) x:=⟨_,gg7,rfl⟩
theorem ggK {w:World} {x:Block}:GoTy.own w [] [(.int .i64 x.First),(.int .i64 x.Count)] x:=⟨_,_,[],[],rfl,by simp,⟨rfl,rfl⟩,⟨rfl,rfl⟩⟩
theorem ghE {w:World} {F:List Nat} {cs:List Value} {x:Block} (h:GoTy.own w F cs x):F=[]:=by
  obtain ⟨p0,q0,X0,Y0,rfl,rfl,g0,k0⟩:=h
  obtain ⟨rfl,rfl⟩:=g0
  obtain ⟨rfl,rfl⟩:=k0
  rfl
instance:GoTy Light:=GoTy.via (α:=(Int)×(Route)×(Block)) (fun x=>(x.Id,x.Route,x.Block))
theorem uq {w:World} {S:Nat→Prop} {cs:List Value} {x:Light} (h:GoTy.rep w S cs x):∃ A1 c1,cs=[(.int .i64 x.Id),(.int .i64 x.Route.Start),(.slice A1 x.Route.Fibers.length c1),(.int .i64 x.Block.First),(.int .i64 x.Block.Count)]∧lrep w S [.slice A1 x.Route.Fibers.length c1] x.Route.Fibers:=by
  obtain ⟨p0,q0,rfl,g0,k0⟩:=h
  obtain rfl:=g0
  obtain ⟨p1,q1,rfl,g1,k1⟩:=k0
  obtain ⟨A1,c1,rfl,l1⟩:=geA g1
  obtain rfl:=gc5 k1
  exact ⟨A1,c1,rfl,l1⟩
theorem vK {w:World} {S:Nat→Prop} {v:Value} {x:Light} (h:VR w S v x):∃ A1 c1,v=(.agg #[(.int .i64 x.Id),(.int .i64 x.Route.Start),(.slice A1 x.Route.Fibers.length c1),(.int .i64 x.Block.First),(.int .i64 x.Block.Count)])∧lrep w S [.slice A1 x.Route.Fibers.length c1] x.Route.Fibers:=by
  obtain ⟨cs,h,rfl⟩:=h
  obtain ⟨A1,c1,rfl,l1⟩:=uq h
  exact ⟨A1,c1,rfl,l1⟩
theorem zq {w:World} {S:Nat→Prop} {x:Light} {A1:Option Addr} {m1 c1:Nat} (l1:lrep w S [.slice A1 m1 c1] x.Route.Fibers):GoTy.rep w S [(.int .i64 x.Id),(.int .i64 x.Route.Start),(.slice A1 m1 c1),(.int .i64 x.Block.First),(.int .i64 x.Block.Count)] x:=⟨_,_,rfl,rfl,⟨_,_,rfl,(gg5 l1),gg7⟩⟩
theorem uT {w:World} {S:Nat→Prop} {x:Light} {A1:Option Addr} {m1 c1:Nat} (l1:lrep w S [.slice A1 m1 c1] x.Route.Fibers):VR w S (.agg #[(.int .i64 x.Id),(.int .i64 x.Route.Start),(.slice A1 m1 c1),(.int .i64 x.Block.First),(.int .i64 x.Block.Count)]) x:=⟨_,zq l1,rfl⟩
theorem xR {w:World} {x:Light} {A1:Option Addr} {m1 c1:Nat} {F1:List Nat} (l1:lown w F1 [.slice A1 m1 c1] x.Route.Fibers):GoTy.own w F1 [(.int .i64 x.Id),(.int .i64 x.Route.Start),(.slice A1 m1 c1),(.int .i64 x.Block.First),(.int .i64 x.Block.Count)] x:=⟨_,_,[],F1,rfl,by simp,⟨rfl,rfl⟩,⟨_,_,F1,[],rfl,by simp,(xQ l1),(ggK)⟩⟩
theorem ggk {w:World} {F:List Nat} {cs:List Value} {x:Light} (h:GoTy.own w F cs x):∃ A1 c1 F1,cs=[(.int .i64 x.Id),(.int .i64 x.Route.Start),(.slice A1 x.Route.Fibers.length c1),(.int .i64 x.Block.First),(.int .i64 x.Block.Count)]∧F1=F∧lown w F1 [.slice A1 x.Route.Fibers.length c1] x.Route.Fibers:=by
  obtain ⟨p0,q0,X0,Y0,rfl,rfl,g0,k0⟩:=h
  obtain ⟨rfl,rfl⟩:=g0
  obtain ⟨p1,q1,X1,Y1,rfl,rfl,g1,k1⟩:=k0
  obtain ⟨A1,c1,F1,rfl,rfl,l1⟩:=ggj g1
  obtain rfl:=gc5 (GoTy.own_rep k1)
  obtain rfl:=ghE k1
  exact ⟨A1,c1,_,rfl,by simp,l1⟩
theorem ga8 {w:World} {F:List Nat} {v:Value} {x:Light} (h:VO w F v x):∃ A1 c1 F1,v=(.agg #[(.int .i64 x.Id),(.int .i64 x.Route.Start),(.slice A1 x.Route.Fibers.length c1),(.int .i64 x.Block.First),(.int .i64 x.Block.Count)])∧F1=F∧lown w F1 [.slice A1 x.Route.Fibers.length c1] x.Route.Fibers:=by
  obtain ⟨cs,h,rfl⟩:=h
  obtain ⟨A1,c1,F1,rfl,rfl,l1⟩:=ggk h
  exact ⟨_,_,_,rfl,rfl,l1⟩
instance:GoTy Plan:=GoTy.via (α:=(Network)×(List Light)) (fun x=>(x.Network,x.Lights))
theorem ghD {w:World} {S:Nat→Prop} {cs:List Value} {x:Plan} (h:GoTy.rep w S cs x):∃ A1 c1,∃ A2 c2,∃ A3 c3,cs=[(.slice A1 x.Network.Nodes.length c1),(.slice A2 x.Network.Fibers.length c2),(.slice A3 x.Lights.length c3)]∧lrep w S [.slice A1 x.Network.Nodes.length c1] x.Network.Nodes∧lrep w S [.slice A2 x.Network.Fibers.length c2] x.Network.Fibers∧lrep w S [.slice A3 x.Lights.length c3] x.Lights:=by
  obtain ⟨p0,q0,rfl,g0,k0⟩:=h
  obtain ⟨A1,c1,A2,c2,rfl,l1,l2⟩:=gds g0
  obtain ⟨A3,c3,rfl,l3⟩:=gaA k0
  exact ⟨A1,c1,A2,c2,A3,c3,rfl,l1,l2,l3⟩
theorem uD {w:World} {S:Nat→Prop} {v:Value} {x:Plan} (h:VR w S v x):∃ A1 c1,∃ A2 c2,∃ A3 c3,v=(.agg #[(.slice A1 x.Network.Nodes.length c1),(.slice A2 x.Network.Fibers.length c2),(.slice A3 x.Lights.length c3)])∧lrep w S [.slice A1 x.Network.Nodes.length c1] x.Network.Nodes∧lrep w S [.slice A2 x.Network.Fibers.length c2] x.Network.Fibers∧lrep w S [.slice A3 x.Lights.length c3] x.Lights:=by
  obtain ⟨cs,h,rfl⟩:=h
  obtain ⟨A1,c1,A2,c2,A3,c3,rfl,l1,l2,l3⟩:=ghD h
  exact ⟨A1,c1,A2,c2,A3,c3,rfl,l1,l2,l3⟩
theorem gkJ {w:World} {S:Nat→Prop} {x:Plan} {A1:Option Addr} {m1 c1:Nat} (l1:lrep w S [.slice A1 m1 c1] x.Network.Nodes) {A2:Option Addr} {m2 c2:Nat} (l2:lrep w S [.slice A2 m2 c2] x.Network.Fibers) {A3:Option Addr} {m3 c3:Nat} (l3:lrep w S [.slice A3 m3 c3] x.Lights):GoTy.rep w S [(.slice A1 m1 c1),(.slice A2 m2 c2),(.slice A3 m3 c3)] x:=⟨_,_,rfl,(ge7 l1 l2),l3⟩
theorem uj {w:World} {S:Nat→Prop} {x:Plan} {A1:Option Addr} {m1 c1:Nat} (l1:lrep w S [.slice A1 m1 c1] x.Network.Nodes) {A2:Option Addr} {m2 c2:Nat} (l2:lrep w S [.slice A2 m2 c2] x.Network.Fibers) {A3:Option Addr} {m3 c3:Nat} (l3:lrep w S [.slice A3 m3 c3] x.Lights):VR w S (.agg #[(.slice A1 m1 c1),(.slice A2 m2 c2),(.slice A3 m3 c3)]) x:=⟨_,gkJ l1 l2 l3,rfl⟩
theorem vB {w:World} {x:Plan} {A1:Option Addr} {m1 c1:Nat} {F1:List Nat} (l1:lown w F1 [.slice A1 m1 c1] x.Network.Nodes) {A2:Option Addr} {m2 c2:Nat} {F2:List Nat} (l2:lown w F2 [.slice A2 m2 c2] x.Network.Fibers) {A3:Option Addr} {m3 c3:Nat} {F3:List Nat} (l3:lown w F3 [.slice A3 m3 c3] x.Lights):GoTy.own w (F1++(F2++F3)) [(.slice A1 m1 c1),(.slice A2 m2 c2),(.slice A3 m3 c3)] x:=⟨_,_,(F1++F2),F3,rfl,by simp,(vw l1 l2),l3⟩
theorem gjK {w:World} {F:List Nat} {cs:List Value} {x:Plan} (h:GoTy.own w F cs x):∃ A1 c1 F1,∃ A2 c2 F2,∃ A3 c3 F3,cs=[(.slice A1 x.Network.Nodes.length c1),(.slice A2 x.Network.Fibers.length c2),(.slice A3 x.Lights.length c3)]∧F1++(F2++(F3))=F∧lown w F1 [.slice A1 x.Network.Nodes.length c1] x.Network.Nodes∧lown w F2 [.slice A2 x.Network.Fibers.length c2] x.Network.Fibers∧lown w F3 [.slice A3 x.Lights.length c3] x.Lights:=by
  obtain ⟨p0,q0,X0,Y0,rfl,rfl,g0,k0⟩:=h
  obtain ⟨A1,c1,F1,A2,c2,F2,rfl,rfl,l1,l2⟩:=geB g0
  obtain ⟨A3,c3,rfl,l3⟩:=gb2 k0
  exact ⟨A1,c1,_,A2,c2,_,A3,c3,_,rfl,by simp,l1,l2,l3⟩
theorem zH {w:World} {F:List Nat} {v:Value} {x:Plan} (h:VO w F v x):∃ A1 c1 F1,∃ A2 c2 F2,∃ A3 c3 F3,v=(.agg #[(.slice A1 x.Network.Nodes.length c1),(.slice A2 x.Network.Fibers.length c2),(.slice A3 x.Lights.length c3)])∧F1++(F2++(F3))=F∧lown w F1 [.slice A1 x.Network.Nodes.length c1] x.Network.Nodes∧lown w F2 [.slice A2 x.Network.Fibers.length c2] x.Network.Fibers∧lown w F3 [.slice A3 x.Lights.length c3] x.Lights:=by
  obtain ⟨cs,h,rfl⟩:=h
  obtain ⟨A1,c1,F1,A2,c2,F2,A3,c3,F3,rfl,rfl,l1,l2,l3⟩:=gjK h
  exact ⟨_,_,_,_,_,_,_,_,_,rfl,rfl,l1,l2,l3⟩
instance:GoTy Format:=GoTy.via (α:=(Int)×(Int)) (fun x=>(x.Reach,x.Rate))
instance:GoTy Restoration:=GoTy.via (α:=(Plan)×(List Light)×(List Int)) (fun x=>(x.Plan,x.Home,x.Down))
instance:GoTy L4SearchP:=GoTy.via (α:=(Network)×(Int)×(List Route)) (fun x=>(x.n,x.to,x.list))
instance:GoTy Action:=GoTy.via (α:=(Int)×(Light)) (fun x=>(x.Kind,x.Light))
theorem zI {w:World} {S:Nat→Prop} {cs:List Value} {x:Action} (h:GoTy.rep w S cs x):∃ A1 c1,cs=[(.int .i64 x.Kind),(.int .i64 x.Light.Id),(.int .i64 x.Light.Route.Start),(.slice A1 x.Light.Route.Fibers.length c1),(.int .i64 x.Light.Block.First),(.int .i64 x.Light.Block.Count)]∧lrep w S [.slice A1 x.Light.Route.Fibers.length c1] x.Light.Route.Fibers:=by
  obtain ⟨p0,q0,rfl,g0,k0⟩:=h
  obtain rfl:=g0
  obtain ⟨A1,c1,rfl,l1⟩:=uq k0
  exact ⟨A1,c1,rfl,l1⟩
theorem gc6 {w:World} {S:Nat→Prop} {v:Value} {x:Action} (h:VR w S v x):∃ A1 c1,v=(.agg #[(.int .i64 x.Kind),(.int .i64 x.Light.Id),(.int .i64 x.Light.Route.Start),(.slice A1 x.Light.Route.Fibers.length c1),(.int .i64 x.Light.Block.First),(.int .i64 x.Light.Block.Count)])∧lrep w S [.slice A1 x.Light.Route.Fibers.length c1] x.Light.Route.Fibers:=by
  obtain ⟨cs,h,rfl⟩:=h
  obtain ⟨A1,c1,rfl,l1⟩:=zI h
  exact ⟨A1,c1,rfl,l1⟩
theorem gbW {w:World} {S:Nat→Prop} {x:Action} {A1:Option Addr} {m1 c1:Nat} (l1:lrep w S [.slice A1 m1 c1] x.Light.Route.Fibers):GoTy.rep w S [(.int .i64 x.Kind),(.int .i64 x.Light.Id),(.int .i64 x.Light.Route.Start),(.slice A1 m1 c1),(.int .i64 x.Light.Block.First),(.int .i64 x.Light.Block.Count)] x:=⟨_,_,rfl,rfl,(zq l1)⟩
theorem gaE {w:World} {S:Nat→Prop} {x:Action} {A1:Option Addr} {m1 c1:Nat} (l1:lrep w S [.slice A1 m1 c1] x.Light.Route.Fibers):VR w S (.agg #[(.int .i64 x.Kind),(.int .i64 x.Light.Id),(.int .i64 x.Light.Route.Start),(.slice A1 m1 c1),(.int .i64 x.Light.Block.First),(.int .i64 x.Light.Block.Count)]) x:=⟨_,gbW l1,rfl⟩
theorem xn {w:World} {x:Action} {A1:Option Addr} {m1 c1:Nat} {F1:List Nat} (l1:lown w F1 [.slice A1 m1 c1] x.Light.Route.Fibers):GoTy.own w F1 [(.int .i64 x.Kind),(.int .i64 x.Light.Id),(.int .i64 x.Light.Route.Start),(.slice A1 m1 c1),(.int .i64 x.Light.Block.First),(.int .i64 x.Light.Block.Count)] x:=⟨_,_,[],F1,rfl,by simp,⟨rfl,rfl⟩,(xR l1)⟩
theorem ghF {w:World} {F:List Nat} {cs:List Value} {x:Action} (h:GoTy.own w F cs x):∃ A1 c1 F1,cs=[(.int .i64 x.Kind),(.int .i64 x.Light.Id),(.int .i64 x.Light.Route.Start),(.slice A1 x.Light.Route.Fibers.length c1),(.int .i64 x.Light.Block.First),(.int .i64 x.Light.Block.Count)]∧F1=F∧lown w F1 [.slice A1 x.Light.Route.Fibers.length c1] x.Light.Route.Fibers:=by
  obtain ⟨p0,q0,X0,Y0,rfl,rfl,g0,k0⟩:=h
  obtain ⟨rfl,rfl⟩:=g0
  obtain ⟨A1,c1,F1,rfl,rfl,l1⟩:=ggk k0
  exact ⟨A1,c1,_,rfl,by simp,l1⟩
theorem gi0 {w:World} {F:List Nat} {v:Value} {x:Action} (h:VO w F v x):∃ A1 c1 F1,v=(.agg #[(.int .i64 x.Kind),(.int .i64 x.Light.Id),(.int .i64 x.Light.Route.Start),(.slice A1 x.Light.Route.Fibers.length c1),(.int .i64 x.Light.Block.First),(.int .i64 x.Light.Block.Count)])∧F1=F∧lown w F1 [.slice A1 x.Light.Route.Fibers.length c1] x.Light.Route.Fibers:=by
  obtain ⟨cs,h,rfl⟩:=h
  obtain ⟨A1,c1,F1,rfl,rfl,l1⟩:=ghF h
  exact ⟨_,_,_,rfl,rfl,l1⟩
instance:GoTy L20SearchP:=GoTy.via (α:=(List Action)×(List Bool)) (fun x=>(x.list,x.failed))
instance:GoTy FiberEvent:=GoTy.via (α:=(Bool)×(List Int)) (fun x=>(x.Fail,x.Fibers))
instance:GoTy Demand:=GoTy.via (α:=(Int)×(Int)×(Int)×(Int)) (fun x=>(x.From,x.To,x.Rate,x.Class))
instance:GoTy Served:=GoTy.via (α:=(Plan)×(List Int)×(Int)) (fun x=>(x.Plan,x.Ids,x.Blocked))
instance:GoTy ChoiceP:=GoTy.via (α:=(Route)×(Int)) (fun x=>(x.route,x.count))
theorem Lens.via {N α β:Type} [GoTy α] [GoTy β] {f:N→α} {q:Nat} {get:α→β} {put:α→β→α} (h:Lens α β q get put) (g:N→β) (p:N→β→N) (hg:∀ e,g e=get (f e)) (hp:∀ e y,f (p e y)=put (f e) y):@Lens N β (GoTy.via f) _ q g p:=by
  refine @Lens.mk N β (GoTy.via f) _ q g p ?_
  intro w F cs e ho
  obtain ⟨Fa,F1,Fc,c,hF,hc,h1,h2⟩:=h.at_ (e:=f e) ho
  refine ⟨Fa,F1,Fc,c,hF,hc,by rw [hg]; exact h1,fun w1 F2 y a b d=>?_⟩
  have:=h2 w1 F2 y a b d
  rw [←hp] at this; exact this
namespace TF
theorem gdr:AI Tryz.prog 148 6 (.agg #[(.int .i64 0),(.int .i64 0),(.int .i64 0),(.slice none 0 0),(.int .i64 0),(.int .i64 0)]) 64:=by unfold AI; kernel_rfl
theorem gcd:AI Tryz.prog 180 4 (.agg #[(.int .i64 0),(.int .i64 0),(.int .i64 0),(.int .i64 0)]) 32:=by unfold AI; kernel_rfl
theorem ai3:AI Tryz.prog 3 1 (.int .i64 0) 8:=by unfold AI; kernel_rfl
theorem ai4:AI Tryz.prog 4 1 (.bool false) 1:=by unfold AI; kernel_rfl
theorem ai49:AI Tryz.prog 49 5 (.agg #[(.int .i64 0),(.int .i64 0),(.slice none 0 0),(.int .i64 0),(.int .i64 0)]) 56:=by unfold AI; kernel_rfl
theorem ai9:AI Tryz.prog 9 1 (.string ByteArray.empty) 16:=by unfold AI; kernel_rfl
theorem cl10:CL Tryz.prog 10:=fun _ _=>by kernel_rfl
theorem glu:CL Tryz.prog 100:=fun _ _=>by kernel_rfl
theorem gfu:CL Tryz.prog 101:=fun _ _=>by kernel_rfl
theorem gmw:CL Tryz.prog 102:=fun _ _=>by kernel_rfl
theorem glt:CL Tryz.prog 103:=fun _ _=>by kernel_rfl
theorem gmv:CL Tryz.prog 104:=fun _ _=>by kernel_rfl
theorem gmu:CL Tryz.prog 105:=fun _ _=>by kernel_rfl
theorem gft:CL Tryz.prog 106:=fun _ _=>by kernel_rfl
theorem gmt:CL Tryz.prog 107:=fun _ _=>by kernel_rfl
theorem gms:CL Tryz.prog 108:=fun _ _=>by kernel_rfl
theorem gmr:CL Tryz.prog 109:=fun _ _=>by kernel_rfl
theorem yJ:CL Tryz.prog 121:=fun _ _=>by kernel_rfl
theorem gmq:CL Tryz.prog 130:=fun _ _=>by kernel_rfl
theorem gmp:CL Tryz.prog 131:=fun _ _=>by kernel_rfl
theorem cl14:CL Tryz.prog 14:=fun _ _=>by kernel_rfl
theorem gjG:CL Tryz.prog 140:=fun _ _=>by kernel_rfl
theorem gkH:CL Tryz.prog 141:=fun _ _=>by kernel_rfl
theorem gcq:CL Tryz.prog 142:=fun _ _=>by kernel_rfl
theorem ggD:CL Tryz.prog 143:=fun _ _=>by kernel_rfl
theorem ghx:CL Tryz.prog 144:=fun _ _=>by kernel_rfl
theorem gmo:CL Tryz.prog 145:=fun _ _=>by kernel_rfl
theorem gey:CL Tryz.prog 153:=fun _ _=>by kernel_rfl
theorem gjF:CL Tryz.prog 154:=fun _ _=>by kernel_rfl
theorem gls:CL Tryz.prog 156:=fun _ _=>by kernel_rfl
theorem gmn:CL Tryz.prog 157:=fun _ _=>by kernel_rfl
theorem gmm:CL Tryz.prog 158:=fun _ _=>by kernel_rfl
theorem gml:CL Tryz.prog 159:=fun _ _=>by kernel_rfl
theorem ggd:CL Tryz.prog 160:=fun _ _=>by kernel_rfl
theorem gmk:CL Tryz.prog 161:=fun _ _=>by kernel_rfl
theorem gmj:CL Tryz.prog 162:=fun _ _=>by kernel_rfl
theorem gmi:CL Tryz.prog 164:=fun _ _=>by kernel_rfl
theorem gmh:CL Tryz.prog 165:=fun _ _=>by kernel_rfl
theorem gmg:CL Tryz.prog 166:=fun _ _=>by kernel_rfl
theorem glr:CL Tryz.prog 167:=fun _ _=>by kernel_rfl
theorem cl17:CL Tryz.prog 17:=fun _ _=>by kernel_rfl
theorem gmf:CL Tryz.prog 174:=fun _ _=>by kernel_rfl
theorem gjE:CL Tryz.prog 178:=fun _ _=>by kernel_rfl
theorem cl18:CL Tryz.prog 18:=fun _ _=>by kernel_rfl
theorem ggc:CL Tryz.prog 182:=fun _ _=>by kernel_rfl
theorem giP:CL Tryz.prog 184:=fun _ _=>by kernel_rfl
theorem gme:CL Tryz.prog 185:=fun _ _=>by kernel_rfl
theorem gjD:CL Tryz.prog 186:=fun _ _=>by kernel_rfl
theorem ggC:CL Tryz.prog 187:=fun _ _=>by kernel_rfl
theorem ggB:CL Tryz.prog 188:=fun _ _=>by kernel_rfl
theorem gmd:CL Tryz.prog 189:=fun _ _=>by kernel_rfl
theorem glq:CL Tryz.prog 190:=fun _ _=>by kernel_rfl
theorem giO:CL Tryz.prog 191:=fun _ _=>by kernel_rfl
theorem ghw:CL Tryz.prog 192:=fun _ _=>by kernel_rfl
theorem gmc:CL Tryz.prog 193:=fun _ _=>by kernel_rfl
theorem gmb:CL Tryz.prog 194:=fun _ _=>by kernel_rfl
theorem gma:CL Tryz.prog 195:=fun _ _=>by kernel_rfl
theorem gl9:CL Tryz.prog 196:=fun _ _=>by kernel_rfl
theorem glp:CL Tryz.prog 197:=fun _ _=>by kernel_rfl
theorem gl8:CL Tryz.prog 198:=fun _ _=>by kernel_rfl
theorem gl7:CL Tryz.prog 199:=fun _ _=>by kernel_rfl
theorem gl6:CL Tryz.prog 200:=fun _ _=>by kernel_rfl
theorem gkG:CL Tryz.prog 201:=fun _ _=>by kernel_rfl
theorem glo:CL Tryz.prog 213:=fun _ _=>by kernel_rfl
theorem gl5:CL Tryz.prog 217:=fun _ _=>by kernel_rfl
theorem gl4:CL Tryz.prog 218:=fun _ _=>by kernel_rfl
theorem gl3:CL Tryz.prog 219:=fun _ _=>by kernel_rfl
theorem gjC:CL Tryz.prog 225:=fun _ _=>by kernel_rfl
theorem gln:CL Tryz.prog 226:=fun _ _=>by kernel_rfl
theorem glm:CL Tryz.prog 227:=fun _ _=>by kernel_rfl
theorem gl2:CL Tryz.prog 228:=fun _ _=>by kernel_rfl
theorem gll:CL Tryz.prog 229:=fun _ _=>by kernel_rfl
theorem glk:CL Tryz.prog 230:=fun _ _=>by kernel_rfl
theorem gl1:CL Tryz.prog 231:=fun _ _=>by kernel_rfl
theorem glj:CL Tryz.prog 238:=fun _ _=>by kernel_rfl
theorem cl24:CL Tryz.prog 24:=fun _ _=>by kernel_rfl
theorem gl0:CL Tryz.prog 241:=fun _ _=>by kernel_rfl
theorem glZ:CL Tryz.prog 242:=fun _ _=>by kernel_rfl
theorem gli:CL Tryz.prog 247:=fun _ _=>by kernel_rfl
theorem glY:CL Tryz.prog 248:=fun _ _=>by kernel_rfl
theorem glh:CL Tryz.prog 249:=fun _ _=>by kernel_rfl
theorem gkF:CL Tryz.prog 250:=fun _ _=>by kernel_rfl
theorem glg:CL Tryz.prog 251:=fun _ _=>by kernel_rfl
theorem glX:CL Tryz.prog 252:=fun _ _=>by kernel_rfl
theorem glW:CL Tryz.prog 253:=fun _ _=>by kernel_rfl
theorem glV:CL Tryz.prog 254:=fun _ _=>by kernel_rfl
theorem glf:CL Tryz.prog 255:=fun _ _=>by kernel_rfl
theorem gle:CL Tryz.prog 256:=fun _ _=>by kernel_rfl
theorem glU:CL Tryz.prog 257:=fun _ _=>by kernel_rfl
theorem glT:CL Tryz.prog 258:=fun _ _=>by kernel_rfl
theorem glS:CL Tryz.prog 259:=fun _ _=>by kernel_rfl
theorem gld:CL Tryz.prog 260:=fun _ _=>by kernel_rfl
theorem glR:CL Tryz.prog 261:=fun _ _=>by kernel_rfl
theorem glQ:CL Tryz.prog 262:=fun _ _=>by kernel_rfl
theorem cl27:CL Tryz.prog 27:=fun _ _=>by kernel_rfl
theorem glP:CL Tryz.prog 271:=fun _ _=>by kernel_rfl
theorem glO:CL Tryz.prog 277:=fun _ _=>by kernel_rfl
theorem cl28:CL Tryz.prog 28:=fun _ _=>by kernel_rfl
theorem glN:CL Tryz.prog 281:=fun _ _=>by kernel_rfl
theorem glM:CL Tryz.prog 282:=fun _ _=>by kernel_rfl
theorem cl29:CL Tryz.prog 29:=fun _ _=>by kernel_rfl
theorem gkE:CL Tryz.prog 290:=fun _ _=>by kernel_rfl
theorem ggb:CL Tryz.prog 291:=fun _ _=>by kernel_rfl
theorem gjB:CL Tryz.prog 292:=fun _ _=>by kernel_rfl
theorem ghv:CL Tryz.prog 293:=fun _ _=>by kernel_rfl
theorem cl30:CL Tryz.prog 30:=fun _ _=>by kernel_rfl
theorem glL:CL Tryz.prog 302:=fun _ _=>by kernel_rfl
theorem glK:CL Tryz.prog 304:=fun _ _=>by kernel_rfl
theorem glJ:CL Tryz.prog 305:=fun _ _=>by kernel_rfl
theorem glc:CL Tryz.prog 306:=fun _ _=>by kernel_rfl
theorem glI:CL Tryz.prog 307:=fun _ _=>by kernel_rfl
theorem glH:CL Tryz.prog 308:=fun _ _=>by kernel_rfl
theorem cl31:CL Tryz.prog 31:=fun _ _=>by kernel_rfl
theorem cl32:CL Tryz.prog 32:=fun _ _=>by kernel_rfl
theorem cl33:CL Tryz.prog 33:=fun _ _=>by kernel_rfl
theorem glG:CL Tryz.prog 337:=fun _ _=>by kernel_rfl
theorem glF:CL Tryz.prog 338:=fun _ _=>by kernel_rfl
theorem cl56:CL Tryz.prog 56:=fun _ _=>by kernel_rfl
theorem cl64:CL Tryz.prog 64:=fun _ _=>by kernel_rfl
theorem cl65:CL Tryz.prog 65:=fun _ _=>by kernel_rfl
theorem cl66:CL Tryz.prog 66:=fun _ _=>by kernel_rfl
theorem cl69:CL Tryz.prog 69:=fun _ _=>by kernel_rfl
theorem cl72:CL Tryz.prog 72:=fun _ _=>by kernel_rfl
theorem cl73:CL Tryz.prog 73:=fun _ _=>by kernel_rfl
theorem cl74:CL Tryz.prog 74:=fun _ _=>by kernel_rfl
theorem cl75:CL Tryz.prog 75:=fun _ _=>by kernel_rfl
theorem cl76:CL Tryz.prog 76:=fun _ _=>by kernel_rfl
theorem cl77:CL Tryz.prog 77:=fun _ _=>by kernel_rfl
theorem cl84:CL Tryz.prog 84:=fun _ _=>by kernel_rfl
theorem cl90:CL Tryz.prog 90:=fun _ _=>by kernel_rfl
theorem cl92:CL Tryz.prog 92:=fun _ _=>by kernel_rfl
theorem cl96:CL Tryz.prog 96:=fun _ _=>by kernel_rfl
theorem cl98:CL Tryz.prog 98:=fun _ _=>by kernel_rfl
theorem cl99:CL Tryz.prog 99:=fun _ _=>by kernel_rfl
theorem gck:LA Tryz.prog 148 6:=fun _ _=>by kernel_rfl
theorem gas:LA Tryz.prog 180 4:=fun _ _=>by kernel_rfl
theorem la27:LA Tryz.prog 27 2:=fun _ _=>by kernel_rfl
theorem la30:LA Tryz.prog 30 3:=fun _ _=>by kernel_rfl
theorem la45:LA Tryz.prog 45 2:=fun _ _=>by kernel_rfl
theorem la47:LA Tryz.prog 47 2:=fun _ _=>by kernel_rfl
theorem la49:LA Tryz.prog 49 5:=fun _ _=>by kernel_rfl
theorem gjl:LS Tryz.prog 107:=fun _ _=>by kernel_rfl
theorem gk9:LS Tryz.prog 143:=fun _ _=>by kernel_rfl
theorem ls22:LS Tryz.prog 22:=fun _ _=>by kernel_rfl
theorem ls24:LS Tryz.prog 24:=fun _ _=>by kernel_rfl
theorem ls25:LS Tryz.prog 25:=fun _ _=>by kernel_rfl
theorem ls28:LS Tryz.prog 28:=fun _ _=>by kernel_rfl
theorem ls3:LS Tryz.prog 3:=fun _ _=>by kernel_rfl
theorem ls35:LS Tryz.prog 35:=fun _ _=>by kernel_rfl
theorem ls4:LS Tryz.prog 4:=fun _ _=>by kernel_rfl
theorem ls5:LS Tryz.prog 5:=fun _ _=>by kernel_rfl
theorem ls70:LS Tryz.prog 70:=fun _ _=>by kernel_rfl
theorem ls9:LS Tryz.prog 9:=fun _ _=>by kernel_rfl
theorem pt3:PT Tryz.prog 3:=fun _=>⟨by kernel_rfl,by kernel_rfl⟩
theorem ggt:EQT Tryz.prog 180 4 3:=⟨by kernel_rfl,by kernel_rfl,by kernel_rfl,by kernel_rfl,by kernel_rfl,pt3,⟨_,Tryz.underlying3⟩⟩
theorem ggU:EQT Tryz.prog 47 2 3:=⟨by kernel_rfl,by kernel_rfl,by kernel_rfl,by kernel_rfl,by kernel_rfl,pt3,⟨_,Tryz.underlying3⟩⟩
theorem gkL:SZ Tryz.prog 107 1:=fun _=>by kernel_rfl
theorem gce:SZ Tryz.prog 148 6:=fun _=>by kernel_rfl
theorem zc:SZ Tryz.prog 180 4:=fun _=>by kernel_rfl
theorem sz24:SZ Tryz.prog 24 1:=fun _=>by kernel_rfl
theorem sz25:SZ Tryz.prog 25 1:=fun _=>by kernel_rfl
theorem sz27:SZ Tryz.prog 27 2:=fun _=>by kernel_rfl
theorem sz28:SZ Tryz.prog 28 1:=fun _=>by kernel_rfl
theorem sz3:SZ Tryz.prog 3 1:=fun _=>by kernel_rfl
theorem sz30:SZ Tryz.prog 30 3:=fun _=>by kernel_rfl
theorem sz35:SZ Tryz.prog 35 1:=fun _=>by kernel_rfl
theorem sz4:SZ Tryz.prog 4 1:=fun _=>by kernel_rfl
theorem sz45:SZ Tryz.prog 45 2:=fun _=>by kernel_rfl
theorem sz47:SZ Tryz.prog 47 2:=fun _=>by kernel_rfl
theorem sz49:SZ Tryz.prog 49 5:=fun _=>by kernel_rfl
theorem sz5:SZ Tryz.prog 5 1:=fun _=>by kernel_rfl
theorem sz70:SZ Tryz.prog 70 1:=fun _=>by kernel_rfl
theorem sz9:SZ Tryz.prog 9 1:=fun _=>by kernel_rfl
theorem ghG:ZV Tryz.prog 148 (.agg #[(.int .i64 0),(.int .i64 0),(.int .i64 0),(.slice none 0 0),(.int .i64 0),(.int .i64 0)]):=fun _=>by kernel_rfl
theorem gj2:ZV Tryz.prog 180 (.agg #[(.int .i64 0),(.int .i64 0),(.int .i64 0),(.int .i64 0)]):=fun _=>by kernel_rfl
theorem zv27:ZV Tryz.prog 27 (.agg #[(.slice none 0 0),(.slice none 0 0)]):=fun _=>by kernel_rfl
theorem zv30:ZV Tryz.prog 30 (.agg #[(.slice none 0 0),(.slice none 0 0),(.slice none 0 0)]):=fun _=>by kernel_rfl
theorem zv4:ZV Tryz.prog 4 (.bool false):=fun _=>by kernel_rfl
theorem zv45:ZV Tryz.prog 45 (.agg #[(.int .i64 0),(.slice none 0 0)]):=fun _=>by kernel_rfl
theorem zv47:ZV Tryz.prog 47 (.agg #[(.int .i64 0),(.int .i64 0)]):=fun _=>by kernel_rfl
theorem zv49:ZV Tryz.prog 49 (.agg #[(.int .i64 0),(.int .i64 0),(.slice none 0 0),(.int .i64 0),(.int .i64 0)]):=fun _=>by kernel_rfl
end TF
def tab:Tab:=⟨[22,24,25,28,31,32,35,70,75,78,87,213,228,230,246,318],[4],[9],[(27,0,0),(27,1,1),(30,0,0),(30,1,2),(37,0,0),(37,1,3),(37,2,4),(45,0,0),(45,1,1),(47,0,0),(47,1,1),(49,0,0),(49,1,1),(49,2,3),(51,0,0),(51,1,1),(51,2,2),(51,3,3),(60,0,0),(60,1,3),(60,2,4),(77,0,0),(77,1,1),(80,0,0),(80,1,2),(94,0,0),(94,1,1),(109,0,0),(109,1,1),(109,2,2),(145,0,0),(145,1,1),(148,0,0),(148,1,1),(180,0,0),(180,1,1),(180,2,2),(180,3,3),(182,0,0),(182,1,1),(198,0,0),(198,1,2),(218,0,0),(218,1,1),(219,0,0),(219,1,1),(221,0,0),(221,1,1),(221,2,3),(261,0,0),(261,1,1),(261,2,2),(261,3,3),(322,0,0),(322,1,2),(322,2,3)]⟩
theorem gfo:∀ {l:List Nat} {x:Nat},inl l x=true→x∈l
  | y::r,x,h=>by
    unfold inl at h
    cases hb:Nat.beq y x <;> rw [hb] at h
    · exact List.mem_cons_of_mem _ (gfo h)
    · rw [Nat.eq_of_beq_eq_true hb]; exact List.mem_cons_self
theorem gg1:∀ {l:List (TypeId×Nat×Nat)} {t f o:Nat},foff l t f=some o→(t,f,o)∈l
  | (t',f',o')::r,t,f,o,h=>by
    unfold foff at h
    cases hb:(Nat.beq t' t&&Nat.beq f' f) <;> rw [hb] at h
    · exact List.mem_cons_of_mem _ (gg1 h)
    · simp only [Bool.and_eq_true] at hb
      injection h with h
      rw [Nat.eq_of_beq_eq_true hb.1,Nat.eq_of_beq_eq_true hb.2,h]; exact List.mem_cons_self
theorem tabOk:TabOk Tryz.prog tab where
  sl:=fun T h=>by
    have h:=gfo h
    simp only [tab,List.mem_cons,List.not_mem_nil,or_false] at h
    rcases h with rfl | rfl | rfl | rfl | rfl | rfl | rfl | rfl | rfl | rfl | rfl | rfl | rfl | rfl | rfl | rfl
    · exact ⟨_,Tryz.underlying22⟩
    · exact ⟨_,Tryz.underlying24⟩
    · exact ⟨_,Tryz.underlying25⟩
    · exact ⟨_,Tryz.underlying28⟩
    · exact ⟨_,Tryz.underlying31⟩
    · exact ⟨_,Tryz.underlying32⟩
    · exact ⟨_,Tryz.underlying35⟩
    · exact ⟨_,Tryz.underlying70⟩
    · exact ⟨_,Tryz.underlying75⟩
    · exact ⟨_,Tryz.underlying78⟩
    · exact ⟨_,Tryz.underlying87⟩
    · exact ⟨_,Tryz.underlying213⟩
    · exact ⟨_,Tryz.underlying228⟩
    · exact ⟨_,Tryz.underlying230⟩
    · exact ⟨_,Tryz.underlying246⟩
    · exact ⟨_,Tryz.underlying318⟩
  bo:=fun T h=>by
    have h:=gfo h
    simp only [tab,List.mem_cons,List.not_mem_nil,or_false] at h
    rcases h with rfl
    · exact Tryz.underlying4
  st:=fun T h=>by
    have h:=gfo h
    simp only [tab,List.mem_cons,List.not_mem_nil,or_false] at h
    rcases h with rfl
    · exact Tryz.underlying9
  fa:=fun T f o h=>by
    have h:=gg1 h
    simp only [tab,List.mem_cons,List.not_mem_nil,or_false,Prod.mk.injEq] at h
    rcases h with ⟨rfl,rfl,rfl⟩ | ⟨rfl,rfl,rfl⟩ | ⟨rfl,rfl,rfl⟩ | ⟨rfl,rfl,rfl⟩ | ⟨rfl,rfl,rfl⟩ | ⟨rfl,rfl,rfl⟩ | ⟨rfl,rfl,rfl⟩ | ⟨rfl,rfl,rfl⟩ | ⟨rfl,rfl,rfl⟩ | ⟨rfl,rfl,rfl⟩ | ⟨rfl,rfl,rfl⟩ | ⟨rfl,rfl,rfl⟩ | ⟨rfl,rfl,rfl⟩ | ⟨rfl,rfl,rfl⟩ | ⟨rfl,rfl,rfl⟩ | ⟨rfl,rfl,rfl⟩ | ⟨rfl,rfl,rfl⟩ | ⟨rfl,rfl,rfl⟩ | ⟨rfl,rfl,rfl⟩ | ⟨rfl,rfl,rfl⟩ | ⟨rfl,rfl,rfl⟩ | ⟨rfl,rfl,rfl⟩ | ⟨rfl,rfl,rfl⟩ | ⟨rfl,rfl,rfl⟩ | ⟨rfl,rfl,rfl⟩ | ⟨rfl,rfl,rfl⟩ | ⟨rfl,rfl,rfl⟩ | ⟨rfl,rfl,rfl⟩ | ⟨rfl,rfl,rfl⟩ | ⟨rfl,rfl,rfl⟩ | ⟨rfl,rfl,rfl⟩ | ⟨rfl,rfl,rfl⟩ | ⟨rfl,rfl,rfl⟩ | ⟨rfl,rfl,rfl⟩ | ⟨rfl,rfl,rfl⟩ | ⟨rfl,rfl,rfl⟩ | ⟨rfl,rfl,rfl⟩ | ⟨rfl,rfl,rfl⟩ | ⟨rfl,rfl,rfl⟩ | ⟨rfl,rfl,rfl⟩ | ⟨rfl,rfl,rfl⟩ | ⟨rfl,rfl,rfl⟩ | ⟨rfl,rfl,rfl⟩ | ⟨rfl,rfl,rfl⟩ | ⟨rfl,rfl,rfl⟩ | ⟨rfl,rfl,rfl⟩ | ⟨rfl,rfl,rfl⟩ | ⟨rfl,rfl,rfl⟩ | ⟨rfl,rfl,rfl⟩ | ⟨rfl,rfl,rfl⟩ | ⟨rfl,rfl,rfl⟩ | ⟨rfl,rfl,rfl⟩ | ⟨rfl,rfl,rfl⟩ | ⟨rfl,rfl,rfl⟩ | ⟨rfl,rfl,rfl⟩ | ⟨rfl,rfl,rfl⟩
    · exact fun _ _=>by kernel_rfl
    · exact fun _ _=>by kernel_rfl
    · exact fun _ _=>by kernel_rfl
    · exact fun _ _=>by kernel_rfl
    · exact fun _ _=>by kernel_rfl
    · exact fun _ _=>by kernel_rfl
    · exact fun _ _=>by kernel_rfl
    · exact fun _ _=>by kernel_rfl
    · exact fun _ _=>by kernel_rfl
    · exact fun _ _=>by kernel_rfl
    · exact fun _ _=>by kernel_rfl
    · exact fun _ _=>by kernel_rfl
    · exact fun _ _=>by kernel_rfl
    · exact fun _ _=>by kernel_rfl
    · exact fun _ _=>by kernel_rfl
    · exact fun _ _=>by kernel_rfl
    · exact fun _ _=>by kernel_rfl
    · exact fun _ _=>by kernel_rfl
    · exact fun _ _=>by kernel_rfl
    · exact fun _ _=>by kernel_rfl
    · exact fun _ _=>by kernel_rfl
    · exact fun _ _=>by kernel_rfl
    · exact fun _ _=>by kernel_rfl
    · exact fun _ _=>by kernel_rfl
    · exact fun _ _=>by kernel_rfl
    · exact fun _ _=>by kernel_rfl
    · exact fun _ _=>by kernel_rfl
    · exact fun _ _=>by kernel_rfl
    · exact fun _ _=>by kernel_rfl
    · exact fun _ _=>by kernel_rfl
    · exact fun _ _=>by kernel_rfl
    · exact fun _ _=>by kernel_rfl
    · exact fun _ _=>by kernel_rfl
    · exact fun _ _=>by kernel_rfl
    · exact fun _ _=>by kernel_rfl
    · exact fun _ _=>by kernel_rfl
    · exact fun _ _=>by kernel_rfl
    · exact fun _ _=>by kernel_rfl
    · exact fun _ _=>by kernel_rfl
    · exact fun _ _=>by kernel_rfl
    · exact fun _ _=>by kernel_rfl
    · exact fun _ _=>by kernel_rfl
    · exact fun _ _=>by kernel_rfl
    · exact fun _ _=>by kernel_rfl
    · exact fun _ _=>by kernel_rfl
    · exact fun _ _=>by kernel_rfl
    · exact fun _ _=>by kernel_rfl
    · exact fun _ _=>by kernel_rfl
    · exact fun _ _=>by kernel_rfl
    · exact fun _ _=>by kernel_rfl
    · exact fun _ _=>by kernel_rfl
    · exact fun _ _=>by kernel_rfl
    · exact fun _ _=>by kernel_rfl
    · exact fun _ _=>by kernel_rfl
    · exact fun _ _=>by kernel_rfl
    · exact fun _ _=>by kernel_rfl
section
variable {Q:Exit→Act→World→Prop} {w:World} {n:Nat}
theorem pr {ops:List Oper} (k:Nat) {L:List (Nat×Value)} {l:List Oper} {L':List (Nat×Value)} {l':List Oper} {a:Act} (hf:Fr a n L) (hd:ghr n l=true) (h:pRun tab ops k L l=(L',l')) (hk:∀ a',Fr a' n L'→wpList Tryz.prog ops.toArray Q l' a' w):wpList Tryz.prog ops.toArray Q l a w:=gkk tabOk k L l hf hd h hk
variable {S0:World→Prop} {B:List Nat} {bs:List Bool} {a:Act} {fuel d:Nat} {L:List (Nat×Value)} {Mid:Act→World→Prop} {op:Op} {v:Value} {l:List Oper} {t:TypeId} {ps:String} {af:Array Edge}
theorem tp (i:Nat) (hi:l[i]?=some ⟨some d,op,t,ps,af,none⟩) (hdn:Nat.ble (d + 1) n=true) (hf:Fr a n L) (hc:takeB l bs i [] B=true) (hS:nb B bs.toArray=true→S0 w) (hv:pOp tab L op=some v) (h:∀ a',Fr a' n ((d,v)::L)→DL Tryz.prog l Mid S0 B fuel (bs.set i true) a' w):DL Tryz.prog l Mid S0 B (fuel + 1) bs a w:=tP i hi rfl rfl hdn hf hc hS (fun _=>gfP tabOk hf hv) h
theorem tpg (i:Nat) {j e:Nat} {b:Bool} (hi:l[i]?=some ⟨some d,op,t,ps,af,some (j,b)⟩) (hj:(l[j]?).bind (·.dst)=some e) (hb:lk L e=some (.bool b)) (hdn:Nat.ble (d + 1) n=true) (hf:Fr a n L) (hc:takeB l bs i [] B=true) (hS:nb B bs.toArray=true→S0 w) (hv:pOp tab L op=some v) (h:∀ a',Fr a' n ((d,v)::L)→DL Tryz.prog l Mid S0 B fuel (bs.set i true) a' w):DL Tryz.prog l Mid S0 B (fuel + 1) bs a w:=tPg i hi rfl rfl hj hb hdn hf hc hS (fun _=>gfP tabOk hf hv) h
end
end AT
