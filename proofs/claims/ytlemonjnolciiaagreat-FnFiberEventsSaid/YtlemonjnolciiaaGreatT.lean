/- The types and closed facts on the program, by program (gen.py). -/
import Derived.Test.YtlemonjnolciiaaGreatAtPS
import Derived.Test.YtlemonjnolciiaaGreatF
import Derived.Test.YtlemonjnolciiaaGreatRows
set_option linter.unusedVariables false
set_option maxRecDepth 100000
namespace AT
open Go Go.RowKit Go.Proofs
instance:GoTy Pz:=GoTy.via (α:=(List By)×(Int)×(U64)) (λx=>(x.code,x.at_,x.seed))
variable {S:Nat→Prop}
theorem ue {w:World} {cs:List Value} {x:Pz} (h:GoTy.rep w S cs x):∃A1 c1,cs=[(.slice A1 x.code.length c1),(.int .i64 x.at_),(.int .u64 x.seed.n)]∧lrep w S [.slice A1 x.code.length c1] x.code:=by
  obtain⟨p0,q0,rfl,g0,k0⟩:=h
  obtain⟨A1,c1,rfl,l1⟩:=zd g0
  obtain⟨p1,q1,rfl,g1,k1⟩:=k0
  obtain rfl:=g1
  obtain rfl:=k1
  exact⟨A1,c1,rfl,l1⟩
theorem ug {w:World} {x:Pz} {A1:Option Addr} {m1 c1:Nat} (l1:lrep w S [.slice A1 m1 c1] x.code):GoTy.rep w S [(.slice A1 m1 c1),(.int .i64 x.at_),(.int .u64 x.seed.n)] x:=⟨_,_,rfl,l1,⟨_,_,rfl,rfl,rfl⟩⟩
instance:GoTy Nt:=GoTy.via (α:=(Int)×(Int)×(Int)×(Int)) (λx=>(x.A,x.B,x.Pk,x.Pd))
variable {w:World} {x:Nt}
theorem vd {cs:List Value} (h:GoTy.rep w S cs x):cs=[(.int .i64 x.A),(.int .i64 x.B),(.int .i64 x.Pk),(.int .i64 x.Pd)]:=by
  obtain⟨p0,q0,rfl,g0,k0⟩:=h
  obtain rfl:=g0
  obtain⟨p1,q1,rfl,g1,k1⟩:=k0
  obtain rfl:=g1
  obtain⟨p2,q2,rfl,g2,k2⟩:=k1
  obtain rfl:=g2
  obtain rfl:=k2
  exact rfl
theorem cV {v:Value} (h:VR w S v x):v=(.agg #[(.int .i64 x.A),(.int .i64 x.B),(.int .i64 x.Pk),(.int .i64 x.Pd)]):=by
  obtain⟨cs,h,rfl⟩:=h
  obtain rfl:=vd h
  exact rfl
theorem aI:GoTy.rep w S [(.int .i64 x.A),(.int .i64 x.B),(.int .i64 x.Pk),(.int .i64 x.Pd)] x:=⟨_,_,rfl,rfl,⟨_,_,rfl,rfl,⟨_,_,rfl,rfl,rfl⟩⟩⟩
theorem yx:VR w S (.agg #[(.int .i64 x.A),(.int .i64 x.B),(.int .i64 x.Pk),(.int .i64 x.Pd)]) x:=⟨_,aI,rfl⟩
instance:GoTy Nq:=GoTy.via (α:=(List ByteArray)×(List Nt)) (λx=>(x.Nx,x.Nw))
variable {cs:List Value} {A1:Option Addr} {m1 c1:Nat} {F:List Nat}
theorem xX {x:Nq} (h:GoTy.rep w S cs x):∃A1 c1,∃A2 c2,cs=[(.slice A1 x.Nx.length c1),(.slice A2 x.Nw.length c2)]∧lrep w S [.slice A1 x.Nx.length c1] x.Nx∧lrep w S [.slice A2 x.Nw.length c2] x.Nw:=by
  obtain⟨p0,q0,rfl,g0,k0⟩:=h
  obtain⟨A1,c1,rfl,l1⟩:=zd g0
  obtain⟨A2,c2,rfl,l2⟩:=zd k0
  exact⟨A1,c1,A2,c2,rfl,l1,l2⟩
theorem uS {v:Value} {x:Nq} (h:VR w S v x):∃A1 c1,∃A2 c2,v=(.agg #[(.slice A1 x.Nx.length c1),(.slice A2 x.Nw.length c2)])∧lrep w S [.slice A1 x.Nx.length c1] x.Nx∧lrep w S [.slice A2 x.Nw.length c2] x.Nw:=by
  obtain⟨cs,h,rfl⟩:=h
  obtain⟨A1,c1,A2,c2,rfl,l1,l2⟩:=xX h
  exact⟨A1,c1,A2,c2,rfl,l1,l2⟩
theorem yB {x:Nq} (l1:lrep w S [.slice A1 m1 c1] x.Nx) {A2:Option Addr} {m2 c2:Nat} (l2:lrep w S [.slice A2 m2 c2] x.Nw):GoTy.rep w S [(.slice A1 m1 c1),(.slice A2 m2 c2)] x:=⟨_,_,rfl,l1,l2⟩
theorem uE {x:Nq} (l1:lrep w S [.slice A1 m1 c1] x.Nx) {A2:Option Addr} {m2 c2:Nat} (l2:lrep w S [.slice A2 m2 c2] x.Nw):VR w S (.agg #[(.slice A1 m1 c1),(.slice A2 m2 c2)]) x:=⟨_,yB l1 l2,rfl⟩
theorem vL {x:Nq} {F1:List Nat} (l1:lown w F1 [.slice A1 m1 c1] x.Nx) {A2:Option Addr} {m2 c2:Nat} {F2:List Nat} (l2:lown w F2 [.slice A2 m2 c2] x.Nw):GoTy.own w (F1++F2) [(.slice A1 m1 c1),(.slice A2 m2 c2)] x:=⟨_,_,F1,F2,rfl,by simp,l1,l2⟩
theorem ku {x:Nq} (h:GoTy.own w F cs x):∃A1 c1 F1,∃A2 c2 F2,cs=[(.slice A1 x.Nx.length c1),(.slice A2 x.Nw.length c2)]∧F1++(F2)=F∧lown w F1 [.slice A1 x.Nx.length c1] x.Nx∧lown w F2 [.slice A2 x.Nw.length c2] x.Nw:=by
  obtain⟨p0,q0,X0,Y0,rfl,rfl,g0,k0⟩:=h
  obtain⟨A1,c1,rfl,l1⟩:=aY g0
  obtain⟨A2,c2,rfl,l2⟩:=aY k0
  exact⟨A1,c1,_,A2,c2,_,rfl,by simp,l1,l2⟩
theorem dQ {v:Value} {x:Nq} (h:VO w F v x):∃A1 c1 F1,∃A2 c2 F2,v=(.agg #[(.slice A1 x.Nx.length c1),(.slice A2 x.Nw.length c2)])∧F1++(F2)=F∧lown w F1 [.slice A1 x.Nx.length c1] x.Nx∧lown w F2 [.slice A2 x.Nw.length c2] x.Nw:=by
  obtain⟨cs,h,rfl⟩:=h
  obtain⟨A1,c1,F1,A2,c2,F2,rfl,rfl,l1,l2⟩:=ku h
  exact⟨_,_,_,_,_,_,rfl,rfl,l1,l2⟩
instance:GoTy Nv:=GoTy.via (α:=(Int)×(List Int)) (λx=>(x.Pq,x.Nw))
theorem bZ {x:Nv} (h:GoTy.rep w S cs x):∃A1 c1,cs=[(.int .i64 x.Pq),(.slice A1 x.Nw.length c1)]∧lrep w S [.slice A1 x.Nw.length c1] x.Nw:=by
  obtain⟨p0,q0,rfl,g0,k0⟩:=h
  obtain rfl:=g0
  obtain⟨A1,c1,rfl,l1⟩:=zd k0
  exact⟨A1,c1,rfl,l1⟩
theorem vP {v:Value} {x:Nv} (h:VR w S v x):∃A1 c1,v=(.agg #[(.int .i64 x.Pq),(.slice A1 x.Nw.length c1)])∧lrep w S [.slice A1 x.Nw.length c1] x.Nw:=by
  obtain⟨cs,h,rfl⟩:=h
  obtain⟨A1,c1,rfl,l1⟩:=bZ h
  exact⟨A1,c1,rfl,l1⟩
theorem iG {x:Nv} (l1:lrep w S [.slice A1 m1 c1] x.Nw):GoTy.rep w S [(.int .i64 x.Pq),(.slice A1 m1 c1)] x:=⟨_,_,rfl,rfl,l1⟩
theorem uK {x:Nv} (l1:lrep w S [.slice A1 m1 c1] x.Nw):VR w S (.agg #[(.int .i64 x.Pq),(.slice A1 m1 c1)]) x:=⟨_,iG l1,rfl⟩
theorem yi {x:Nv} {F1:List Nat} (l1:lown w F1 [.slice A1 m1 c1] x.Nw):GoTy.own w F1 [(.int .i64 x.Pq),(.slice A1 m1 c1)] x:=⟨_,_,[],F1,rfl,by simp,⟨rfl,rfl⟩,l1⟩
theorem nF {x:Nv} (h:GoTy.own w F cs x):∃A1 c1 F1,cs=[(.int .i64 x.Pq),(.slice A1 x.Nw.length c1)]∧F1=F∧lown w F1 [.slice A1 x.Nw.length c1] x.Nw:=by
  obtain⟨p0,q0,X0,Y0,rfl,rfl,g0,k0⟩:=h
  obtain⟨rfl,rfl⟩:=g0
  obtain⟨A1,c1,rfl,l1⟩:=aY k0
  exact⟨A1,c1,_,rfl,by simp,l1⟩
theorem dI {v:Value} {x:Nv} (h:VO w F v x):∃A1 c1 F1,v=(.agg #[(.int .i64 x.Pq),(.slice A1 x.Nw.length c1)])∧F1=F∧lown w F1 [.slice A1 x.Nw.length c1] x.Nw:=by
  obtain⟨cs,h,rfl⟩:=h
  obtain⟨A1,c1,F1,rfl,rfl,l1⟩:=nF h
  exact⟨_,_,_,rfl,rfl,l1⟩
instance:GoTy Nd:=GoTy.via (α:=(Int)×(Int)) (λx=>(x.Pj,x.Px))
theorem gZ {x:Nd} (h:GoTy.rep w S cs x):cs=[(.int .i64 x.Pj),(.int .i64 x.Px)]:=by
  obtain⟨p0,q0,rfl,g0,k0⟩:=h
  obtain rfl:=g0
  obtain rfl:=k0
  exact rfl
theorem cn {v:Value} {x:Nd} (h:VR w S v x):v=(.agg #[(.int .i64 x.Pj),(.int .i64 x.Px)]):=by
  obtain⟨cs,h,rfl⟩:=h
  obtain rfl:=gZ h
  exact rfl
theorem pG {x:Nd}:GoTy.rep w S [(.int .i64 x.Pj),(.int .i64 x.Px)] x:=⟨_,_,rfl,rfl,rfl⟩
theorem yy {x:Nd}:VR w S (.agg #[(.int .i64 x.Pj),(.int .i64 x.Px)]) x:=⟨_,pG,rfl⟩
theorem oH {x:Nd}:GoTy.own w [] [(.int .i64 x.Pj),(.int .i64 x.Px)] x:=⟨_,_,[],[],rfl,by simp,⟨rfl,rfl⟩,⟨rfl,rfl⟩⟩
theorem qB {x:Nd} (h:GoTy.own w F cs x):F=[]:=by
  obtain⟨p0,q0,X0,Y0,rfl,rfl,g0,k0⟩:=h
  obtain⟨rfl,rfl⟩:=g0
  obtain⟨rfl,rfl⟩:=k0
  rfl
instance:GoTy Nh:=GoTy.via (α:=(Int)×(Nv)×(Nd)) (λx=>(x.Id,x.Nv,x.Nd))
theorem uw {x:Nh} (h:GoTy.rep w S cs x):∃A1 c1,cs=[(.int .i64 x.Id),(.int .i64 x.Nv.Pq),(.slice A1 x.Nv.Nw.length c1),(.int .i64 x.Nd.Pj),(.int .i64 x.Nd.Px)]∧lrep w S [.slice A1 x.Nv.Nw.length c1] x.Nv.Nw:=by
  obtain⟨p0,q0,rfl,g0,k0⟩:=h
  obtain rfl:=g0
  obtain⟨p1,q1,rfl,g1,k1⟩:=k0
  obtain⟨A1,c1,rfl,l1⟩:=bZ g1
  obtain rfl:=gZ k1
  exact⟨A1,c1,rfl,l1⟩
theorem xt {v:Value} {x:Nh} (h:VR w S v x):∃A1 c1,v=(.agg #[(.int .i64 x.Id),(.int .i64 x.Nv.Pq),(.slice A1 x.Nv.Nw.length c1),(.int .i64 x.Nd.Pj),(.int .i64 x.Nd.Px)])∧lrep w S [.slice A1 x.Nv.Nw.length c1] x.Nv.Nw:=by
  obtain⟨cs,h,rfl⟩:=h
  obtain⟨A1,c1,rfl,l1⟩:=uw h
  exact⟨A1,c1,rfl,l1⟩
theorem ac {x:Nh} (l1:lrep w S [.slice A1 m1 c1] x.Nv.Nw):GoTy.rep w S [(.int .i64 x.Id),(.int .i64 x.Nv.Pq),(.slice A1 m1 c1),(.int .i64 x.Nd.Pj),(.int .i64 x.Nd.Px)] x:=⟨_,_,rfl,rfl,⟨_,_,rfl,(iG l1),pG⟩⟩
theorem vo {x:Nh} (l1:lrep w S [.slice A1 m1 c1] x.Nv.Nw):VR w S (.agg #[(.int .i64 x.Id),(.int .i64 x.Nv.Pq),(.slice A1 m1 c1),(.int .i64 x.Nd.Pj),(.int .i64 x.Nd.Px)]) x:=⟨_,ac l1,rfl⟩
theorem z8 {x:Nh} {F1:List Nat} (l1:lown w F1 [.slice A1 m1 c1] x.Nv.Nw):GoTy.own w F1 [(.int .i64 x.Id),(.int .i64 x.Nv.Pq),(.slice A1 m1 c1),(.int .i64 x.Nd.Pj),(.int .i64 x.Nd.Px)] x:=⟨_,_,[],F1,rfl,by simp,⟨rfl,rfl⟩,⟨_,_,F1,[],rfl,by simp,(yi l1),(oH)⟩⟩
theorem sG {x:Nh} (h:GoTy.own w F cs x):∃A1 c1 F1,cs=[(.int .i64 x.Id),(.int .i64 x.Nv.Pq),(.slice A1 x.Nv.Nw.length c1),(.int .i64 x.Nd.Pj),(.int .i64 x.Nd.Px)]∧F1=F∧lown w F1 [.slice A1 x.Nv.Nw.length c1] x.Nv.Nw:=by
  obtain⟨p0,q0,X0,Y0,rfl,rfl,g0,k0⟩:=h
  obtain⟨rfl,rfl⟩:=g0
  obtain⟨p1,q1,X1,Y1,rfl,rfl,g1,k1⟩:=k0
  obtain⟨A1,c1,F1,rfl,rfl,l1⟩:=nF g1
  obtain rfl:=gZ (GoTy.own_rep k1)
  obtain rfl:=qB k1
  exact⟨A1,c1,_,rfl,by simp,l1⟩
theorem ft {v:Value} {x:Nh} (h:VO w F v x):∃A1 c1 F1,v=(.agg #[(.int .i64 x.Id),(.int .i64 x.Nv.Pq),(.slice A1 x.Nv.Nw.length c1),(.int .i64 x.Nd.Pj),(.int .i64 x.Nd.Px)])∧F1=F∧lown w F1 [.slice A1 x.Nv.Nw.length c1] x.Nv.Nw:=by
  obtain⟨cs,h,rfl⟩:=h
  obtain⟨A1,c1,F1,rfl,rfl,l1⟩:=sG h
  exact⟨_,_,_,rfl,rfl,l1⟩
instance:GoTy Nz:=GoTy.via (α:=(Nq)×(List Nh)) (λx=>(x.Nq,x.Nk))
theorem lH {x:Nz} (h:GoTy.rep w S cs x):∃A1 c1,∃A2 c2,∃A3 c3,cs=[(.slice A1 x.Nq.Nx.length c1),(.slice A2 x.Nq.Nw.length c2),(.slice A3 x.Nk.length c3)]∧lrep w S [.slice A1 x.Nq.Nx.length c1] x.Nq.Nx∧lrep w S [.slice A2 x.Nq.Nw.length c2] x.Nq.Nw∧lrep w S [.slice A3 x.Nk.length c3] x.Nk:=by
  obtain⟨p0,q0,rfl,g0,k0⟩:=h
  obtain⟨A1,c1,A2,c2,rfl,l1,l2⟩:=xX g0
  obtain⟨A3,c3,rfl,l3⟩:=zd k0
  exact⟨A1,c1,A2,c2,A3,c3,rfl,l1,l2,l3⟩
theorem yw {v:Value} {x:Nz} (h:VR w S v x):∃A1 c1,∃A2 c2,∃A3 c3,v=(.agg #[(.slice A1 x.Nq.Nx.length c1),(.slice A2 x.Nq.Nw.length c2),(.slice A3 x.Nk.length c3)])∧lrep w S [.slice A1 x.Nq.Nx.length c1] x.Nq.Nx∧lrep w S [.slice A2 x.Nq.Nw.length c2] x.Nq.Nw∧lrep w S [.slice A3 x.Nk.length c3] x.Nk:=by
  obtain⟨cs,h,rfl⟩:=h
  obtain⟨A1,c1,A2,c2,A3,c3,rfl,l1,l2,l3⟩:=lH h
  exact⟨A1,c1,A2,c2,A3,c3,rfl,l1,l2,l3⟩
theorem sF {x:Nz} (l1:lrep w S [.slice A1 m1 c1] x.Nq.Nx) {A2:Option Addr} {m2 c2:Nat} (l2:lrep w S [.slice A2 m2 c2] x.Nq.Nw) {A3:Option Addr} {m3 c3:Nat} (l3:lrep w S [.slice A3 m3 c3] x.Nk):GoTy.rep w S [(.slice A1 m1 c1),(.slice A2 m2 c2),(.slice A3 m3 c3)] x:=⟨_,_,rfl,(yB l1 l2),l3⟩
theorem vq {x:Nz} (l1:lrep w S [.slice A1 m1 c1] x.Nq.Nx) {A2:Option Addr} {m2 c2:Nat} (l2:lrep w S [.slice A2 m2 c2] x.Nq.Nw) {A3:Option Addr} {m3 c3:Nat} (l3:lrep w S [.slice A3 m3 c3] x.Nk):VR w S (.agg #[(.slice A1 m1 c1),(.slice A2 m2 c2),(.slice A3 m3 c3)]) x:=⟨_,sF l1 l2 l3,rfl⟩
theorem gu {x:Nz} {F1:List Nat} (l1:lown w F1 [.slice A1 m1 c1] x.Nq.Nx) {A2:Option Addr} {m2 c2:Nat} {F2:List Nat} (l2:lown w F2 [.slice A2 m2 c2] x.Nq.Nw) {A3:Option Addr} {m3 c3:Nat} {F3:List Nat} (l3:lown w F3 [.slice A3 m3 c3] x.Nk):GoTy.own w (F1++(F2++F3)) [(.slice A1 m1 c1),(.slice A2 m2 c2),(.slice A3 m3 c3)] x:=⟨_,_,(F1++F2),F3,rfl,by simp,(vL l1 l2),l3⟩
theorem pD {x:Nz} (h:GoTy.own w F cs x):∃A1 c1 F1,∃A2 c2 F2,∃A3 c3 F3,cs=[(.slice A1 x.Nq.Nx.length c1),(.slice A2 x.Nq.Nw.length c2),(.slice A3 x.Nk.length c3)]∧F1++(F2++(F3))=F∧lown w F1 [.slice A1 x.Nq.Nx.length c1] x.Nq.Nx∧lown w F2 [.slice A2 x.Nq.Nw.length c2] x.Nq.Nw∧lown w F3 [.slice A3 x.Nk.length c3] x.Nk:=by
  obtain⟨p0,q0,X0,Y0,rfl,rfl,g0,k0⟩:=h
  obtain⟨A1,c1,F1,A2,c2,F2,rfl,rfl,l1,l2⟩:=ku g0
  obtain⟨A3,c3,rfl,l3⟩:=aY k0
  exact⟨A1,c1,_,A2,c2,_,A3,c3,_,rfl,by simp,l1,l2,l3⟩
theorem eC {v:Value} {x:Nz} (h:VO w F v x):∃A1 c1 F1,∃A2 c2 F2,∃A3 c3 F3,v=(.agg #[(.slice A1 x.Nq.Nx.length c1),(.slice A2 x.Nq.Nw.length c2),(.slice A3 x.Nk.length c3)])∧F1++(F2++(F3))=F∧lown w F1 [.slice A1 x.Nq.Nx.length c1] x.Nq.Nx∧lown w F2 [.slice A2 x.Nq.Nw.length c2] x.Nq.Nw∧lown w F3 [.slice A3 x.Nk.length c3] x.Nk:=by
  obtain⟨cs,h,rfl⟩:=h
  obtain⟨A1,c1,F1,A2,c2,F2,A3,c3,F3,rfl,rfl,l1,l2,l3⟩:=pD h
  exact⟨_,_,_,_,_,_,_,_,_,rfl,rfl,l1,l2,l3⟩
instance:GoTy Format:=GoTy.via (α:=(Int)×(Int)) (λx=>(x.Reach,x.Rate))
instance:GoTy Nj:=GoTy.via (α:=(Nz)×(List Nh)×(List Int)) (λx=>(x.Nz,x.Ng,x.Np))
theorem bD {x:Nj} (h:GoTy.rep w S cs x):∃A1 c1,∃A2 c2,∃A3 c3,∃A4 c4,∃A5 c5,cs=[(.slice A1 x.Nz.Nq.Nx.length c1),(.slice A2 x.Nz.Nq.Nw.length c2),(.slice A3 x.Nz.Nk.length c3),(.slice A4 x.Ng.length c4),(.slice A5 x.Np.length c5)]∧lrep w S [.slice A1 x.Nz.Nq.Nx.length c1] x.Nz.Nq.Nx∧lrep w S [.slice A2 x.Nz.Nq.Nw.length c2] x.Nz.Nq.Nw∧lrep w S [.slice A3 x.Nz.Nk.length c3] x.Nz.Nk∧lrep w S [.slice A4 x.Ng.length c4] x.Ng∧lrep w S [.slice A5 x.Np.length c5] x.Np:=by
  obtain⟨p0,q0,rfl,g0,k0⟩:=h
  obtain⟨A1,c1,A2,c2,A3,c3,rfl,l1,l2,l3⟩:=lH g0
  obtain⟨p1,q1,rfl,g1,k1⟩:=k0
  obtain⟨A4,c4,rfl,l4⟩:=zd g1
  obtain⟨A5,c5,rfl,l5⟩:=zd k1
  exact⟨A1,c1,A2,c2,A3,c3,A4,c4,A5,c5,rfl,l1,l2,l3,l4,l5⟩
theorem uF {v:Value} {x:Nj} (h:VR w S v x):∃A1 c1,∃A2 c2,∃A3 c3,∃A4 c4,∃A5 c5,v=(.agg #[(.slice A1 x.Nz.Nq.Nx.length c1),(.slice A2 x.Nz.Nq.Nw.length c2),(.slice A3 x.Nz.Nk.length c3),(.slice A4 x.Ng.length c4),(.slice A5 x.Np.length c5)])∧lrep w S [.slice A1 x.Nz.Nq.Nx.length c1] x.Nz.Nq.Nx∧lrep w S [.slice A2 x.Nz.Nq.Nw.length c2] x.Nz.Nq.Nw∧lrep w S [.slice A3 x.Nz.Nk.length c3] x.Nz.Nk∧lrep w S [.slice A4 x.Ng.length c4] x.Ng∧lrep w S [.slice A5 x.Np.length c5] x.Np:=by
  obtain⟨cs,h,rfl⟩:=h
  obtain⟨A1,c1,A2,c2,A3,c3,A4,c4,A5,c5,rfl,l1,l2,l3,l4,l5⟩:=bD h
  exact⟨A1,c1,A2,c2,A3,c3,A4,c4,A5,c5,rfl,l1,l2,l3,l4,l5⟩
theorem de {x:Nj} (l1:lrep w S [.slice A1 m1 c1] x.Nz.Nq.Nx) {A2:Option Addr} {m2 c2:Nat} (l2:lrep w S [.slice A2 m2 c2] x.Nz.Nq.Nw) {A3:Option Addr} {m3 c3:Nat} (l3:lrep w S [.slice A3 m3 c3] x.Nz.Nk) {A4:Option Addr} {m4 c4:Nat} (l4:lrep w S [.slice A4 m4 c4] x.Ng) {A5:Option Addr} {m5 c5:Nat} (l5:lrep w S [.slice A5 m5 c5] x.Np):GoTy.rep w S [(.slice A1 m1 c1),(.slice A2 m2 c2),(.slice A3 m3 c3),(.slice A4 m4 c4),(.slice A5 m5 c5)] x:=⟨_,_,rfl,(sF l1 l2 l3),⟨_,_,rfl,l4,l5⟩⟩
theorem ud {x:Nj} (l1:lrep w S [.slice A1 m1 c1] x.Nz.Nq.Nx) {A2:Option Addr} {m2 c2:Nat} (l2:lrep w S [.slice A2 m2 c2] x.Nz.Nq.Nw) {A3:Option Addr} {m3 c3:Nat} (l3:lrep w S [.slice A3 m3 c3] x.Nz.Nk) {A4:Option Addr} {m4 c4:Nat} (l4:lrep w S [.slice A4 m4 c4] x.Ng) {A5:Option Addr} {m5 c5:Nat} (l5:lrep w S [.slice A5 m5 c5] x.Np):VR w S (.agg #[(.slice A1 m1 c1),(.slice A2 m2 c2),(.slice A3 m3 c3),(.slice A4 m4 c4),(.slice A5 m5 c5)]) x:=⟨_,de l1 l2 l3 l4 l5,rfl⟩
theorem uR {x:Nj} {F1:List Nat} (l1:lown w F1 [.slice A1 m1 c1] x.Nz.Nq.Nx) {A2:Option Addr} {m2 c2:Nat} {F2:List Nat} (l2:lown w F2 [.slice A2 m2 c2] x.Nz.Nq.Nw) {A3:Option Addr} {m3 c3:Nat} {F3:List Nat} (l3:lown w F3 [.slice A3 m3 c3] x.Nz.Nk) {A4:Option Addr} {m4 c4:Nat} {F4:List Nat} (l4:lown w F4 [.slice A4 m4 c4] x.Ng) {A5:Option Addr} {m5 c5:Nat} {F5:List Nat} (l5:lown w F5 [.slice A5 m5 c5] x.Np):GoTy.own w (F1++(F2++(F3++(F4++F5)))) [(.slice A1 m1 c1),(.slice A2 m2 c2),(.slice A3 m3 c3),(.slice A4 m4 c4),(.slice A5 m5 c5)] x:=⟨_,_,(F1++(F2++F3)),(F4++F5),rfl,by simp,(gu l1 l2 l3),⟨_,_,F4,F5,rfl,by simp,l4,l5⟩⟩
theorem ks {x:Nj} (h:GoTy.own w F cs x):∃A1 c1 F1,∃A2 c2 F2,∃A3 c3 F3,∃A4 c4 F4,∃A5 c5 F5,cs=[(.slice A1 x.Nz.Nq.Nx.length c1),(.slice A2 x.Nz.Nq.Nw.length c2),(.slice A3 x.Nz.Nk.length c3),(.slice A4 x.Ng.length c4),(.slice A5 x.Np.length c5)]∧F1++(F2++(F3++(F4++(F5))))=F∧lown w F1 [.slice A1 x.Nz.Nq.Nx.length c1] x.Nz.Nq.Nx∧lown w F2 [.slice A2 x.Nz.Nq.Nw.length c2] x.Nz.Nq.Nw∧lown w F3 [.slice A3 x.Nz.Nk.length c3] x.Nz.Nk∧lown w F4 [.slice A4 x.Ng.length c4] x.Ng∧lown w F5 [.slice A5 x.Np.length c5] x.Np:=by
  obtain⟨p0,q0,X0,Y0,rfl,rfl,g0,k0⟩:=h
  obtain⟨A1,c1,F1,A2,c2,F2,A3,c3,F3,rfl,rfl,l1,l2,l3⟩:=pD g0
  obtain⟨p1,q1,X1,Y1,rfl,rfl,g1,k1⟩:=k0
  obtain⟨A4,c4,rfl,l4⟩:=aY g1
  obtain⟨A5,c5,rfl,l5⟩:=aY k1
  exact⟨A1,c1,_,A2,c2,_,A3,c3,_,A4,c4,_,A5,c5,_,rfl,by simp,l1,l2,l3,l4,l5⟩
theorem uJ {v:Value} {x:Nj} (h:VO w F v x):∃A1 c1 F1,∃A2 c2 F2,∃A3 c3 F3,∃A4 c4 F4,∃A5 c5 F5,v=(.agg #[(.slice A1 x.Nz.Nq.Nx.length c1),(.slice A2 x.Nz.Nq.Nw.length c2),(.slice A3 x.Nz.Nk.length c3),(.slice A4 x.Ng.length c4),(.slice A5 x.Np.length c5)])∧F1++(F2++(F3++(F4++(F5))))=F∧lown w F1 [.slice A1 x.Nz.Nq.Nx.length c1] x.Nz.Nq.Nx∧lown w F2 [.slice A2 x.Nz.Nq.Nw.length c2] x.Nz.Nq.Nw∧lown w F3 [.slice A3 x.Nz.Nk.length c3] x.Nz.Nk∧lown w F4 [.slice A4 x.Ng.length c4] x.Ng∧lown w F5 [.slice A5 x.Np.length c5] x.Np:=by
  obtain⟨cs,h,rfl⟩:=h
  obtain⟨A1,c1,F1,A2,c2,F2,A3,c3,F3,A4,c4,F4,A5,c5,F5,rfl,rfl,l1,l2,l3,l4,l5⟩:=ks h
  exact⟨_,_,_,_,_,_,_,_,_,_,_,_,_,_,_,rfl,rfl,l1,l2,l3,l4,l5⟩
instance:GoTy Ph:=GoTy.via (α:=(Nq)×(Int)×(List Nv)) (λx=>(x.n,x.to,x.list))
theorem vB {x:Ph} (h:GoTy.rep w S cs x):∃A1 c1,∃A2 c2,∃A3 c3,cs=[(.slice A1 x.n.Nx.length c1),(.slice A2 x.n.Nw.length c2),(.int .i64 x.to),(.slice A3 x.list.length c3)]∧lrep w S [.slice A1 x.n.Nx.length c1] x.n.Nx∧lrep w S [.slice A2 x.n.Nw.length c2] x.n.Nw∧lrep w S [.slice A3 x.list.length c3] x.list:=by
  obtain⟨p0,q0,rfl,g0,k0⟩:=h
  obtain⟨A1,c1,A2,c2,rfl,l1,l2⟩:=xX g0
  obtain⟨p1,q1,rfl,g1,k1⟩:=k0
  obtain rfl:=g1
  obtain⟨A3,c3,rfl,l3⟩:=zd k1
  exact⟨A1,c1,A2,c2,A3,c3,rfl,l1,l2,l3⟩
theorem vX {x:Ph} (l1:lrep w S [.slice A1 m1 c1] x.n.Nx) {A2:Option Addr} {m2 c2:Nat} (l2:lrep w S [.slice A2 m2 c2] x.n.Nw) {A3:Option Addr} {m3 c3:Nat} (l3:lrep w S [.slice A3 m3 c3] x.list):GoTy.rep w S [(.slice A1 m1 c1),(.slice A2 m2 c2),(.int .i64 x.to),(.slice A3 m3 c3)] x:=⟨_,_,rfl,(yB l1 l2),⟨_,_,rfl,rfl,l3⟩⟩
instance:GoTy Action:=GoTy.via (α:=(Int)×(Nh)) (λx=>(x.Kind,x.Nh))
instance:GoTy L20SearchP:=GoTy.via (α:=(List Action)×(List Bool)) (λx=>(x.list,x.failed))
instance:GoTy Pg:=GoTy.via (α:=(Bool)×(List Int)) (λx=>(x.Pp,x.Nw))
theorem zx {x:Pg} (h:GoTy.rep w S cs x):∃A1 c1,cs=[(.bool x.Pp),(.slice A1 x.Nw.length c1)]∧lrep w S [.slice A1 x.Nw.length c1] x.Nw:=by
  obtain⟨p0,q0,rfl,g0,k0⟩:=h
  obtain rfl:=g0
  obtain⟨A1,c1,rfl,l1⟩:=zd k0
  exact⟨A1,c1,rfl,l1⟩
theorem jy {x:Pg} {F1:List Nat} (l1:lown w F1 [.slice A1 m1 c1] x.Nw):GoTy.own w F1 [(.bool x.Pp),(.slice A1 m1 c1)] x:=⟨_,_,[],F1,rfl,by simp,⟨rfl,rfl⟩,l1⟩
instance:GoTy Demand:=GoTy.via (α:=(Int)×(Int)×(Int)×(Int)) (λx=>(x.From,x.To,x.Rate,x.Class))
instance:GoTy Served:=GoTy.via (α:=(Nz)×(List Int)×(Int)) (λx=>(x.Nz,x.Ids,x.Blocked))
instance:GoTy ChoiceP:=GoTy.via (α:=(Nv)×(Int)) (λx=>(x.route,x.count))
theorem Lens.via {N α β:Type} [GoTy α] [GoTy β] {f:N→α} {q:Nat} {get:α→β} {put:α→β→α} (h:Lens α β q get put) (g:N→β) (p:N→β→N) (hg:∀e,g e=get (f e)) (hp:∀e y,f (p e y)=put (f e) y):@Lens N β (GoTy.via f) _ q g p:=by
  refine @Lens.mk N β (GoTy.via f) _ q g p ?_
  intro w F cs e ho
  obtain⟨Fa,F1,Fc,c,hF,hc,h1,h2⟩:=h.at_ (e:=f e) ho
  refine⟨Fa,F1,Fc,c,hF,hc,by rw[hg]; exact h1,λw1 F2 y a b d=>?_⟩
  have:=h2 w1 F2 y a b d
  rw[←hp]at this; exact this
namespace TF
theorem fH:AI Tryz.prog 180 4 (.agg #[(.int .i64 0),(.int .i64 0),(.int .i64 0),(.int .i64 0)]) 32:=by unfold AI; kernel_rfl
theorem ai3:AI Tryz.prog 3 1 (.int .i64 0) 8:=by unfold AI; kernel_rfl
theorem ai45:AI Tryz.prog 45 2 (.agg #[(.int .i64 0),(.slice none 0 0)]) 32:=by unfold AI; kernel_rfl
theorem ai49:AI Tryz.prog 49 5 (.agg #[(.int .i64 0),(.int .i64 0),(.slice none 0 0),(.int .i64 0),(.int .i64 0)]) 56:=by unfold AI; kernel_rfl
theorem ai9:AI Tryz.prog 9 1 (.string ByteArray.empty) 16:=by unfold AI; kernel_rfl
theorem ai94:AI Tryz.prog 94 2 (.agg #[(.bool false),(.slice none 0 0)]) 32:=by unfold AI; kernel_rfl
theorem cl10:CL Tryz.prog 10:=λ_ _=>by kernel_rfl
theorem Dt:CL Tryz.prog 106:=λ_ _=>by kernel_rfl
theorem au:CL Tryz.prog 121:=λ_ _=>by kernel_rfl
theorem Ds:CL Tryz.prog 122:=λ_ _=>by kernel_rfl
theorem Au:CL Tryz.prog 123:=λ_ _=>by kernel_rfl
theorem wa:CL Tryz.prog 124:=λ_ _=>by kernel_rfl
theorem Dr:CL Tryz.prog 125:=λ_ _=>by kernel_rfl
theorem Dq:CL Tryz.prog 126:=λ_ _=>by kernel_rfl
theorem Dp:CL Tryz.prog 127:=λ_ _=>by kernel_rfl
theorem As:CL Tryz.prog 128:=λ_ _=>by kernel_rfl
theorem Do:CL Tryz.prog 129:=λ_ _=>by kernel_rfl
theorem BE:CL Tryz.prog 130:=λ_ _=>by kernel_rfl
theorem BD:CL Tryz.prog 131:=λ_ _=>by kernel_rfl
theorem Dn:CL Tryz.prog 132:=λ_ _=>by kernel_rfl
theorem Dm:CL Tryz.prog 134:=λ_ _=>by kernel_rfl
theorem Dl:CL Tryz.prog 135:=λ_ _=>by kernel_rfl
theorem Dk:CL Tryz.prog 136:=λ_ _=>by kernel_rfl
theorem nB:CL Tryz.prog 140:=λ_ _=>by kernel_rfl
theorem Dj:CL Tryz.prog 141:=λ_ _=>by kernel_rfl
theorem kn:CL Tryz.prog 142:=λ_ _=>by kernel_rfl
theorem Di:CL Tryz.prog 143:=λ_ _=>by kernel_rfl
theorem Dh:CL Tryz.prog 144:=λ_ _=>by kernel_rfl
theorem Dg:CL Tryz.prog 145:=λ_ _=>by kernel_rfl
theorem iD:CL Tryz.prog 153:=λ_ _=>by kernel_rfl
theorem sx:CL Tryz.prog 154:=λ_ _=>by kernel_rfl
theorem qx:CL Tryz.prog 156:=λ_ _=>by kernel_rfl
theorem Df:CL Tryz.prog 157:=λ_ _=>by kernel_rfl
theorem De:CL Tryz.prog 158:=λ_ _=>by kernel_rfl
theorem Dc:CL Tryz.prog 159:=λ_ _=>by kernel_rfl
theorem jx:CL Tryz.prog 160:=λ_ _=>by kernel_rfl
theorem Db:CL Tryz.prog 161:=λ_ _=>by kernel_rfl
theorem BC:CL Tryz.prog 162:=λ_ _=>by kernel_rfl
theorem BB:CL Tryz.prog 163:=λ_ _=>by kernel_rfl
theorem Da:CL Tryz.prog 164:=λ_ _=>by kernel_rfl
theorem C9:CL Tryz.prog 165:=λ_ _=>by kernel_rfl
theorem C8:CL Tryz.prog 166:=λ_ _=>by kernel_rfl
theorem t8:CL Tryz.prog 167:=λ_ _=>by kernel_rfl
theorem sw:CL Tryz.prog 174:=λ_ _=>by kernel_rfl
theorem C7:CL Tryz.prog 175:=λ_ _=>by kernel_rfl
theorem sv:CL Tryz.prog 176:=λ_ _=>by kernel_rfl
theorem BA:CL Tryz.prog 177:=λ_ _=>by kernel_rfl
theorem qw:CL Tryz.prog 178:=λ_ _=>by kernel_rfl
theorem C6:CL Tryz.prog 179:=λ_ _=>by kernel_rfl
theorem cl18:CL Tryz.prog 18:=λ_ _=>by kernel_rfl
theorem C5:CL Tryz.prog 180:=λ_ _=>by kernel_rfl
theorem C4:CL Tryz.prog 181:=λ_ _=>by kernel_rfl
theorem Ar:CL Tryz.prog 182:=λ_ _=>by kernel_rfl
theorem C3:CL Tryz.prog 183:=λ_ _=>by kernel_rfl
theorem Bz:CL Tryz.prog 184:=λ_ _=>by kernel_rfl
theorem t7:CL Tryz.prog 185:=λ_ _=>by kernel_rfl
theorem qv:CL Tryz.prog 186:=λ_ _=>by kernel_rfl
theorem t6:CL Tryz.prog 187:=λ_ _=>by kernel_rfl
theorem su:CL Tryz.prog 188:=λ_ _=>by kernel_rfl
theorem f8:CL Tryz.prog 192:=λ_ _=>by kernel_rfl
theorem Aq:CL Tryz.prog 197:=λ_ _=>by kernel_rfl
theorem C2:CL Tryz.prog 198:=λ_ _=>by kernel_rfl
theorem C1:CL Tryz.prog 199:=λ_ _=>by kernel_rfl
theorem Bw:CL Tryz.prog 213:=λ_ _=>by kernel_rfl
theorem t2:CL Tryz.prog 214:=λ_ _=>by kernel_rfl
theorem C0:CL Tryz.prog 215:=λ_ _=>by kernel_rfl
theorem CZ:CL Tryz.prog 216:=λ_ _=>by kernel_rfl
theorem Bv:CL Tryz.prog 219:=λ_ _=>by kernel_rfl
theorem cl22:CL Tryz.prog 22:=λ_ _=>by kernel_rfl
theorem CY:CL Tryz.prog 220:=λ_ _=>by kernel_rfl
theorem Ap:CL Tryz.prog 221:=λ_ _=>by kernel_rfl
theorem Bu:CL Tryz.prog 222:=λ_ _=>by kernel_rfl
theorem Bs:CL Tryz.prog 225:=λ_ _=>by kernel_rfl
theorem CX:CL Tryz.prog 226:=λ_ _=>by kernel_rfl
theorem CW:CL Tryz.prog 227:=λ_ _=>by kernel_rfl
theorem Br:CL Tryz.prog 228:=λ_ _=>by kernel_rfl
theorem Bq:CL Tryz.prog 229:=λ_ _=>by kernel_rfl
theorem Bp:CL Tryz.prog 230:=λ_ _=>by kernel_rfl
theorem CU:CL Tryz.prog 231:=λ_ _=>by kernel_rfl
theorem CS:CL Tryz.prog 238:=λ_ _=>by kernel_rfl
theorem cl24:CL Tryz.prog 24:=λ_ _=>by kernel_rfl
theorem CR:CL Tryz.prog 241:=λ_ _=>by kernel_rfl
theorem Bo:CL Tryz.prog 242:=λ_ _=>by kernel_rfl
theorem CQ:CL Tryz.prog 245:=λ_ _=>by kernel_rfl
theorem Bn:CL Tryz.prog 246:=λ_ _=>by kernel_rfl
theorem CP:CL Tryz.prog 247:=λ_ _=>by kernel_rfl
theorem CN:CL Tryz.prog 248:=λ_ _=>by kernel_rfl
theorem Bm:CL Tryz.prog 249:=λ_ _=>by kernel_rfl
theorem cl25:CL Tryz.prog 25:=λ_ _=>by kernel_rfl
theorem CM:CL Tryz.prog 257:=λ_ _=>by kernel_rfl
theorem CK:CL Tryz.prog 258:=λ_ _=>by kernel_rfl
theorem CJ:CL Tryz.prog 259:=λ_ _=>by kernel_rfl
theorem Bl:CL Tryz.prog 260:=λ_ _=>by kernel_rfl
theorem CI:CL Tryz.prog 261:=λ_ _=>by kernel_rfl
theorem CH:CL Tryz.prog 262:=λ_ _=>by kernel_rfl
theorem CG:CL Tryz.prog 282:=λ_ _=>by kernel_rfl
theorem CF:CL Tryz.prog 283:=λ_ _=>by kernel_rfl
theorem CC:CL Tryz.prog 284:=λ_ _=>by kernel_rfl
theorem CB:CL Tryz.prog 285:=λ_ _=>by kernel_rfl
theorem Cz:CL Tryz.prog 286:=λ_ _=>by kernel_rfl
theorem tZ:CL Tryz.prog 290:=λ_ _=>by kernel_rfl
theorem nA:CL Tryz.prog 291:=λ_ _=>by kernel_rfl
theorem tY:CL Tryz.prog 292:=λ_ _=>by kernel_rfl
theorem qu:CL Tryz.prog 293:=λ_ _=>by kernel_rfl
theorem Bj:CL Tryz.prog 299:=λ_ _=>by kernel_rfl
theorem Bi:CL Tryz.prog 302:=λ_ _=>by kernel_rfl
theorem Cy:CL Tryz.prog 303:=λ_ _=>by kernel_rfl
theorem Cx:CL Tryz.prog 304:=λ_ _=>by kernel_rfl
theorem Cw:CL Tryz.prog 308:=λ_ _=>by kernel_rfl
theorem B9:CL Tryz.prog 319:=λ_ _=>by kernel_rfl
theorem Ao:CL Tryz.prog 320:=λ_ _=>by kernel_rfl
theorem B8:CL Tryz.prog 321:=λ_ _=>by kernel_rfl
theorem Bh:CL Tryz.prog 322:=λ_ _=>by kernel_rfl
theorem B7:CL Tryz.prog 323:=λ_ _=>by kernel_rfl
theorem B6:CL Tryz.prog 324:=λ_ _=>by kernel_rfl
theorem B5:CL Tryz.prog 325:=λ_ _=>by kernel_rfl
theorem B4:CL Tryz.prog 330:=λ_ _=>by kernel_rfl
theorem Bg:CL Tryz.prog 332:=λ_ _=>by kernel_rfl
theorem B3:CL Tryz.prog 336:=λ_ _=>by kernel_rfl
theorem B2:CL Tryz.prog 342:=λ_ _=>by kernel_rfl
theorem km:CL Tryz.prog 347:=λ_ _=>by kernel_rfl
theorem B1:CL Tryz.prog 361:=λ_ _=>by kernel_rfl
theorem B0:CL Tryz.prog 366:=λ_ _=>by kernel_rfl
theorem tX:CL Tryz.prog 369:=λ_ _=>by kernel_rfl
theorem cl41:CL Tryz.prog 41:=λ_ _=>by kernel_rfl
theorem cl42:CL Tryz.prog 42:=λ_ _=>by kernel_rfl
theorem cl43:CL Tryz.prog 43:=λ_ _=>by kernel_rfl
theorem cl44:CL Tryz.prog 44:=λ_ _=>by kernel_rfl
theorem cl46:CL Tryz.prog 46:=λ_ _=>by kernel_rfl
theorem cl48:CL Tryz.prog 48:=λ_ _=>by kernel_rfl
theorem cl50:CL Tryz.prog 50:=λ_ _=>by kernel_rfl
theorem cl56:CL Tryz.prog 56:=λ_ _=>by kernel_rfl
theorem cl64:CL Tryz.prog 64:=λ_ _=>by kernel_rfl
theorem cl65:CL Tryz.prog 65:=λ_ _=>by kernel_rfl
theorem cl66:CL Tryz.prog 66:=λ_ _=>by kernel_rfl
theorem cl67:CL Tryz.prog 67:=λ_ _=>by kernel_rfl
theorem cl69:CL Tryz.prog 69:=λ_ _=>by kernel_rfl
theorem cl70:CL Tryz.prog 70:=λ_ _=>by kernel_rfl
theorem cl72:CL Tryz.prog 72:=λ_ _=>by kernel_rfl
theorem cl74:CL Tryz.prog 74:=λ_ _=>by kernel_rfl
theorem cl75:CL Tryz.prog 75:=λ_ _=>by kernel_rfl
theorem cl76:CL Tryz.prog 76:=λ_ _=>by kernel_rfl
theorem cl77:CL Tryz.prog 77:=λ_ _=>by kernel_rfl
theorem cl80:CL Tryz.prog 80:=λ_ _=>by kernel_rfl
theorem cl84:CL Tryz.prog 84:=λ_ _=>by kernel_rfl
theorem cl85:CL Tryz.prog 85:=λ_ _=>by kernel_rfl
theorem cl86:CL Tryz.prog 86:=λ_ _=>by kernel_rfl
theorem cl87:CL Tryz.prog 87:=λ_ _=>by kernel_rfl
theorem cl88:CL Tryz.prog 88:=λ_ _=>by kernel_rfl
theorem cl89:CL Tryz.prog 89:=λ_ _=>by kernel_rfl
theorem cl90:CL Tryz.prog 90:=λ_ _=>by kernel_rfl
theorem cl91:CL Tryz.prog 91:=λ_ _=>by kernel_rfl
theorem cl92:CL Tryz.prog 92:=λ_ _=>by kernel_rfl
theorem cl93:CL Tryz.prog 93:=λ_ _=>by kernel_rfl
theorem cl94:CL Tryz.prog 94:=λ_ _=>by kernel_rfl
theorem cl95:CL Tryz.prog 95:=λ_ _=>by kernel_rfl
theorem cl96:CL Tryz.prog 96:=λ_ _=>by kernel_rfl
theorem cl97:CL Tryz.prog 97:=λ_ _=>by kernel_rfl
theorem dE:LA Tryz.prog 180 4:=λ_ _=>by kernel_rfl
theorem la27:LA Tryz.prog 27 2:=λ_ _=>by kernel_rfl
theorem la30:LA Tryz.prog 30 3:=λ_ _=>by kernel_rfl
theorem la45:LA Tryz.prog 45 2:=λ_ _=>by kernel_rfl
theorem la47:LA Tryz.prog 47 2:=λ_ _=>by kernel_rfl
theorem la49:LA Tryz.prog 49 5:=λ_ _=>by kernel_rfl
theorem la60:LA Tryz.prog 60 5:=λ_ _=>by kernel_rfl
theorem la94:LA Tryz.prog 94 2:=λ_ _=>by kernel_rfl
theorem tx:LS Tryz.prog 107:=λ_ _=>by kernel_rfl
theorem ls22:LS Tryz.prog 22:=λ_ _=>by kernel_rfl
theorem jt:LS Tryz.prog 230:=λ_ _=>by kernel_rfl
theorem ls24:LS Tryz.prog 24:=λ_ _=>by kernel_rfl
theorem ls25:LS Tryz.prog 25:=λ_ _=>by kernel_rfl
theorem ls28:LS Tryz.prog 28:=λ_ _=>by kernel_rfl
theorem Ba:LS Tryz.prog 299:=λ_ _=>by kernel_rfl
theorem ls3:LS Tryz.prog 3:=λ_ _=>by kernel_rfl
theorem ls35:LS Tryz.prog 35:=λ_ _=>by kernel_rfl
theorem ls4:LS Tryz.prog 4:=λ_ _=>by kernel_rfl
theorem ls5:LS Tryz.prog 5:=λ_ _=>by kernel_rfl
theorem ls9:LS Tryz.prog 9:=λ_ _=>by kernel_rfl
theorem pt3:PT Tryz.prog 3:=λ_=>⟨by kernel_rfl,by kernel_rfl⟩
theorem wy:EQT Tryz.prog 47 2 3:=⟨by kernel_rfl,by kernel_rfl,by kernel_rfl,by kernel_rfl,by kernel_rfl,pt3,⟨_,Tryz.underlying3⟩⟩
theorem Ay:SZ Tryz.prog 107 1:=λ_=>by kernel_rfl
theorem aJ:SZ Tryz.prog 180 4:=λ_=>by kernel_rfl
theorem qK:SZ Tryz.prog 230 1:=λ_=>by kernel_rfl
theorem sz24:SZ Tryz.prog 24 1:=λ_=>by kernel_rfl
theorem sz25:SZ Tryz.prog 25 1:=λ_=>by kernel_rfl
theorem sz27:SZ Tryz.prog 27 2:=λ_=>by kernel_rfl
theorem sz28:SZ Tryz.prog 28 1:=λ_=>by kernel_rfl
theorem BN:SZ Tryz.prog 299 1:=λ_=>by kernel_rfl
theorem sz3:SZ Tryz.prog 3 1:=λ_=>by kernel_rfl
theorem sz30:SZ Tryz.prog 30 3:=λ_=>by kernel_rfl
theorem sz35:SZ Tryz.prog 35 1:=λ_=>by kernel_rfl
theorem sz45:SZ Tryz.prog 45 2:=λ_=>by kernel_rfl
theorem sz47:SZ Tryz.prog 47 2:=λ_=>by kernel_rfl
theorem sz49:SZ Tryz.prog 49 5:=λ_=>by kernel_rfl
theorem sz5:SZ Tryz.prog 5 1:=λ_=>by kernel_rfl
theorem sz60:SZ Tryz.prog 60 5:=λ_=>by kernel_rfl
theorem sz9:SZ Tryz.prog 9 1:=λ_=>by kernel_rfl
theorem sz94:SZ Tryz.prog 94 2:=λ_=>by kernel_rfl
theorem sJ:ZV Tryz.prog 180 (.agg #[(.int .i64 0),(.int .i64 0),(.int .i64 0),(.int .i64 0)]):=λ_=>by kernel_rfl
theorem BM:ZV Tryz.prog 230 (.slice none 0 0):=λ_=>by kernel_rfl
theorem zv27:ZV Tryz.prog 27 (.agg #[(.slice none 0 0),(.slice none 0 0)]):=λ_=>by kernel_rfl
theorem BL:ZV Tryz.prog 299 .nilFunc:=λ_=>by kernel_rfl
theorem zv3:ZV Tryz.prog 3 (.int .i64 0):=λ_=>by kernel_rfl
theorem zv30:ZV Tryz.prog 30 (.agg #[(.slice none 0 0),(.slice none 0 0),(.slice none 0 0)]):=λ_=>by kernel_rfl
theorem zv35:ZV Tryz.prog 35 (.slice none 0 0):=λ_=>by kernel_rfl
theorem zv45:ZV Tryz.prog 45 (.agg #[(.int .i64 0),(.slice none 0 0)]):=λ_=>by kernel_rfl
theorem zv47:ZV Tryz.prog 47 (.agg #[(.int .i64 0),(.int .i64 0)]):=λ_=>by kernel_rfl
theorem zv49:ZV Tryz.prog 49 (.agg #[(.int .i64 0),(.int .i64 0),(.slice none 0 0),(.int .i64 0),(.int .i64 0)]):=λ_=>by kernel_rfl
theorem zv60:ZV Tryz.prog 60 (.agg #[(.slice none 0 0),(.slice none 0 0),(.slice none 0 0),(.slice none 0 0),(.slice none 0 0)]):=λ_=>by kernel_rfl
theorem zv94:ZV Tryz.prog 94 (.agg #[(.bool false),(.slice none 0 0)]):=λ_=>by kernel_rfl
end TF
def tab:Tab:=⟨[22,24,25,28,31,32,35,70,75,78,87,213,228,230,246,318],[4],[9],[(27,0,0),(27,1,1),(30,0,0),(30,1,2),(37,0,0),(37,1,3),(37,2,4),(45,0,0),(45,1,1),(47,0,0),(47,1,1),(49,0,0),(49,1,1),(49,2,3),(51,0,0),(51,1,1),(51,2,2),(51,3,3),(60,0,0),(60,1,3),(60,2,4),(77,0,0),(77,1,1),(80,0,0),(80,1,2),(94,0,0),(94,1,1),(109,0,0),(109,1,1),(109,2,2),(145,0,0),(145,1,1),(148,0,0),(148,1,1),(180,0,0),(180,1,1),(180,2,2),(180,3,3),(182,0,0),(182,1,1),(198,0,0),(198,1,2),(218,0,0),(218,1,1),(219,0,0),(219,1,1),(221,0,0),(221,1,1),(221,2,3),(261,0,0),(261,1,1),(261,2,2),(261,3,3),(322,0,0),(322,1,2),(322,2,3)]⟩
theorem mi:∀{l:List Nat} {x:Nat},inl l x=true→x∈l
  | y::r,x,h=>by
    unfold inl at h
    cases hb:Nat.beq y x <;> rw[hb]at h
    · exact D7 _ (mi h)
    · rw[Gi hb]; exact Ei
theorem pm:∀{l:List (TypeId×Nat×Nat)} {t f o:Nat},foff l t f=some o→(t,f,o)∈l
  | (t',f',o')::r,t,f,o,h=>by
    unfold foff at h
    cases hb:(Nat.beq t' t&&Nat.beq f' f) <;> rw[hb]at h
    · exact D7 _ (pm h)
    · simp only[DC]at hb
      injection h with h
      rw[Gi hb.1,Gi hb.2,h]; exact Ei
theorem tabOk:TabOk Tryz.prog tab where
  sl:=λT h=>by
    have h:=mi h
    simp only[tab,DZ,Fy,or_false]at h
    rcases h with rfl | rfl | rfl | rfl | rfl | rfl | rfl | rfl | rfl | rfl | rfl | rfl | rfl | rfl | rfl | rfl
    · exact⟨_,Tryz.underlying22⟩
    · exact⟨_,Tryz.underlying24⟩
    · exact⟨_,Tryz.underlying25⟩
    · exact⟨_,Tryz.underlying28⟩
    · exact⟨_,Tryz.underlying31⟩
    · exact⟨_,Tryz.underlying32⟩
    · exact⟨_,Tryz.underlying35⟩
    · exact⟨_,Tryz.underlying70⟩
    · exact⟨_,Tryz.underlying75⟩
    · exact⟨_,Tryz.underlying78⟩
    · exact⟨_,Tryz.underlying87⟩
    · exact⟨_,Tryz.underlying213⟩
    · exact⟨_,Tryz.underlying228⟩
    · exact⟨_,Tryz.underlying230⟩
    · exact⟨_,Tryz.underlying246⟩
    · exact⟨_,Tryz.underlying318⟩
  bo:=λT h=>by
    have h:=mi h
    simp only[tab,DZ,Fy,or_false]at h
    rcases h with rfl
    · exact Tryz.underlying4
  st:=λT h=>by
    have h:=mi h
    simp only[tab,DZ,Fy,or_false]at h
    rcases h with rfl
    · exact Tryz.underlying9
  fa:=λT f o h=>by
    have h:=pm h
    simp only[tab,DZ,Fy,or_false,EK]at h
    rcases h with ⟨rfl,rfl,rfl⟩ | ⟨rfl,rfl,rfl⟩ | ⟨rfl,rfl,rfl⟩ | ⟨rfl,rfl,rfl⟩ | ⟨rfl,rfl,rfl⟩ | ⟨rfl,rfl,rfl⟩ | ⟨rfl,rfl,rfl⟩ | ⟨rfl,rfl,rfl⟩ | ⟨rfl,rfl,rfl⟩ | ⟨rfl,rfl,rfl⟩ | ⟨rfl,rfl,rfl⟩ | ⟨rfl,rfl,rfl⟩ | ⟨rfl,rfl,rfl⟩ | ⟨rfl,rfl,rfl⟩ | ⟨rfl,rfl,rfl⟩ | ⟨rfl,rfl,rfl⟩ | ⟨rfl,rfl,rfl⟩ | ⟨rfl,rfl,rfl⟩ | ⟨rfl,rfl,rfl⟩ | ⟨rfl,rfl,rfl⟩ | ⟨rfl,rfl,rfl⟩ | ⟨rfl,rfl,rfl⟩ | ⟨rfl,rfl,rfl⟩ | ⟨rfl,rfl,rfl⟩ | ⟨rfl,rfl,rfl⟩ | ⟨rfl,rfl,rfl⟩ | ⟨rfl,rfl,rfl⟩ | ⟨rfl,rfl,rfl⟩ | ⟨rfl,rfl,rfl⟩ | ⟨rfl,rfl,rfl⟩ | ⟨rfl,rfl,rfl⟩ | ⟨rfl,rfl,rfl⟩ | ⟨rfl,rfl,rfl⟩ | ⟨rfl,rfl,rfl⟩ | ⟨rfl,rfl,rfl⟩ | ⟨rfl,rfl,rfl⟩ | ⟨rfl,rfl,rfl⟩ | ⟨rfl,rfl,rfl⟩ | ⟨rfl,rfl,rfl⟩ | ⟨rfl,rfl,rfl⟩ | ⟨rfl,rfl,rfl⟩ | ⟨rfl,rfl,rfl⟩ | ⟨rfl,rfl,rfl⟩ | ⟨rfl,rfl,rfl⟩ | ⟨rfl,rfl,rfl⟩ | ⟨rfl,rfl,rfl⟩ | ⟨rfl,rfl,rfl⟩ | ⟨rfl,rfl,rfl⟩ | ⟨rfl,rfl,rfl⟩ | ⟨rfl,rfl,rfl⟩ | ⟨rfl,rfl,rfl⟩ | ⟨rfl,rfl,rfl⟩ | ⟨rfl,rfl,rfl⟩ | ⟨rfl,rfl,rfl⟩ | ⟨rfl,rfl,rfl⟩ | ⟨rfl,rfl,rfl⟩
    · exact λ_ _=>by kernel_rfl
    · exact λ_ _=>by kernel_rfl
    · exact λ_ _=>by kernel_rfl
    · exact λ_ _=>by kernel_rfl
    · exact λ_ _=>by kernel_rfl
    · exact λ_ _=>by kernel_rfl
    · exact λ_ _=>by kernel_rfl
    · exact λ_ _=>by kernel_rfl
    · exact λ_ _=>by kernel_rfl
    · exact λ_ _=>by kernel_rfl
    · exact λ_ _=>by kernel_rfl
    · exact λ_ _=>by kernel_rfl
    · exact λ_ _=>by kernel_rfl
    · exact λ_ _=>by kernel_rfl
    · exact λ_ _=>by kernel_rfl
    · exact λ_ _=>by kernel_rfl
    · exact λ_ _=>by kernel_rfl
    · exact λ_ _=>by kernel_rfl
    · exact λ_ _=>by kernel_rfl
    · exact λ_ _=>by kernel_rfl
    · exact λ_ _=>by kernel_rfl
    · exact λ_ _=>by kernel_rfl
    · exact λ_ _=>by kernel_rfl
    · exact λ_ _=>by kernel_rfl
    · exact λ_ _=>by kernel_rfl
    · exact λ_ _=>by kernel_rfl
    · exact λ_ _=>by kernel_rfl
    · exact λ_ _=>by kernel_rfl
    · exact λ_ _=>by kernel_rfl
    · exact λ_ _=>by kernel_rfl
    · exact λ_ _=>by kernel_rfl
    · exact λ_ _=>by kernel_rfl
    · exact λ_ _=>by kernel_rfl
    · exact λ_ _=>by kernel_rfl
    · exact λ_ _=>by kernel_rfl
    · exact λ_ _=>by kernel_rfl
    · exact λ_ _=>by kernel_rfl
    · exact λ_ _=>by kernel_rfl
    · exact λ_ _=>by kernel_rfl
    · exact λ_ _=>by kernel_rfl
    · exact λ_ _=>by kernel_rfl
    · exact λ_ _=>by kernel_rfl
    · exact λ_ _=>by kernel_rfl
    · exact λ_ _=>by kernel_rfl
    · exact λ_ _=>by kernel_rfl
    · exact λ_ _=>by kernel_rfl
    · exact λ_ _=>by kernel_rfl
    · exact λ_ _=>by kernel_rfl
    · exact λ_ _=>by kernel_rfl
    · exact λ_ _=>by kernel_rfl
    · exact λ_ _=>by kernel_rfl
    · exact λ_ _=>by kernel_rfl
    · exact λ_ _=>by kernel_rfl
    · exact λ_ _=>by kernel_rfl
    · exact λ_ _=>by kernel_rfl
    · exact λ_ _=>by kernel_rfl
section
variable {Q:Exit→Act→World→Prop} {w:World} {n:Nat}
theorem pr {ops:List Oper} (k:Nat) {L:List (Nat×Value)} {l:List Oper} {L':List (Nat×Value)} {l':List Oper} {a:Act} (hf:Fr a n L) (hd:qk n l=true) (h:pRun tab ops k L l=(L',l')) (hk:∀a',Fr a' n L'→wpList Tryz.prog ops.toArray Q l' a' w):wpList Tryz.prog ops.toArray Q l a w:=Aa tabOk k L l hf hd h hk
variable {S0:World→Prop} {B:List Nat} {bs:List Bool} {a:Act} {fuel d:Nat} {L:List (Nat×Value)} {Mid:Act→World→Prop} {op:Op} {v:Value} {l:List Oper} {t:TypeId} {ps:String} {af:Array Edge}
theorem tp (i:Nat) (hi:l[i]?=some ⟨some d,op,t,ps,af,none⟩) (hdn:Nat.ble (d + 1) n=true) (hf:Fr a n L) (hc:takeB l bs i [] B=true) (hS:nb B bs.toArray=true→S0 w) (hv:pOp tab L op=some v) (h:∀a',Fr a' n ((d,v)::L)→DL Tryz.prog l Mid S0 B fuel (bs.set i true) a' w):DL Tryz.prog l Mid S0 B (fuel + 1) bs a w:=tP i hi rfl rfl hdn hf hc hS (λ_=>mT tabOk hf hv) h
theorem tpg (i:Nat) {j e:Nat} {b:Bool} (hi:l[i]?=some ⟨some d,op,t,ps,af,some (j,b)⟩) (hj:(l[j]?).bind (·.dst)=some e) (hb:lk L e=some (.bool b)) (hdn:Nat.ble (d + 1) n=true) (hf:Fr a n L) (hc:takeB l bs i [] B=true) (hS:nb B bs.toArray=true→S0 w) (hv:pOp tab L op=some v) (h:∀a',Fr a' n ((d,v)::L)→DL Tryz.prog l Mid S0 B fuel (bs.set i true) a' w):DL Tryz.prog l Mid S0 B (fuel + 1) bs a w:=tPg i hi rfl rfl hj hb hdn hf hc hS (λ_=>mT tabOk hf hv) h
end
end AT
