/- The types and closed facts on the program, by program (gen.py). -/
import Derived.Test.YtlemonjnolciiaaGreatAtPS
import Derived.Test.YtlemonjnolciiaaGreatF
import Derived.Test.YtlemonjnolciiaaGreatRows
set_option linter.unusedVariables false
set_option maxRecDepth 100000
namespace AT
open Go Go.RowKit Go.Proofs
instance:GoTy Pz:=GoTy.via (α:=(List By)×(Int)×(U64)) (λx=>(x.code,x.at_,x.seed))
variable {S:Nat→Prop}
theorem ud {w:World} {cs:List Value} {x:Pz} (h:GoTy.rep w S cs x):∃A1 c1,cs=[(.slice A1 x.code.length c1),(.int .i64 x.at_),(.int .u64 x.seed.n)]∧lrep w S [.slice A1 x.code.length c1] x.code:=by
  obtain⟨p0,q0,rfl,g0,k0⟩:=h
  obtain⟨A1,c1,rfl,l1⟩:=zf g0
  obtain⟨p1,q1,rfl,g1,k1⟩:=k0
  obtain rfl:=g1
  obtain rfl:=k1
  exact⟨A1,c1,rfl,l1⟩
theorem uf {w:World} {x:Pz} {A1:Option Addr} {m1 c1:Nat} (l1:lrep w S [.slice A1 m1 c1] x.code):GoTy.rep w S [(.slice A1 m1 c1),(.int .i64 x.at_),(.int .u64 x.seed.n)] x:=⟨_,_,rfl,l1,⟨_,_,rfl,rfl,rfl⟩⟩
instance:GoTy Nt:=GoTy.via (α:=(Int)×(Int)×(Int)×(Int)) (λx=>(x.A,x.B,x.Pk,x.Pg))
variable {w:World} {x:Nt}
theorem va {cs:List Value} (h:GoTy.rep w S cs x):cs=[(.int .i64 x.A),(.int .i64 x.B),(.int .i64 x.Pk),(.int .i64 x.Pg)]:=by
  obtain⟨p0,q0,rfl,g0,k0⟩:=h
  obtain rfl:=g0
  obtain⟨p1,q1,rfl,g1,k1⟩:=k0
  obtain rfl:=g1
  obtain⟨p2,q2,rfl,g2,k2⟩:=k1
  obtain rfl:=g2
  obtain rfl:=k2
  exact rfl
theorem cM {v:Value} (h:VR w S v x):v=(.agg #[(.int .i64 x.A),(.int .i64 x.B),(.int .i64 x.Pk),(.int .i64 x.Pg)]):=by
  obtain⟨cs,h,rfl⟩:=h
  obtain rfl:=va h
  exact rfl
theorem ao:GoTy.rep w S [(.int .i64 x.A),(.int .i64 x.B),(.int .i64 x.Pk),(.int .i64 x.Pg)] x:=⟨_,_,rfl,rfl,⟨_,_,rfl,rfl,⟨_,_,rfl,rfl,rfl⟩⟩⟩
theorem yo:VR w S (.agg #[(.int .i64 x.A),(.int .i64 x.B),(.int .i64 x.Pk),(.int .i64 x.Pg)]) x:=⟨_,ao,rfl⟩
instance:GoTy Nq:=GoTy.via (α:=(List ByteArray)×(List Nt)) (λx=>(x.Nx,x.Nw))
variable {cs:List Value} {A1:Option Addr} {m1 c1:Nat} {F:List Nat}
theorem xQ {x:Nq} (h:GoTy.rep w S cs x):∃A1 c1,∃A2 c2,cs=[(.slice A1 x.Nx.length c1),(.slice A2 x.Nw.length c2)]∧lrep w S [.slice A1 x.Nx.length c1] x.Nx∧lrep w S [.slice A2 x.Nw.length c2] x.Nw:=by
  obtain⟨p0,q0,rfl,g0,k0⟩:=h
  obtain⟨A1,c1,rfl,l1⟩:=zf g0
  obtain⟨A2,c2,rfl,l2⟩:=zf k0
  exact⟨A1,c1,A2,c2,rfl,l1,l2⟩
theorem uO {v:Value} {x:Nq} (h:VR w S v x):∃A1 c1,∃A2 c2,v=(.agg #[(.slice A1 x.Nx.length c1),(.slice A2 x.Nw.length c2)])∧lrep w S [.slice A1 x.Nx.length c1] x.Nx∧lrep w S [.slice A2 x.Nw.length c2] x.Nw:=by
  obtain⟨cs,h,rfl⟩:=h
  obtain⟨A1,c1,A2,c2,rfl,l1,l2⟩:=xQ h
  exact⟨A1,c1,A2,c2,rfl,l1,l2⟩
theorem yu {x:Nq} (l1:lrep w S [.slice A1 m1 c1] x.Nx) {A2:Option Addr} {m2 c2:Nat} (l2:lrep w S [.slice A2 m2 c2] x.Nw):GoTy.rep w S [(.slice A1 m1 c1),(.slice A2 m2 c2)] x:=⟨_,_,rfl,l1,l2⟩
theorem uB {x:Nq} (l1:lrep w S [.slice A1 m1 c1] x.Nx) {A2:Option Addr} {m2 c2:Nat} (l2:lrep w S [.slice A2 m2 c2] x.Nw):VR w S (.agg #[(.slice A1 m1 c1),(.slice A2 m2 c2)]) x:=⟨_,yu l1 l2,rfl⟩
theorem vJ {x:Nq} {F1:List Nat} (l1:lown w F1 [.slice A1 m1 c1] x.Nx) {A2:Option Addr} {m2 c2:Nat} {F2:List Nat} (l2:lown w F2 [.slice A2 m2 c2] x.Nw):GoTy.own w (F1++F2) [(.slice A1 m1 c1),(.slice A2 m2 c2)] x:=⟨_,_,F1,F2,rfl,by simp,l1,l2⟩
theorem ki {x:Nq} (h:GoTy.own w F cs x):∃A1 c1 F1,∃A2 c2 F2,cs=[(.slice A1 x.Nx.length c1),(.slice A2 x.Nw.length c2)]∧F1++(F2)=F∧lown w F1 [.slice A1 x.Nx.length c1] x.Nx∧lown w F2 [.slice A2 x.Nw.length c2] x.Nw:=by
  obtain⟨p0,q0,X0,Y0,rfl,rfl,g0,k0⟩:=h
  obtain⟨A1,c1,rfl,l1⟩:=aG g0
  obtain⟨A2,c2,rfl,l2⟩:=aG k0
  exact⟨A1,c1,_,A2,c2,_,rfl,by simp,l1,l2⟩
theorem dI {v:Value} {x:Nq} (h:VO w F v x):∃A1 c1 F1,∃A2 c2 F2,v=(.agg #[(.slice A1 x.Nx.length c1),(.slice A2 x.Nw.length c2)])∧F1++(F2)=F∧lown w F1 [.slice A1 x.Nx.length c1] x.Nx∧lown w F2 [.slice A2 x.Nw.length c2] x.Nw:=by
  obtain⟨cs,h,rfl⟩:=h
  obtain⟨A1,c1,F1,A2,c2,F2,rfl,rfl,l1,l2⟩:=ki h
  exact⟨_,_,_,_,_,_,rfl,rfl,l1,l2⟩
instance:GoTy Nv:=GoTy.via (α:=(Int)×(List Int)) (λx=>(x.Pq,x.Nw))
theorem bU {x:Nv} (h:GoTy.rep w S cs x):∃A1 c1,cs=[(.int .i64 x.Pq),(.slice A1 x.Nw.length c1)]∧lrep w S [.slice A1 x.Nw.length c1] x.Nw:=by
  obtain⟨p0,q0,rfl,g0,k0⟩:=h
  obtain rfl:=g0
  obtain⟨A1,c1,rfl,l1⟩:=zf k0
  exact⟨A1,c1,rfl,l1⟩
theorem vL {v:Value} {x:Nv} (h:VR w S v x):∃A1 c1,v=(.agg #[(.int .i64 x.Pq),(.slice A1 x.Nw.length c1)])∧lrep w S [.slice A1 x.Nw.length c1] x.Nw:=by
  obtain⟨cs,h,rfl⟩:=h
  obtain⟨A1,c1,rfl,l1⟩:=bU h
  exact⟨A1,c1,rfl,l1⟩
theorem iy {x:Nv} (l1:lrep w S [.slice A1 m1 c1] x.Nw):GoTy.rep w S [(.int .i64 x.Pq),(.slice A1 m1 c1)] x:=⟨_,_,rfl,rfl,l1⟩
theorem uJ {x:Nv} (l1:lrep w S [.slice A1 m1 c1] x.Nw):VR w S (.agg #[(.int .i64 x.Pq),(.slice A1 m1 c1)]) x:=⟨_,iy l1,rfl⟩
theorem ya {x:Nv} {F1:List Nat} (l1:lown w F1 [.slice A1 m1 c1] x.Nw):GoTy.own w F1 [(.int .i64 x.Pq),(.slice A1 m1 c1)] x:=⟨_,_,[],F1,rfl,by simp,⟨rfl,rfl⟩,l1⟩
theorem nC {x:Nv} (h:GoTy.own w F cs x):∃A1 c1 F1,cs=[(.int .i64 x.Pq),(.slice A1 x.Nw.length c1)]∧F1=F∧lown w F1 [.slice A1 x.Nw.length c1] x.Nw:=by
  obtain⟨p0,q0,X0,Y0,rfl,rfl,g0,k0⟩:=h
  obtain⟨rfl,rfl⟩:=g0
  obtain⟨A1,c1,rfl,l1⟩:=aG k0
  exact⟨A1,c1,_,rfl,by simp,l1⟩
theorem ef {v:Value} {x:Nv} (h:VO w F v x):∃A1 c1 F1,v=(.agg #[(.int .i64 x.Pq),(.slice A1 x.Nw.length c1)])∧F1=F∧lown w F1 [.slice A1 x.Nw.length c1] x.Nw:=by
  obtain⟨cs,h,rfl⟩:=h
  obtain⟨A1,c1,F1,rfl,rfl,l1⟩:=nC h
  exact⟨_,_,_,rfl,rfl,l1⟩
instance:GoTy Nd:=GoTy.via (α:=(Int)×(Int)) (λx=>(x.Pj,x.Px))
theorem gR {x:Nd} (h:GoTy.rep w S cs x):cs=[(.int .i64 x.Pj),(.int .i64 x.Px)]:=by
  obtain⟨p0,q0,rfl,g0,k0⟩:=h
  obtain rfl:=g0
  obtain rfl:=k0
  exact rfl
theorem ce {v:Value} {x:Nd} (h:VR w S v x):v=(.agg #[(.int .i64 x.Pj),(.int .i64 x.Px)]):=by
  obtain⟨cs,h,rfl⟩:=h
  obtain rfl:=gR h
  exact rfl
theorem oT {x:Nd}:GoTy.rep w S [(.int .i64 x.Pj),(.int .i64 x.Px)] x:=⟨_,_,rfl,rfl,rfl⟩
theorem yH {x:Nd}:VR w S (.agg #[(.int .i64 x.Pj),(.int .i64 x.Px)]) x:=⟨_,oT,rfl⟩
theorem nZ {x:Nd}:GoTy.own w [] [(.int .i64 x.Pj),(.int .i64 x.Px)] x:=⟨_,_,[],[],rfl,by simp,⟨rfl,rfl⟩,⟨rfl,rfl⟩⟩
theorem pZ {x:Nd} (h:GoTy.own w F cs x):F=[]:=by
  obtain⟨p0,q0,X0,Y0,rfl,rfl,g0,k0⟩:=h
  obtain⟨rfl,rfl⟩:=g0
  obtain⟨rfl,rfl⟩:=k0
  rfl
instance:GoTy Nh:=GoTy.via (α:=(Int)×(Nv)×(Nd)) (λx=>(x.Id,x.Nv,x.Nd))
theorem uw {x:Nh} (h:GoTy.rep w S cs x):∃A1 c1,cs=[(.int .i64 x.Id),(.int .i64 x.Nv.Pq),(.slice A1 x.Nv.Nw.length c1),(.int .i64 x.Nd.Pj),(.int .i64 x.Nd.Px)]∧lrep w S [.slice A1 x.Nv.Nw.length c1] x.Nv.Nw:=by
  obtain⟨p0,q0,rfl,g0,k0⟩:=h
  obtain rfl:=g0
  obtain⟨p1,q1,rfl,g1,k1⟩:=k0
  obtain⟨A1,c1,rfl,l1⟩:=bU g1
  obtain rfl:=gR k1
  exact⟨A1,c1,rfl,l1⟩
theorem xl {v:Value} {x:Nh} (h:VR w S v x):∃A1 c1,v=(.agg #[(.int .i64 x.Id),(.int .i64 x.Nv.Pq),(.slice A1 x.Nv.Nw.length c1),(.int .i64 x.Nd.Pj),(.int .i64 x.Nd.Px)])∧lrep w S [.slice A1 x.Nv.Nw.length c1] x.Nv.Nw:=by
  obtain⟨cs,h,rfl⟩:=h
  obtain⟨A1,c1,rfl,l1⟩:=uw h
  exact⟨A1,c1,rfl,l1⟩
theorem zI {x:Nh} (l1:lrep w S [.slice A1 m1 c1] x.Nv.Nw):GoTy.rep w S [(.int .i64 x.Id),(.int .i64 x.Nv.Pq),(.slice A1 m1 c1),(.int .i64 x.Nd.Pj),(.int .i64 x.Nd.Px)] x:=⟨_,_,rfl,rfl,⟨_,_,rfl,(iy l1),oT⟩⟩
theorem vM {x:Nh} (l1:lrep w S [.slice A1 m1 c1] x.Nv.Nw):VR w S (.agg #[(.int .i64 x.Id),(.int .i64 x.Nv.Pq),(.slice A1 m1 c1),(.int .i64 x.Nd.Pj),(.int .i64 x.Nd.Px)]) x:=⟨_,zI l1,rfl⟩
theorem zG {x:Nh} {F1:List Nat} (l1:lown w F1 [.slice A1 m1 c1] x.Nv.Nw):GoTy.own w F1 [(.int .i64 x.Id),(.int .i64 x.Nv.Pq),(.slice A1 m1 c1),(.int .i64 x.Nd.Pj),(.int .i64 x.Nd.Px)] x:=⟨_,_,[],F1,rfl,by simp,⟨rfl,rfl⟩,⟨_,_,F1,[],rfl,by simp,(ya l1),(nZ)⟩⟩
theorem rO {x:Nh} (h:GoTy.own w F cs x):∃A1 c1 F1,cs=[(.int .i64 x.Id),(.int .i64 x.Nv.Pq),(.slice A1 x.Nv.Nw.length c1),(.int .i64 x.Nd.Pj),(.int .i64 x.Nd.Px)]∧F1=F∧lown w F1 [.slice A1 x.Nv.Nw.length c1] x.Nv.Nw:=by
  obtain⟨p0,q0,X0,Y0,rfl,rfl,g0,k0⟩:=h
  obtain⟨rfl,rfl⟩:=g0
  obtain⟨p1,q1,X1,Y1,rfl,rfl,g1,k1⟩:=k0
  obtain⟨A1,c1,F1,rfl,rfl,l1⟩:=nC g1
  obtain rfl:=gR (GoTy.own_rep k1)
  obtain rfl:=pZ k1
  exact⟨A1,c1,_,rfl,by simp,l1⟩
theorem gj {v:Value} {x:Nh} (h:VO w F v x):∃A1 c1 F1,v=(.agg #[(.int .i64 x.Id),(.int .i64 x.Nv.Pq),(.slice A1 x.Nv.Nw.length c1),(.int .i64 x.Nd.Pj),(.int .i64 x.Nd.Px)])∧F1=F∧lown w F1 [.slice A1 x.Nv.Nw.length c1] x.Nv.Nw:=by
  obtain⟨cs,h,rfl⟩:=h
  obtain⟨A1,c1,F1,rfl,rfl,l1⟩:=rO h
  exact⟨_,_,_,rfl,rfl,l1⟩
instance:GoTy Nz:=GoTy.via (α:=(Nq)×(List Nh)) (λx=>(x.Nq,x.Nk))
theorem lw {x:Nz} (h:GoTy.rep w S cs x):∃A1 c1,∃A2 c2,∃A3 c3,cs=[(.slice A1 x.Nq.Nx.length c1),(.slice A2 x.Nq.Nw.length c2),(.slice A3 x.Nk.length c3)]∧lrep w S [.slice A1 x.Nq.Nx.length c1] x.Nq.Nx∧lrep w S [.slice A2 x.Nq.Nw.length c2] x.Nq.Nw∧lrep w S [.slice A3 x.Nk.length c3] x.Nk:=by
  obtain⟨p0,q0,rfl,g0,k0⟩:=h
  obtain⟨A1,c1,A2,c2,rfl,l1,l2⟩:=xQ g0
  obtain⟨A3,c3,rfl,l3⟩:=zf k0
  exact⟨A1,c1,A2,c2,A3,c3,rfl,l1,l2,l3⟩
theorem yG {v:Value} {x:Nz} (h:VR w S v x):∃A1 c1,∃A2 c2,∃A3 c3,v=(.agg #[(.slice A1 x.Nq.Nx.length c1),(.slice A2 x.Nq.Nw.length c2),(.slice A3 x.Nk.length c3)])∧lrep w S [.slice A1 x.Nq.Nx.length c1] x.Nq.Nx∧lrep w S [.slice A2 x.Nq.Nw.length c2] x.Nq.Nw∧lrep w S [.slice A3 x.Nk.length c3] x.Nk:=by
  obtain⟨cs,h,rfl⟩:=h
  obtain⟨A1,c1,A2,c2,A3,c3,rfl,l1,l2,l3⟩:=lw h
  exact⟨A1,c1,A2,c2,A3,c3,rfl,l1,l2,l3⟩
theorem rN {x:Nz} (l1:lrep w S [.slice A1 m1 c1] x.Nq.Nx) {A2:Option Addr} {m2 c2:Nat} (l2:lrep w S [.slice A2 m2 c2] x.Nq.Nw) {A3:Option Addr} {m3 c3:Nat} (l3:lrep w S [.slice A3 m3 c3] x.Nk):GoTy.rep w S [(.slice A1 m1 c1),(.slice A2 m2 c2),(.slice A3 m3 c3)] x:=⟨_,_,rfl,(yu l1 l2),l3⟩
theorem vO {x:Nz} (l1:lrep w S [.slice A1 m1 c1] x.Nq.Nx) {A2:Option Addr} {m2 c2:Nat} (l2:lrep w S [.slice A2 m2 c2] x.Nq.Nw) {A3:Option Addr} {m3 c3:Nat} (l3:lrep w S [.slice A3 m3 c3] x.Nk):VR w S (.agg #[(.slice A1 m1 c1),(.slice A2 m2 c2),(.slice A3 m3 c3)]) x:=⟨_,rN l1 l2 l3,rfl⟩
theorem gi {x:Nz} {F1:List Nat} (l1:lown w F1 [.slice A1 m1 c1] x.Nq.Nx) {A2:Option Addr} {m2 c2:Nat} {F2:List Nat} (l2:lown w F2 [.slice A2 m2 c2] x.Nq.Nw) {A3:Option Addr} {m3 c3:Nat} {F3:List Nat} (l3:lown w F3 [.slice A3 m3 c3] x.Nk):GoTy.own w (F1++(F2++F3)) [(.slice A1 m1 c1),(.slice A2 m2 c2),(.slice A3 m3 c3)] x:=⟨_,_,(F1++F2),F3,rfl,by simp,(vJ l1 l2),l3⟩
theorem oR {x:Nz} (h:GoTy.own w F cs x):∃A1 c1 F1,∃A2 c2 F2,∃A3 c3 F3,cs=[(.slice A1 x.Nq.Nx.length c1),(.slice A2 x.Nq.Nw.length c2),(.slice A3 x.Nk.length c3)]∧F1++(F2++(F3))=F∧lown w F1 [.slice A1 x.Nq.Nx.length c1] x.Nq.Nx∧lown w F2 [.slice A2 x.Nq.Nw.length c2] x.Nq.Nw∧lown w F3 [.slice A3 x.Nk.length c3] x.Nk:=by
  obtain⟨p0,q0,X0,Y0,rfl,rfl,g0,k0⟩:=h
  obtain⟨A1,c1,F1,A2,c2,F2,rfl,rfl,l1,l2⟩:=ki g0
  obtain⟨A3,c3,rfl,l3⟩:=aG k0
  exact⟨A1,c1,_,A2,c2,_,A3,c3,_,rfl,by simp,l1,l2,l3⟩
theorem eu {v:Value} {x:Nz} (h:VO w F v x):∃A1 c1 F1,∃A2 c2 F2,∃A3 c3 F3,v=(.agg #[(.slice A1 x.Nq.Nx.length c1),(.slice A2 x.Nq.Nw.length c2),(.slice A3 x.Nk.length c3)])∧F1++(F2++(F3))=F∧lown w F1 [.slice A1 x.Nq.Nx.length c1] x.Nq.Nx∧lown w F2 [.slice A2 x.Nq.Nw.length c2] x.Nq.Nw∧lown w F3 [.slice A3 x.Nk.length c3] x.Nk:=by
  obtain⟨cs,h,rfl⟩:=h
  obtain⟨A1,c1,F1,A2,c2,F2,A3,c3,F3,rfl,rfl,l1,l2,l3⟩:=oR h
  exact⟨_,_,_,_,_,_,_,_,_,rfl,rfl,l1,l2,l3⟩
instance:GoTy Format:=GoTy.via (α:=(Int)×(Int)) (λx=>(x.Reach,x.Rate))
instance:GoTy Nj:=GoTy.via (α:=(Nz)×(List Nh)×(List Int)) (λx=>(x.Nz,x.Ng,x.Np))
theorem bw {x:Nj} (h:GoTy.rep w S cs x):∃A1 c1,∃A2 c2,∃A3 c3,∃A4 c4,∃A5 c5,cs=[(.slice A1 x.Nz.Nq.Nx.length c1),(.slice A2 x.Nz.Nq.Nw.length c2),(.slice A3 x.Nz.Nk.length c3),(.slice A4 x.Ng.length c4),(.slice A5 x.Np.length c5)]∧lrep w S [.slice A1 x.Nz.Nq.Nx.length c1] x.Nz.Nq.Nx∧lrep w S [.slice A2 x.Nz.Nq.Nw.length c2] x.Nz.Nq.Nw∧lrep w S [.slice A3 x.Nz.Nk.length c3] x.Nz.Nk∧lrep w S [.slice A4 x.Ng.length c4] x.Ng∧lrep w S [.slice A5 x.Np.length c5] x.Np:=by
  obtain⟨p0,q0,rfl,g0,k0⟩:=h
  obtain⟨A1,c1,A2,c2,A3,c3,rfl,l1,l2,l3⟩:=lw g0
  obtain⟨p1,q1,rfl,g1,k1⟩:=k0
  obtain⟨A4,c4,rfl,l4⟩:=zf g1
  obtain⟨A5,c5,rfl,l5⟩:=zf k1
  exact⟨A1,c1,A2,c2,A3,c3,A4,c4,A5,c5,rfl,l1,l2,l3,l4,l5⟩
theorem uG {v:Value} {x:Nj} (h:VR w S v x):∃A1 c1,∃A2 c2,∃A3 c3,∃A4 c4,∃A5 c5,v=(.agg #[(.slice A1 x.Nz.Nq.Nx.length c1),(.slice A2 x.Nz.Nq.Nw.length c2),(.slice A3 x.Nz.Nk.length c3),(.slice A4 x.Ng.length c4),(.slice A5 x.Np.length c5)])∧lrep w S [.slice A1 x.Nz.Nq.Nx.length c1] x.Nz.Nq.Nx∧lrep w S [.slice A2 x.Nz.Nq.Nw.length c2] x.Nz.Nq.Nw∧lrep w S [.slice A3 x.Nz.Nk.length c3] x.Nz.Nk∧lrep w S [.slice A4 x.Ng.length c4] x.Ng∧lrep w S [.slice A5 x.Np.length c5] x.Np:=by
  obtain⟨cs,h,rfl⟩:=h
  obtain⟨A1,c1,A2,c2,A3,c3,A4,c4,A5,c5,rfl,l1,l2,l3,l4,l5⟩:=bw h
  exact⟨A1,c1,A2,c2,A3,c3,A4,c4,A5,c5,rfl,l1,l2,l3,l4,l5⟩
theorem cV {x:Nj} (l1:lrep w S [.slice A1 m1 c1] x.Nz.Nq.Nx) {A2:Option Addr} {m2 c2:Nat} (l2:lrep w S [.slice A2 m2 c2] x.Nz.Nq.Nw) {A3:Option Addr} {m3 c3:Nat} (l3:lrep w S [.slice A3 m3 c3] x.Nz.Nk) {A4:Option Addr} {m4 c4:Nat} (l4:lrep w S [.slice A4 m4 c4] x.Ng) {A5:Option Addr} {m5 c5:Nat} (l5:lrep w S [.slice A5 m5 c5] x.Np):GoTy.rep w S [(.slice A1 m1 c1),(.slice A2 m2 c2),(.slice A3 m3 c3),(.slice A4 m4 c4),(.slice A5 m5 c5)] x:=⟨_,_,rfl,(rN l1 l2 l3),⟨_,_,rfl,l4,l5⟩⟩
theorem ug {x:Nj} (l1:lrep w S [.slice A1 m1 c1] x.Nz.Nq.Nx) {A2:Option Addr} {m2 c2:Nat} (l2:lrep w S [.slice A2 m2 c2] x.Nz.Nq.Nw) {A3:Option Addr} {m3 c3:Nat} (l3:lrep w S [.slice A3 m3 c3] x.Nz.Nk) {A4:Option Addr} {m4 c4:Nat} (l4:lrep w S [.slice A4 m4 c4] x.Ng) {A5:Option Addr} {m5 c5:Nat} (l5:lrep w S [.slice A5 m5 c5] x.Np):VR w S (.agg #[(.slice A1 m1 c1),(.slice A2 m2 c2),(.slice A3 m3 c3),(.slice A4 m4 c4),(.slice A5 m5 c5)]) x:=⟨_,cV l1 l2 l3 l4 l5,rfl⟩
theorem uT {x:Nj} {F1:List Nat} (l1:lown w F1 [.slice A1 m1 c1] x.Nz.Nq.Nx) {A2:Option Addr} {m2 c2:Nat} {F2:List Nat} (l2:lown w F2 [.slice A2 m2 c2] x.Nz.Nq.Nw) {A3:Option Addr} {m3 c3:Nat} {F3:List Nat} (l3:lown w F3 [.slice A3 m3 c3] x.Nz.Nk) {A4:Option Addr} {m4 c4:Nat} {F4:List Nat} (l4:lown w F4 [.slice A4 m4 c4] x.Ng) {A5:Option Addr} {m5 c5:Nat} {F5:List Nat} (l5:lown w F5 [.slice A5 m5 c5] x.Np):GoTy.own w (F1++(F2++(F3++(F4++F5)))) [(.slice A1 m1 c1),(.slice A2 m2 c2),(.slice A3 m3 c3),(.slice A4 m4 c4),(.slice A5 m5 c5)] x:=⟨_,_,(F1++(F2++F3)),(F4++F5),rfl,by simp,(gi l1 l2 l3),⟨_,_,F4,F5,rfl,by simp,l4,l5⟩⟩
theorem kh {x:Nj} (h:GoTy.own w F cs x):∃A1 c1 F1,∃A2 c2 F2,∃A3 c3 F3,∃A4 c4 F4,∃A5 c5 F5,cs=[(.slice A1 x.Nz.Nq.Nx.length c1),(.slice A2 x.Nz.Nq.Nw.length c2),(.slice A3 x.Nz.Nk.length c3),(.slice A4 x.Ng.length c4),(.slice A5 x.Np.length c5)]∧F1++(F2++(F3++(F4++(F5))))=F∧lown w F1 [.slice A1 x.Nz.Nq.Nx.length c1] x.Nz.Nq.Nx∧lown w F2 [.slice A2 x.Nz.Nq.Nw.length c2] x.Nz.Nq.Nw∧lown w F3 [.slice A3 x.Nz.Nk.length c3] x.Nz.Nk∧lown w F4 [.slice A4 x.Ng.length c4] x.Ng∧lown w F5 [.slice A5 x.Np.length c5] x.Np:=by
  obtain⟨p0,q0,X0,Y0,rfl,rfl,g0,k0⟩:=h
  obtain⟨A1,c1,F1,A2,c2,F2,A3,c3,F3,rfl,rfl,l1,l2,l3⟩:=oR g0
  obtain⟨p1,q1,X1,Y1,rfl,rfl,g1,k1⟩:=k0
  obtain⟨A4,c4,rfl,l4⟩:=aG g1
  obtain⟨A5,c5,rfl,l5⟩:=aG k1
  exact⟨A1,c1,_,A2,c2,_,A3,c3,_,A4,c4,_,A5,c5,_,rfl,by simp,l1,l2,l3,l4,l5⟩
theorem uM {v:Value} {x:Nj} (h:VO w F v x):∃A1 c1 F1,∃A2 c2 F2,∃A3 c3 F3,∃A4 c4 F4,∃A5 c5 F5,v=(.agg #[(.slice A1 x.Nz.Nq.Nx.length c1),(.slice A2 x.Nz.Nq.Nw.length c2),(.slice A3 x.Nz.Nk.length c3),(.slice A4 x.Ng.length c4),(.slice A5 x.Np.length c5)])∧F1++(F2++(F3++(F4++(F5))))=F∧lown w F1 [.slice A1 x.Nz.Nq.Nx.length c1] x.Nz.Nq.Nx∧lown w F2 [.slice A2 x.Nz.Nq.Nw.length c2] x.Nz.Nq.Nw∧lown w F3 [.slice A3 x.Nz.Nk.length c3] x.Nz.Nk∧lown w F4 [.slice A4 x.Ng.length c4] x.Ng∧lown w F5 [.slice A5 x.Np.length c5] x.Np:=by
  obtain⟨cs,h,rfl⟩:=h
  obtain⟨A1,c1,F1,A2,c2,F2,A3,c3,F3,A4,c4,F4,A5,c5,F5,rfl,rfl,l1,l2,l3,l4,l5⟩:=kh h
  exact⟨_,_,_,_,_,_,_,_,_,_,_,_,_,_,_,rfl,rfl,l1,l2,l3,l4,l5⟩
instance:GoTy Ph:=GoTy.via (α:=(Nq)×(Int)×(List Nv)) (λx=>(x.n,x.to,x.list))
theorem vy {x:Ph} (h:GoTy.rep w S cs x):∃A1 c1,∃A2 c2,∃A3 c3,cs=[(.slice A1 x.n.Nx.length c1),(.slice A2 x.n.Nw.length c2),(.int .i64 x.to),(.slice A3 x.list.length c3)]∧lrep w S [.slice A1 x.n.Nx.length c1] x.n.Nx∧lrep w S [.slice A2 x.n.Nw.length c2] x.n.Nw∧lrep w S [.slice A3 x.list.length c3] x.list:=by
  obtain⟨p0,q0,rfl,g0,k0⟩:=h
  obtain⟨A1,c1,A2,c2,rfl,l1,l2⟩:=xQ g0
  obtain⟨p1,q1,rfl,g1,k1⟩:=k0
  obtain rfl:=g1
  obtain⟨A3,c3,rfl,l3⟩:=zf k1
  exact⟨A1,c1,A2,c2,A3,c3,rfl,l1,l2,l3⟩
theorem vU {x:Ph} (l1:lrep w S [.slice A1 m1 c1] x.n.Nx) {A2:Option Addr} {m2 c2:Nat} (l2:lrep w S [.slice A2 m2 c2] x.n.Nw) {A3:Option Addr} {m3 c3:Nat} (l3:lrep w S [.slice A3 m3 c3] x.list):GoTy.rep w S [(.slice A1 m1 c1),(.slice A2 m2 c2),(.int .i64 x.to),(.slice A3 m3 c3)] x:=⟨_,_,rfl,(yu l1 l2),⟨_,_,rfl,rfl,l3⟩⟩
instance:GoTy Action:=GoTy.via (α:=(Int)×(Nh)) (λx=>(x.Kind,x.Nh))
instance:GoTy L20SearchP:=GoTy.via (α:=(List Action)×(List Bool)) (λx=>(x.list,x.failed))
instance:GoTy FiberEvent:=GoTy.via (α:=(Bool)×(List Int)) (λx=>(x.Fail,x.Nw))
instance:GoTy Demand:=GoTy.via (α:=(Int)×(Int)×(Int)×(Int)) (λx=>(x.From,x.To,x.Rate,x.Class))
instance:GoTy Served:=GoTy.via (α:=(Nz)×(List Int)×(Int)) (λx=>(x.Nz,x.Ids,x.Blocked))
instance:GoTy ChoiceP:=GoTy.via (α:=(Nv)×(Int)) (λx=>(x.route,x.count))
theorem Lens.via {N α β:Type} [GoTy α] [GoTy β] {f:N→α} {q:Nat} {get:α→β} {put:α→β→α} (h:Lens α β q get put) (g:N→β) (p:N→β→N) (hg:∀e,g e=get (f e)) (hp:∀e y,f (p e y)=put (f e) y):@Lens N β (GoTy.via f) _ q g p:=by
  refine @Lens.mk N β (GoTy.via f) _ q g p ?_
  intro w F cs e ho
  obtain⟨Fa,F1,Fc,c,hF,hc,h1,h2⟩:=h.at_ (e:=f e) ho
  refine⟨Fa,F1,Fc,c,hF,hc,by rw[hg]; exact h1,λw1 F2 y a b d=>?_⟩
  have:=h2 w1 F2 y a b d
  rw[←hp]at this; exact this
namespace TF
theorem fF:AI Tryz.prog 180 4 (.agg #[(.int .i64 0),(.int .i64 0),(.int .i64 0),(.int .i64 0)]) 32:=by unfold AI; kernel_rfl
theorem ai3:AI Tryz.prog 3 1 (.int .i64 0) 8:=by unfold AI; kernel_rfl
theorem ai45:AI Tryz.prog 45 2 (.agg #[(.int .i64 0),(.slice none 0 0)]) 32:=by unfold AI; kernel_rfl
theorem ai49:AI Tryz.prog 49 5 (.agg #[(.int .i64 0),(.int .i64 0),(.slice none 0 0),(.int .i64 0),(.int .i64 0)]) 56:=by unfold AI; kernel_rfl
theorem ai9:AI Tryz.prog 9 1 (.string ByteArray.empty) 16:=by unfold AI; kernel_rfl
theorem cl10:CL Tryz.prog 10:=λ_ _=>by kernel_rfl
theorem wJ:CL Tryz.prog 106:=λ_ _=>by kernel_rfl
theorem zF:CL Tryz.prog 121:=λ_ _=>by kernel_rfl
theorem AS:CL Tryz.prog 123:=λ_ _=>by kernel_rfl
theorem wI:CL Tryz.prog 124:=λ_ _=>by kernel_rfl
theorem CK:CL Tryz.prog 125:=λ_ _=>by kernel_rfl
theorem AR:CL Tryz.prog 126:=λ_ _=>by kernel_rfl
theorem AQ:CL Tryz.prog 127:=λ_ _=>by kernel_rfl
theorem CJ:CL Tryz.prog 128:=λ_ _=>by kernel_rfl
theorem CI:CL Tryz.prog 129:=λ_ _=>by kernel_rfl
theorem AP:CL Tryz.prog 130:=λ_ _=>by kernel_rfl
theorem AO:CL Tryz.prog 131:=λ_ _=>by kernel_rfl
theorem CH:CL Tryz.prog 132:=λ_ _=>by kernel_rfl
theorem AN:CL Tryz.prog 133:=λ_ _=>by kernel_rfl
theorem AM:CL Tryz.prog 134:=λ_ _=>by kernel_rfl
theorem CG:CL Tryz.prog 135:=λ_ _=>by kernel_rfl
theorem CF:CL Tryz.prog 136:=λ_ _=>by kernel_rfl
theorem ny:CL Tryz.prog 140:=λ_ _=>by kernel_rfl
theorem AL:CL Tryz.prog 141:=λ_ _=>by kernel_rfl
theorem kc:CL Tryz.prog 142:=λ_ _=>by kernel_rfl
theorem CC:CL Tryz.prog 143:=λ_ _=>by kernel_rfl
theorem CB:CL Tryz.prog 144:=λ_ _=>by kernel_rfl
theorem Cz:CL Tryz.prog 145:=λ_ _=>by kernel_rfl
theorem iv:CL Tryz.prog 153:=λ_ _=>by kernel_rfl
theorem rJ:CL Tryz.prog 154:=λ_ _=>by kernel_rfl
theorem pU:CL Tryz.prog 156:=λ_ _=>by kernel_rfl
theorem Cy:CL Tryz.prog 157:=λ_ _=>by kernel_rfl
theorem Cx:CL Tryz.prog 158:=λ_ _=>by kernel_rfl
theorem Cw:CL Tryz.prog 159:=λ_ _=>by kernel_rfl
theorem jn:CL Tryz.prog 160:=λ_ _=>by kernel_rfl
theorem Cv:CL Tryz.prog 161:=λ_ _=>by kernel_rfl
theorem AK:CL Tryz.prog 162:=λ_ _=>by kernel_rfl
theorem AJ:CL Tryz.prog 163:=λ_ _=>by kernel_rfl
theorem B9:CL Tryz.prog 164:=λ_ _=>by kernel_rfl
theorem B8:CL Tryz.prog 165:=λ_ _=>by kernel_rfl
theorem B7:CL Tryz.prog 166:=λ_ _=>by kernel_rfl
theorem tj:CL Tryz.prog 167:=λ_ _=>by kernel_rfl
theorem cl17:CL Tryz.prog 17:=λ_ _=>by kernel_rfl
theorem B6:CL Tryz.prog 172:=λ_ _=>by kernel_rfl
theorem B5:CL Tryz.prog 173:=λ_ _=>by kernel_rfl
theorem rI:CL Tryz.prog 174:=λ_ _=>by kernel_rfl
theorem wH:CL Tryz.prog 175:=λ_ _=>by kernel_rfl
theorem ti:CL Tryz.prog 176:=λ_ _=>by kernel_rfl
theorem AH:CL Tryz.prog 177:=λ_ _=>by kernel_rfl
theorem pS:CL Tryz.prog 178:=λ_ _=>by kernel_rfl
theorem B4:CL Tryz.prog 179:=λ_ _=>by kernel_rfl
theorem cl18:CL Tryz.prog 18:=λ_ _=>by kernel_rfl
theorem B3:CL Tryz.prog 180:=λ_ _=>by kernel_rfl
theorem B2:CL Tryz.prog 181:=λ_ _=>by kernel_rfl
theorem AG:CL Tryz.prog 182:=λ_ _=>by kernel_rfl
theorem B1:CL Tryz.prog 184:=λ_ _=>by kernel_rfl
theorem wG:CL Tryz.prog 185:=λ_ _=>by kernel_rfl
theorem rH:CL Tryz.prog 186:=λ_ _=>by kernel_rfl
theorem wF:CL Tryz.prog 187:=λ_ _=>by kernel_rfl
theorem tg:CL Tryz.prog 188:=λ_ _=>by kernel_rfl
theorem fW:CL Tryz.prog 192:=λ_ _=>by kernel_rfl
theorem wE:CL Tryz.prog 197:=λ_ _=>by kernel_rfl
theorem B0:CL Tryz.prog 198:=λ_ _=>by kernel_rfl
theorem BZ:CL Tryz.prog 199:=λ_ _=>by kernel_rfl
theorem AF:CL Tryz.prog 213:=λ_ _=>by kernel_rfl
theorem tf:CL Tryz.prog 214:=λ_ _=>by kernel_rfl
theorem BY:CL Tryz.prog 215:=λ_ _=>by kernel_rfl
theorem BX:CL Tryz.prog 216:=λ_ _=>by kernel_rfl
theorem AE:CL Tryz.prog 219:=λ_ _=>by kernel_rfl
theorem BW:CL Tryz.prog 220:=λ_ _=>by kernel_rfl
theorem wD:CL Tryz.prog 221:=λ_ _=>by kernel_rfl
theorem AD:CL Tryz.prog 222:=λ_ _=>by kernel_rfl
theorem AC:CL Tryz.prog 225:=λ_ _=>by kernel_rfl
theorem BV:CL Tryz.prog 226:=λ_ _=>by kernel_rfl
theorem BU:CL Tryz.prog 227:=λ_ _=>by kernel_rfl
theorem AB:CL Tryz.prog 228:=λ_ _=>by kernel_rfl
theorem AA:CL Tryz.prog 229:=λ_ _=>by kernel_rfl
theorem Az:CL Tryz.prog 230:=λ_ _=>by kernel_rfl
theorem BS:CL Tryz.prog 231:=λ_ _=>by kernel_rfl
theorem BR:CL Tryz.prog 238:=λ_ _=>by kernel_rfl
theorem cl24:CL Tryz.prog 24:=λ_ _=>by kernel_rfl
theorem BQ:CL Tryz.prog 241:=λ_ _=>by kernel_rfl
theorem Ay:CL Tryz.prog 242:=λ_ _=>by kernel_rfl
theorem BP:CL Tryz.prog 245:=λ_ _=>by kernel_rfl
theorem Ax:CL Tryz.prog 246:=λ_ _=>by kernel_rfl
theorem BO:CL Tryz.prog 248:=λ_ _=>by kernel_rfl
theorem Aw:CL Tryz.prog 249:=λ_ _=>by kernel_rfl
theorem cl25:CL Tryz.prog 25:=λ_ _=>by kernel_rfl
theorem BN:CL Tryz.prog 257:=λ_ _=>by kernel_rfl
theorem BM:CL Tryz.prog 258:=λ_ _=>by kernel_rfl
theorem BL:CL Tryz.prog 259:=λ_ _=>by kernel_rfl
theorem cl26:CL Tryz.prog 26:=λ_ _=>by kernel_rfl
theorem Av:CL Tryz.prog 260:=λ_ _=>by kernel_rfl
theorem BK:CL Tryz.prog 261:=λ_ _=>by kernel_rfl
theorem BJ:CL Tryz.prog 262:=λ_ _=>by kernel_rfl
theorem cl27:CL Tryz.prog 27:=λ_ _=>by kernel_rfl
theorem BI:CL Tryz.prog 282:=λ_ _=>by kernel_rfl
theorem BH:CL Tryz.prog 283:=λ_ _=>by kernel_rfl
theorem BG:CL Tryz.prog 284:=λ_ _=>by kernel_rfl
theorem BF:CL Tryz.prog 285:=λ_ _=>by kernel_rfl
theorem BE:CL Tryz.prog 286:=λ_ _=>by kernel_rfl
theorem td:CL Tryz.prog 290:=λ_ _=>by kernel_rfl
theorem nx:CL Tryz.prog 291:=λ_ _=>by kernel_rfl
theorem tc:CL Tryz.prog 292:=λ_ _=>by kernel_rfl
theorem pR:CL Tryz.prog 293:=λ_ _=>by kernel_rfl
theorem Au:CL Tryz.prog 299:=λ_ _=>by kernel_rfl
theorem As:CL Tryz.prog 302:=λ_ _=>by kernel_rfl
theorem BD:CL Tryz.prog 303:=λ_ _=>by kernel_rfl
theorem BC:CL Tryz.prog 308:=λ_ _=>by kernel_rfl
theorem BB:CL Tryz.prog 319:=λ_ _=>by kernel_rfl
theorem wC:CL Tryz.prog 320:=λ_ _=>by kernel_rfl
theorem BA:CL Tryz.prog 321:=λ_ _=>by kernel_rfl
theorem Ar:CL Tryz.prog 322:=λ_ _=>by kernel_rfl
theorem Bz:CL Tryz.prog 323:=λ_ _=>by kernel_rfl
theorem Bw:CL Tryz.prog 324:=λ_ _=>by kernel_rfl
theorem Bv:CL Tryz.prog 325:=λ_ _=>by kernel_rfl
theorem Bu:CL Tryz.prog 330:=λ_ _=>by kernel_rfl
theorem Aq:CL Tryz.prog 332:=λ_ _=>by kernel_rfl
theorem Bs:CL Tryz.prog 336:=λ_ _=>by kernel_rfl
theorem Br:CL Tryz.prog 342:=λ_ _=>by kernel_rfl
theorem ka:CL Tryz.prog 347:=λ_ _=>by kernel_rfl
theorem Bq:CL Tryz.prog 361:=λ_ _=>by kernel_rfl
theorem Bp:CL Tryz.prog 366:=λ_ _=>by kernel_rfl
theorem ta:CL Tryz.prog 369:=λ_ _=>by kernel_rfl
theorem cl44:CL Tryz.prog 44:=λ_ _=>by kernel_rfl
theorem cl45:CL Tryz.prog 45:=λ_ _=>by kernel_rfl
theorem cl46:CL Tryz.prog 46:=λ_ _=>by kernel_rfl
theorem cl47:CL Tryz.prog 47:=λ_ _=>by kernel_rfl
theorem cl48:CL Tryz.prog 48:=λ_ _=>by kernel_rfl
theorem cl49:CL Tryz.prog 49:=λ_ _=>by kernel_rfl
theorem cl50:CL Tryz.prog 50:=λ_ _=>by kernel_rfl
theorem cl56:CL Tryz.prog 56:=λ_ _=>by kernel_rfl
theorem cl64:CL Tryz.prog 64:=λ_ _=>by kernel_rfl
theorem cl65:CL Tryz.prog 65:=λ_ _=>by kernel_rfl
theorem cl66:CL Tryz.prog 66:=λ_ _=>by kernel_rfl
theorem cl67:CL Tryz.prog 67:=λ_ _=>by kernel_rfl
theorem cl69:CL Tryz.prog 69:=λ_ _=>by kernel_rfl
theorem cl70:CL Tryz.prog 70:=λ_ _=>by kernel_rfl
theorem cl72:CL Tryz.prog 72:=λ_ _=>by kernel_rfl
theorem cl73:CL Tryz.prog 73:=λ_ _=>by kernel_rfl
theorem cl74:CL Tryz.prog 74:=λ_ _=>by kernel_rfl
theorem cl75:CL Tryz.prog 75:=λ_ _=>by kernel_rfl
theorem cl76:CL Tryz.prog 76:=λ_ _=>by kernel_rfl
theorem cl77:CL Tryz.prog 77:=λ_ _=>by kernel_rfl
theorem cl80:CL Tryz.prog 80:=λ_ _=>by kernel_rfl
theorem cl82:CL Tryz.prog 82:=λ_ _=>by kernel_rfl
theorem cl83:CL Tryz.prog 83:=λ_ _=>by kernel_rfl
theorem cl84:CL Tryz.prog 84:=λ_ _=>by kernel_rfl
theorem cl85:CL Tryz.prog 85:=λ_ _=>by kernel_rfl
theorem cl86:CL Tryz.prog 86:=λ_ _=>by kernel_rfl
theorem cl87:CL Tryz.prog 87:=λ_ _=>by kernel_rfl
theorem cl88:CL Tryz.prog 88:=λ_ _=>by kernel_rfl
theorem cl89:CL Tryz.prog 89:=λ_ _=>by kernel_rfl
theorem cl91:CL Tryz.prog 91:=λ_ _=>by kernel_rfl
theorem cl92:CL Tryz.prog 92:=λ_ _=>by kernel_rfl
theorem cl94:CL Tryz.prog 94:=λ_ _=>by kernel_rfl
theorem cl95:CL Tryz.prog 95:=λ_ _=>by kernel_rfl
theorem cl96:CL Tryz.prog 96:=λ_ _=>by kernel_rfl
theorem cl97:CL Tryz.prog 97:=λ_ _=>by kernel_rfl
theorem cl98:CL Tryz.prog 98:=λ_ _=>by kernel_rfl
theorem dh:LA Tryz.prog 180 4:=λ_ _=>by kernel_rfl
theorem la27:LA Tryz.prog 27 2:=λ_ _=>by kernel_rfl
theorem la30:LA Tryz.prog 30 3:=λ_ _=>by kernel_rfl
theorem la45:LA Tryz.prog 45 2:=λ_ _=>by kernel_rfl
theorem la47:LA Tryz.prog 47 2:=λ_ _=>by kernel_rfl
theorem la49:LA Tryz.prog 49 5:=λ_ _=>by kernel_rfl
theorem la60:LA Tryz.prog 60 5:=λ_ _=>by kernel_rfl
theorem sF:LS Tryz.prog 107:=λ_ _=>by kernel_rfl
theorem ls22:LS Tryz.prog 22:=λ_ _=>by kernel_rfl
theorem jk:LS Tryz.prog 230:=λ_ _=>by kernel_rfl
theorem ls24:LS Tryz.prog 24:=λ_ _=>by kernel_rfl
theorem ls25:LS Tryz.prog 25:=λ_ _=>by kernel_rfl
theorem ls28:LS Tryz.prog 28:=λ_ _=>by kernel_rfl
theorem Am:LS Tryz.prog 299:=λ_ _=>by kernel_rfl
theorem ls3:LS Tryz.prog 3:=λ_ _=>by kernel_rfl
theorem ls35:LS Tryz.prog 35:=λ_ _=>by kernel_rfl
theorem ls5:LS Tryz.prog 5:=λ_ _=>by kernel_rfl
theorem ls9:LS Tryz.prog 9:=λ_ _=>by kernel_rfl
theorem pt3:PT Tryz.prog 3:=λ_=>⟨by kernel_rfl,by kernel_rfl⟩
theorem wh:EQT Tryz.prog 180 4 3:=⟨by kernel_rfl,by kernel_rfl,by kernel_rfl,by kernel_rfl,by kernel_rfl,pt3,⟨_,Tryz.underlying3⟩⟩
theorem Ai:EQT Tryz.prog 47 2 3:=⟨by kernel_rfl,by kernel_rfl,by kernel_rfl,by kernel_rfl,by kernel_rfl,pt3,⟨_,Tryz.underlying3⟩⟩
theorem wN:SZ Tryz.prog 107 1:=λ_=>by kernel_rfl
theorem zZ:SZ Tryz.prog 180 4:=λ_=>by kernel_rfl
theorem qh:SZ Tryz.prog 230 1:=λ_=>by kernel_rfl
theorem sz24:SZ Tryz.prog 24 1:=λ_=>by kernel_rfl
theorem sz25:SZ Tryz.prog 25 1:=λ_=>by kernel_rfl
theorem sz27:SZ Tryz.prog 27 2:=λ_=>by kernel_rfl
theorem sz28:SZ Tryz.prog 28 1:=λ_=>by kernel_rfl
theorem Bc:SZ Tryz.prog 299 1:=λ_=>by kernel_rfl
theorem sz3:SZ Tryz.prog 3 1:=λ_=>by kernel_rfl
theorem sz30:SZ Tryz.prog 30 3:=λ_=>by kernel_rfl
theorem sz35:SZ Tryz.prog 35 1:=λ_=>by kernel_rfl
theorem sz45:SZ Tryz.prog 45 2:=λ_=>by kernel_rfl
theorem sz47:SZ Tryz.prog 47 2:=λ_=>by kernel_rfl
theorem sz49:SZ Tryz.prog 49 5:=λ_=>by kernel_rfl
theorem sz5:SZ Tryz.prog 5 1:=λ_=>by kernel_rfl
theorem sz60:SZ Tryz.prog 60 5:=λ_=>by kernel_rfl
theorem sz9:SZ Tryz.prog 9 1:=λ_=>by kernel_rfl
theorem rR:ZV Tryz.prog 180 (.agg #[(.int .i64 0),(.int .i64 0),(.int .i64 0),(.int .i64 0)]):=λ_=>by kernel_rfl
theorem Bb:ZV Tryz.prog 230 (.slice none 0 0):=λ_=>by kernel_rfl
theorem zv27:ZV Tryz.prog 27 (.agg #[(.slice none 0 0),(.slice none 0 0)]):=λ_=>by kernel_rfl
theorem Ba:ZV Tryz.prog 299 .nilFunc:=λ_=>by kernel_rfl
theorem zv3:ZV Tryz.prog 3 (.int .i64 0):=λ_=>by kernel_rfl
theorem zv30:ZV Tryz.prog 30 (.agg #[(.slice none 0 0),(.slice none 0 0),(.slice none 0 0)]):=λ_=>by kernel_rfl
theorem zv35:ZV Tryz.prog 35 (.slice none 0 0):=λ_=>by kernel_rfl
theorem zv45:ZV Tryz.prog 45 (.agg #[(.int .i64 0),(.slice none 0 0)]):=λ_=>by kernel_rfl
theorem zv47:ZV Tryz.prog 47 (.agg #[(.int .i64 0),(.int .i64 0)]):=λ_=>by kernel_rfl
theorem zv49:ZV Tryz.prog 49 (.agg #[(.int .i64 0),(.int .i64 0),(.slice none 0 0),(.int .i64 0),(.int .i64 0)]):=λ_=>by kernel_rfl
theorem zv60:ZV Tryz.prog 60 (.agg #[(.slice none 0 0),(.slice none 0 0),(.slice none 0 0),(.slice none 0 0),(.slice none 0 0)]):=λ_=>by kernel_rfl
end TF
def tab:Tab:=⟨[22,24,25,28,31,32,35,70,75,78,87,213,228,230,246,318],[4],[9],[(27,0,0),(27,1,1),(30,0,0),(30,1,2),(37,0,0),(37,1,3),(37,2,4),(45,0,0),(45,1,1),(47,0,0),(47,1,1),(49,0,0),(49,1,1),(49,2,3),(51,0,0),(51,1,1),(51,2,2),(51,3,3),(60,0,0),(60,1,3),(60,2,4),(77,0,0),(77,1,1),(80,0,0),(80,1,2),(94,0,0),(94,1,1),(109,0,0),(109,1,1),(109,2,2),(145,0,0),(145,1,1),(148,0,0),(148,1,1),(180,0,0),(180,1,1),(180,2,2),(180,3,3),(182,0,0),(182,1,1),(198,0,0),(198,1,2),(218,0,0),(218,1,1),(219,0,0),(219,1,1),(221,0,0),(221,1,1),(221,2,3),(261,0,0),(261,1,1),(261,2,2),(261,3,3),(322,0,0),(322,1,2),(322,2,3)]⟩
theorem lY:∀{l:List Nat} {x:Nat},inl l x=true→x∈l
  | y::r,x,h=>by
    unfold inl at h
    cases hb:Nat.beq y x <;> rw[hb]at h
    · exact Df _ (lY h)
    · rw[Fh hb]; exact Ds
theorem oK:∀{l:List (TypeId×Nat×Nat)} {t f o:Nat},foff l t f=some o→(t,f,o)∈l
  | (t',f',o')::r,t,f,o,h=>by
    unfold foff at h
    cases hb:(Nat.beq t' t&&Nat.beq f' f) <;> rw[hb]at h
    · exact Df _ (oK h)
    · simp only[CW]at hb
      injection h with h
      rw[Fh hb.1,Fh hb.2,h]; exact Ds
theorem tabOk:TabOk Tryz.prog tab where
  sl:=λT h=>by
    have h:=lY h
    simp only[tab,De,Ew,or_false]at h
    rcases h with rfl | rfl | rfl | rfl | rfl | rfl | rfl | rfl | rfl | rfl | rfl | rfl | rfl | rfl | rfl | rfl
    · exact⟨_,Tryz.underlying22⟩
    · exact⟨_,Tryz.underlying24⟩
    · exact⟨_,Tryz.underlying25⟩
    · exact⟨_,Tryz.underlying28⟩
    · exact⟨_,Tryz.underlying31⟩
    · exact⟨_,Tryz.underlying32⟩
    · exact⟨_,Tryz.underlying35⟩
    · exact⟨_,Tryz.underlying70⟩
    · exact⟨_,Tryz.underlying75⟩
    · exact⟨_,Tryz.underlying78⟩
    · exact⟨_,Tryz.underlying87⟩
    · exact⟨_,Tryz.underlying213⟩
    · exact⟨_,Tryz.underlying228⟩
    · exact⟨_,Tryz.underlying230⟩
    · exact⟨_,Tryz.underlying246⟩
    · exact⟨_,Tryz.underlying318⟩
  bo:=λT h=>by
    have h:=lY h
    simp only[tab,De,Ew,or_false]at h
    rcases h with rfl
    · exact Tryz.underlying4
  st:=λT h=>by
    have h:=lY h
    simp only[tab,De,Ew,or_false]at h
    rcases h with rfl
    · exact Tryz.underlying9
  fa:=λT f o h=>by
    have h:=oK h
    simp only[tab,De,Ew,or_false,DV]at h
    rcases h with ⟨rfl,rfl,rfl⟩ | ⟨rfl,rfl,rfl⟩ | ⟨rfl,rfl,rfl⟩ | ⟨rfl,rfl,rfl⟩ | ⟨rfl,rfl,rfl⟩ | ⟨rfl,rfl,rfl⟩ | ⟨rfl,rfl,rfl⟩ | ⟨rfl,rfl,rfl⟩ | ⟨rfl,rfl,rfl⟩ | ⟨rfl,rfl,rfl⟩ | ⟨rfl,rfl,rfl⟩ | ⟨rfl,rfl,rfl⟩ | ⟨rfl,rfl,rfl⟩ | ⟨rfl,rfl,rfl⟩ | ⟨rfl,rfl,rfl⟩ | ⟨rfl,rfl,rfl⟩ | ⟨rfl,rfl,rfl⟩ | ⟨rfl,rfl,rfl⟩ | ⟨rfl,rfl,rfl⟩ | ⟨rfl,rfl,rfl⟩ | ⟨rfl,rfl,rfl⟩ | ⟨rfl,rfl,rfl⟩ | ⟨rfl,rfl,rfl⟩ | ⟨rfl,rfl,rfl⟩ | ⟨rfl,rfl,rfl⟩ | ⟨rfl,rfl,rfl⟩ | ⟨rfl,rfl,rfl⟩ | ⟨rfl,rfl,rfl⟩ | ⟨rfl,rfl,rfl⟩ | ⟨rfl,rfl,rfl⟩ | ⟨rfl,rfl,rfl⟩ | ⟨rfl,rfl,rfl⟩ | ⟨rfl,rfl,rfl⟩ | ⟨rfl,rfl,rfl⟩ | ⟨rfl,rfl,rfl⟩ | ⟨rfl,rfl,rfl⟩ | ⟨rfl,rfl,rfl⟩ | ⟨rfl,rfl,rfl⟩ | ⟨rfl,rfl,rfl⟩ | ⟨rfl,rfl,rfl⟩ | ⟨rfl,rfl,rfl⟩ | ⟨rfl,rfl,rfl⟩ | ⟨rfl,rfl,rfl⟩ | ⟨rfl,rfl,rfl⟩ | ⟨rfl,rfl,rfl⟩ | ⟨rfl,rfl,rfl⟩ | ⟨rfl,rfl,rfl⟩ | ⟨rfl,rfl,rfl⟩ | ⟨rfl,rfl,rfl⟩ | ⟨rfl,rfl,rfl⟩ | ⟨rfl,rfl,rfl⟩ | ⟨rfl,rfl,rfl⟩ | ⟨rfl,rfl,rfl⟩ | ⟨rfl,rfl,rfl⟩ | ⟨rfl,rfl,rfl⟩ | ⟨rfl,rfl,rfl⟩
    · exact λ_ _=>by kernel_rfl
    · exact λ_ _=>by kernel_rfl
    · exact λ_ _=>by kernel_rfl
    · exact λ_ _=>by kernel_rfl
    · exact λ_ _=>by kernel_rfl
    · exact λ_ _=>by kernel_rfl
    · exact λ_ _=>by kernel_rfl
    · exact λ_ _=>by kernel_rfl
    · exact λ_ _=>by kernel_rfl
    · exact λ_ _=>by kernel_rfl
    · exact λ_ _=>by kernel_rfl
    · exact λ_ _=>by kernel_rfl
    · exact λ_ _=>by kernel_rfl
    · exact λ_ _=>by kernel_rfl
    · exact λ_ _=>by kernel_rfl
    · exact λ_ _=>by kernel_rfl
    · exact λ_ _=>by kernel_rfl
    · exact λ_ _=>by kernel_rfl
    · exact λ_ _=>by kernel_rfl
    · exact λ_ _=>by kernel_rfl
    · exact λ_ _=>by kernel_rfl
    · exact λ_ _=>by kernel_rfl
    · exact λ_ _=>by kernel_rfl
    · exact λ_ _=>by kernel_rfl
    · exact λ_ _=>by kernel_rfl
    · exact λ_ _=>by kernel_rfl
    · exact λ_ _=>by kernel_rfl
    · exact λ_ _=>by kernel_rfl
    · exact λ_ _=>by kernel_rfl
    · exact λ_ _=>by kernel_rfl
    · exact λ_ _=>by kernel_rfl
    · exact λ_ _=>by kernel_rfl
    · exact λ_ _=>by kernel_rfl
    · exact λ_ _=>by kernel_rfl
    · exact λ_ _=>by kernel_rfl
    · exact λ_ _=>by kernel_rfl
    · exact λ_ _=>by kernel_rfl
    · exact λ_ _=>by kernel_rfl
    · exact λ_ _=>by kernel_rfl
    · exact λ_ _=>by kernel_rfl
    · exact λ_ _=>by kernel_rfl
    · exact λ_ _=>by kernel_rfl
    · exact λ_ _=>by kernel_rfl
    · exact λ_ _=>by kernel_rfl
    · exact λ_ _=>by kernel_rfl
    · exact λ_ _=>by kernel_rfl
    · exact λ_ _=>by kernel_rfl
    · exact λ_ _=>by kernel_rfl
    · exact λ_ _=>by kernel_rfl
    · exact λ_ _=>by kernel_rfl
    · exact λ_ _=>by kernel_rfl
    · exact λ_ _=>by kernel_rfl
    · exact λ_ _=>by kernel_rfl
    · exact λ_ _=>by kernel_rfl
    · exact λ_ _=>by kernel_rfl
    · exact λ_ _=>by kernel_rfl
section
variable {Q:Exit→Act→World→Prop} {w:World} {n:Nat}
theorem pr {ops:List Oper} (k:Nat) {L:List (Nat×Value)} {l:List Oper} {L':List (Nat×Value)} {l':List Oper} {a:Act} (hf:Fr a n L) (hd:pK n l=true) (h:pRun tab ops k L l=(L',l')) (hk:∀a',Fr a' n L'→wpList Tryz.prog ops.toArray Q l' a' w):wpList Tryz.prog ops.toArray Q l a w:=wj tabOk k L l hf hd h hk
variable {S0:World→Prop} {B:List Nat} {bs:List Bool} {a:Act} {fuel d:Nat} {L:List (Nat×Value)} {Mid:Act→World→Prop} {op:Op} {v:Value} {l:List Oper} {t:TypeId} {ps:String} {af:Array Edge}
theorem tp (i:Nat) (hi:l[i]?=some ⟨some d,op,t,ps,af,none⟩) (hdn:Nat.ble (d + 1) n=true) (hf:Fr a n L) (hc:takeB l bs i [] B=true) (hS:nb B bs.toArray=true→S0 w) (hv:pOp tab L op=some v) (h:∀a',Fr a' n ((d,v)::L)→DL Tryz.prog l Mid S0 B fuel (bs.set i true) a' w):DL Tryz.prog l Mid S0 B (fuel + 1) bs a w:=tP i hi rfl rfl hdn hf hc hS (λ_=>mO tabOk hf hv) h
theorem tpg (i:Nat) {j e:Nat} {b:Bool} (hi:l[i]?=some ⟨some d,op,t,ps,af,some (j,b)⟩) (hj:(l[j]?).bind (·.dst)=some e) (hb:lk L e=some (.bool b)) (hdn:Nat.ble (d + 1) n=true) (hf:Fr a n L) (hc:takeB l bs i [] B=true) (hS:nb B bs.toArray=true→S0 w) (hv:pOp tab L op=some v) (h:∀a',Fr a' n ((d,v)::L)→DL Tryz.prog l Mid S0 B fuel (bs.set i true) a' w):DL Tryz.prog l Mid S0 B (fuel + 1) bs a w:=tPg i hi rfl rfl hj hb hdn hf hc hS (λ_=>mO tabOk hf hv) h
end
end AT
