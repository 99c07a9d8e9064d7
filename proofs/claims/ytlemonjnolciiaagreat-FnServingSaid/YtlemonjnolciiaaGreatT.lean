/- The types and closed facts on the program, by program (gen.py). -/
import Derived.Test.YtlemonjnolciiaaGreatF
import Derived.Test.YtlemonjnolciiaaGreatRows
set_option linter.unusedVariables false
set_option maxRecDepth 100000
namespace AT
open Go Go.RowKit Go.Proofs Tryz
theorem Kk.{u} {α:Sort u} {a b:α} (h:a=b:=by kernel_rfl):a=b:=h
instance:GoTy Nd:=GoTy.via (α:=(List By)×(Int)×(U64)) (λx=>(x.code,x.at_,x.seed))
variable {S:w_}
theorem ud {w:World} {cs:p_} {x:Nd} (h:GoTy.rep w S cs x):∃A1 c1,cs=[(.slice A1 x.code.length c1),(.int .i64 x.at_),(.int .u64 x.seed.n)]/\lrep w S [.slice A1 x.code.length c1] x.code:=by
 obtain⟨p0,q0,rfl,g0,k0⟩:=h
 obtain⟨A1,c1,rfl,l1⟩:=dC g0
 obtain⟨p1,q1,rfl,g1,k1⟩:=k0
 obtain rfl:=g1
 obtain rfl:=k1
 exact⟨A1,c1,rfl,l1⟩
theorem ug {w:World} {x:Nd} {A1:c_} {m1 c1:Nat} (l1:lrep w S [.slice A1 m1 c1] x.code):GoTy.rep w S [(.slice A1 m1 c1),(.int .i64 x.at_),(.int .u64 x.seed.n)] x:=⟨_,_,rfl,l1,⟨_,_,rfl,rfl,rfl⟩⟩
instance:GoTy Pq:=GoTy.via (α:=(Int)×(Int)×(Int)×(Int)) (λx=>(x.A,x.B,x.Px,x.Pt))
variable {w:World} {x:Pq}
theorem vZ {cs:p_} (h:GoTy.rep w S cs x):cs=[(.int .i64 x.A),(.int .i64 x.B),(.int .i64 x.Px),(.int .i64 x.Pt)]:=by
 obtain⟨p0,q0,rfl,g0,k0⟩:=h
 obtain rfl:=g0
 obtain⟨p1,q1,rfl,g1,k1⟩:=k0
 obtain rfl:=g1
 obtain⟨p2,q2,rfl,g2,k2⟩:=k1
 obtain rfl:=g2
 obtain rfl:=k2
 exact rfl
theorem dH {v:Value} (h:VR w S v x):v=(.agg #[(.int .i64 x.A),(.int .i64 x.B),(.int .i64 x.Px),(.int .i64 x.Pt)]):=by
 obtain⟨cs,h,rfl⟩:=h
 obtain rfl:=vZ h
 exact rfl
theorem fC:GoTy.rep w S [(.int .i64 x.A),(.int .i64 x.B),(.int .i64 x.Px),(.int .i64 x.Pt)] x:=⟨_,_,rfl,rfl,⟨_,_,rfl,rfl,⟨_,_,rfl,rfl,rfl⟩⟩⟩
theorem yO:VR w S (.agg #[(.int .i64 x.A),(.int .i64 x.B),(.int .i64 x.Px),(.int .i64 x.Pt)]) x:=⟨_,fC,rfl⟩
instance:GoTy Nq:=GoTy.via (α:=(List ByteArray)×(List Pq)) (λx=>(x.Nv,x.Nw))
variable {cs:p_} {A1:c_} {m1 c1:Nat} {F:m_}
theorem yn {x:Nq} (h:GoTy.rep w S cs x):∃A1 c1,∃A2 c2,cs=[(.slice A1 x.Nv.length c1),(.slice A2 x.Nw.length c2)]/\lrep w S [.slice A1 x.Nv.length c1] x.Nv/\lrep w S [.slice A2 x.Nw.length c2] x.Nw:=by
 obtain⟨p0,q0,rfl,g0,k0⟩:=h
 obtain⟨A1,c1,rfl,l1⟩:=dC g0
 obtain⟨A2,c2,rfl,l2⟩:=dC k0
 exact⟨A1,c1,A2,c2,rfl,l1,l2⟩
theorem uV {v:Value} {x:Nq} (h:VR w S v x):∃A1 c1,∃A2 c2,v=(.agg #[(.slice A1 x.Nv.length c1),(.slice A2 x.Nw.length c2)])/\lrep w S [.slice A1 x.Nv.length c1] x.Nv/\lrep w S [.slice A2 x.Nw.length c2] x.Nw:=by
 obtain⟨cs,h,rfl⟩:=h
 obtain⟨A1,c1,A2,c2,rfl,l1,l2⟩:=yn h
 exact⟨A1,c1,A2,c2,rfl,l1,l2⟩
theorem yR {x:Nq} (l1:lrep w S [.slice A1 m1 c1] x.Nv) {A2:c_} {m2 c2:Nat} (l2:lrep w S [.slice A2 m2 c2] x.Nw):GoTy.rep w S [(.slice A1 m1 c1),(.slice A2 m2 c2)] x:=⟨_,_,rfl,l1,l2⟩
theorem uJ {x:Nq} (l1:lrep w S [.slice A1 m1 c1] x.Nv) {A2:c_} {m2 c2:Nat} (l2:lrep w S [.slice A2 m2 c2] x.Nw):VR w S (.agg #[(.slice A1 m1 c1),(.slice A2 m2 c2)]) x:=⟨_,yR l1 l2,rfl⟩
theorem zc {x:Nq} {F1:m_} (l1:lown w F1 [.slice A1 m1 c1] x.Nv) {A2:c_} {m2 c2:Nat} {F2:m_} (l2:lown w F2 [.slice A2 m2 c2] x.Nw):GoTy.own w (F1++F2) [(.slice A1 m1 c1),(.slice A2 m2 c2)] x:=⟨_,_,F1,F2,rfl,by simp,l1,l2⟩
theorem mN {x:Nq} (h:GoTy.own w F cs x):∃A1 c1 F1,∃A2 c2 F2,cs=[(.slice A1 x.Nv.length c1),(.slice A2 x.Nw.length c2)]/\F1++(F2)=F/\lown w F1 [.slice A1 x.Nv.length c1] x.Nv/\lown w F2 [.slice A2 x.Nw.length c2] x.Nw:=by
 obtain⟨p0,q0,X0,Y0,rfl,rfl,g0,k0⟩:=h
 obtain⟨A1,c1,rfl,l1⟩:=ae g0
 obtain⟨A2,c2,rfl,l2⟩:=ae k0
 exact⟨A1,c1,_,A2,c2,_,rfl,by simp,l1,l2⟩
theorem eu {v:Value} {x:Nq} (h:VO w F v x):∃A1 c1 F1,∃A2 c2 F2,v=(.agg #[(.slice A1 x.Nv.length c1),(.slice A2 x.Nw.length c2)])/\F1++(F2)=F/\lown w F1 [.slice A1 x.Nv.length c1] x.Nv/\lown w F2 [.slice A2 x.Nw.length c2] x.Nw:=by
 obtain⟨cs,h,rfl⟩:=h
 obtain⟨A1,c1,F1,A2,c2,F2,rfl,rfl,l1,l2⟩:=mN h
 exact⟨_,_,_,_,_,_,rfl,rfl,l1,l2⟩
instance:GoTy Nk:=GoTy.via (α:=(Int)×(d_)) (λx=>(x.Np,x.Nw))
theorem az {x:Nk} (h:GoTy.rep w S cs x):∃A1 c1,cs=[(.int .i64 x.Np),(.slice A1 x.Nw.length c1)]/\lrep w S [.slice A1 x.Nw.length c1] x.Nw:=by
 obtain⟨p0,q0,rfl,g0,k0⟩:=h
 obtain rfl:=g0
 obtain⟨A1,c1,rfl,l1⟩:=dC k0
 exact⟨A1,c1,rfl,l1⟩
theorem xm {v:Value} {x:Nk} (h:VR w S v x):∃A1 c1,v=(.agg #[(.int .i64 x.Np),(.slice A1 x.Nw.length c1)])/\lrep w S [.slice A1 x.Nw.length c1] x.Nw:=by
 obtain⟨cs,h,rfl⟩:=h
 obtain⟨A1,c1,rfl,l1⟩:=az h
 exact⟨A1,c1,rfl,l1⟩
theorem gF {x:Nk} (l1:lrep w S [.slice A1 m1 c1] x.Nw):GoTy.rep w S [(.int .i64 x.Np),(.slice A1 m1 c1)] x:=⟨_,_,rfl,rfl,l1⟩
theorem vf {x:Nk} (l1:lrep w S [.slice A1 m1 c1] x.Nw):VR w S (.agg #[(.int .i64 x.Np),(.slice A1 m1 c1)]) x:=⟨_,gF l1,rfl⟩
theorem yE {x:Nk} {F1:m_} (l1:lown w F1 [.slice A1 m1 c1] x.Nw):GoTy.own w F1 [(.int .i64 x.Np),(.slice A1 m1 c1)] x:=⟨_,_,[],F1,rfl,by simp,⟨rfl,rfl⟩,l1⟩
theorem qH {x:Nk} (h:GoTy.own w F cs x):∃A1 c1 F1,cs=[(.int .i64 x.Np),(.slice A1 x.Nw.length c1)]/\F1=F/\lown w F1 [.slice A1 x.Nw.length c1] x.Nw:=by
 obtain⟨p0,q0,X0,Y0,rfl,rfl,g0,k0⟩:=h
 obtain⟨rfl,rfl⟩:=g0
 obtain⟨A1,c1,rfl,l1⟩:=ae k0
 exact⟨A1,c1,_,rfl,by simp,l1⟩
theorem fA {v:Value} {x:Nk} (h:VO w F v x):∃A1 c1 F1,v=(.agg #[(.int .i64 x.Np),(.slice A1 x.Nw.length c1)])/\F1=F/\lown w F1 [.slice A1 x.Nw.length c1] x.Nw:=by
 obtain⟨cs,h,rfl⟩:=h
 obtain⟨A1,c1,F1,rfl,rfl,l1⟩:=qH h
 exact⟨_,_,_,rfl,rfl,l1⟩
instance:GoTy Nj:=GoTy.via (α:=(Int)×(Int)) (λx=>(x.Pk,x.Pz))
theorem cG {x:Nj} (h:GoTy.rep w S cs x):cs=[(.int .i64 x.Pk),(.int .i64 x.Pz)]:=by
 obtain⟨p0,q0,rfl,g0,k0⟩:=h
 obtain rfl:=g0
 obtain rfl:=k0
 exact rfl
theorem yF {v:Value} {x:Nj} (h:VR w S v x):v=(.agg #[(.int .i64 x.Pk),(.int .i64 x.Pz)]):=by
 obtain⟨cs,h,rfl⟩:=h
 obtain rfl:=cG h
 exact rfl
theorem lJ {x:Nj}:GoTy.rep w S [(.int .i64 x.Pk),(.int .i64 x.Pz)] x:=⟨_,_,rfl,rfl,rfl⟩
theorem vC {x:Nj}:VR w S (.agg #[(.int .i64 x.Pk),(.int .i64 x.Pz)]) x:=⟨_,lJ,rfl⟩
theorem rD {x:Nj}:GoTy.own w [] [(.int .i64 x.Pk),(.int .i64 x.Pz)] x:=⟨_,_,[],[],rfl,by simp,⟨rfl,rfl⟩,⟨rfl,rfl⟩⟩
theorem wc {x:Nj} (h:GoTy.own w F cs x):F=[]:=by
 obtain⟨p0,q0,X0,Y0,rfl,rfl,g0,k0⟩:=h
 obtain⟨rfl,rfl⟩:=g0
 obtain⟨rfl,rfl⟩:=k0
 rfl
instance:GoTy Nx:=GoTy.via (α:=(Int)×(Nk)×(Nj)) (λx=>(x.Id,x.Nk,x.Nj))
theorem vi {x:Nx} (h:GoTy.rep w S cs x):∃A1 c1,cs=[(.int .i64 x.Id),(.int .i64 x.Nk.Np),(.slice A1 x.Nk.Nw.length c1),(.int .i64 x.Nj.Pk),(.int .i64 x.Nj.Pz)]/\lrep w S [.slice A1 x.Nk.Nw.length c1] x.Nk.Nw:=by
 obtain⟨p0,q0,rfl,g0,k0⟩:=h
 obtain rfl:=g0
 obtain⟨p1,q1,rfl,g1,k1⟩:=k0
 obtain⟨A1,c1,rfl,l1⟩:=az g1
 obtain rfl:=cG k1
 exact⟨A1,c1,rfl,l1⟩
theorem yS {v:Value} {x:Nx} (h:VR w S v x):∃A1 c1,v=(.agg #[(.int .i64 x.Id),(.int .i64 x.Nk.Np),(.slice A1 x.Nk.Nw.length c1),(.int .i64 x.Nj.Pk),(.int .i64 x.Nj.Pz)])/\lrep w S [.slice A1 x.Nk.Nw.length c1] x.Nk.Nw:=by
 obtain⟨cs,h,rfl⟩:=h
 obtain⟨A1,c1,rfl,l1⟩:=vi h
 exact⟨A1,c1,rfl,l1⟩
theorem fB {x:Nx} (l1:lrep w S [.slice A1 m1 c1] x.Nk.Nw):GoTy.rep w S [(.int .i64 x.Id),(.int .i64 x.Nk.Np),(.slice A1 m1 c1),(.int .i64 x.Nj.Pk),(.int .i64 x.Nj.Pz)] x:=⟨_,_,rfl,rfl,⟨_,_,rfl,(gF l1),lJ⟩⟩
theorem yw {x:Nx} (l1:lrep w S [.slice A1 m1 c1] x.Nk.Nw):VR w S (.agg #[(.int .i64 x.Id),(.int .i64 x.Nk.Np),(.slice A1 m1 c1),(.int .i64 x.Nj.Pk),(.int .i64 x.Nj.Pz)]) x:=⟨_,fB l1,rfl⟩
theorem cF {x:Nx} {F1:m_} (l1:lown w F1 [.slice A1 m1 c1] x.Nk.Nw):GoTy.own w F1 [(.int .i64 x.Id),(.int .i64 x.Nk.Np),(.slice A1 m1 c1),(.int .i64 x.Nj.Pk),(.int .i64 x.Nj.Pz)] x:=⟨_,_,[],F1,rfl,by simp,⟨rfl,rfl⟩,⟨_,_,F1,[],rfl,by simp,(yE l1),(rD)⟩⟩
theorem Bu {x:Nx} (h:GoTy.own w F cs x):∃A1 c1 F1,cs=[(.int .i64 x.Id),(.int .i64 x.Nk.Np),(.slice A1 x.Nk.Nw.length c1),(.int .i64 x.Nj.Pk),(.int .i64 x.Nj.Pz)]/\F1=F/\lown w F1 [.slice A1 x.Nk.Nw.length c1] x.Nk.Nw:=by
 obtain⟨p0,q0,X0,Y0,rfl,rfl,g0,k0⟩:=h
 obtain⟨rfl,rfl⟩:=g0
 obtain⟨p1,q1,X1,Y1,rfl,rfl,g1,k1⟩:=k0
 obtain⟨A1,c1,F1,rfl,rfl,l1⟩:=qH g1
 obtain rfl:=cG (GoTy.own_rep k1)
 obtain rfl:=wc k1
 exact⟨A1,c1,_,rfl,by simp,l1⟩
theorem sL {v:Value} {x:Nx} (h:VO w F v x):∃A1 c1 F1,v=(.agg #[(.int .i64 x.Id),(.int .i64 x.Nk.Np),(.slice A1 x.Nk.Nw.length c1),(.int .i64 x.Nj.Pk),(.int .i64 x.Nj.Pz)])/\F1=F/\lown w F1 [.slice A1 x.Nk.Nw.length c1] x.Nk.Nw:=by
 obtain⟨cs,h,rfl⟩:=h
 obtain⟨A1,c1,F1,rfl,rfl,l1⟩:=Bu h
 exact⟨_,_,_,rfl,rfl,l1⟩
instance:GoTy Nh:=GoTy.via (α:=(Nq)×(List Nx)) (λx=>(x.Nq,x.Nz))
theorem nU {x:Nh} (h:GoTy.rep w S cs x):∃A1 c1,∃A2 c2,∃A3 c3,cs=[(.slice A1 x.Nq.Nv.length c1),(.slice A2 x.Nq.Nw.length c2),(.slice A3 x.Nz.length c3)]/\lrep w S [.slice A1 x.Nq.Nv.length c1] x.Nq.Nv/\lrep w S [.slice A2 x.Nq.Nw.length c2] x.Nq.Nw/\lrep w S [.slice A3 x.Nz.length c3] x.Nz:=by
 obtain⟨p0,q0,rfl,g0,k0⟩:=h
 obtain⟨A1,c1,A2,c2,rfl,l1,l2⟩:=yn g0
 obtain⟨A3,c3,rfl,l3⟩:=dC k0
 exact⟨A1,c1,A2,c2,A3,c3,rfl,l1,l2,l3⟩
theorem vJ {v:Value} {x:Nh} (h:VR w S v x):∃A1 c1,∃A2 c2,∃A3 c3,v=(.agg #[(.slice A1 x.Nq.Nv.length c1),(.slice A2 x.Nq.Nw.length c2),(.slice A3 x.Nz.length c3)])/\lrep w S [.slice A1 x.Nq.Nv.length c1] x.Nq.Nv/\lrep w S [.slice A2 x.Nq.Nw.length c2] x.Nq.Nw/\lrep w S [.slice A3 x.Nz.length c3] x.Nz:=by
 obtain⟨cs,h,rfl⟩:=h
 obtain⟨A1,c1,A2,c2,A3,c3,rfl,l1,l2,l3⟩:=nU h
 exact⟨A1,c1,A2,c2,A3,c3,rfl,l1,l2,l3⟩
theorem Bs {x:Nh} (l1:lrep w S [.slice A1 m1 c1] x.Nq.Nv) {A2:c_} {m2 c2:Nat} (l2:lrep w S [.slice A2 m2 c2] x.Nq.Nw) {A3:c_} {m3 c3:Nat} (l3:lrep w S [.slice A3 m3 c3] x.Nz):GoTy.rep w S [(.slice A1 m1 c1),(.slice A2 m2 c2),(.slice A3 m3 c3)] x:=⟨_,_,rfl,(yR l1 l2),l3⟩
theorem uY {x:Nh} (l1:lrep w S [.slice A1 m1 c1] x.Nq.Nv) {A2:c_} {m2 c2:Nat} (l2:lrep w S [.slice A2 m2 c2] x.Nq.Nw) {A3:c_} {m3 c3:Nat} (l3:lrep w S [.slice A3 m3 c3] x.Nz):VR w S (.agg #[(.slice A1 m1 c1),(.slice A2 m2 c2),(.slice A3 m3 c3)]) x:=⟨_,Bs l1 l2 l3,rfl⟩
theorem cg {x:Nh} {F1:m_} (l1:lown w F1 [.slice A1 m1 c1] x.Nq.Nv) {A2:c_} {m2 c2:Nat} {F2:m_} (l2:lown w F2 [.slice A2 m2 c2] x.Nq.Nw) {A3:c_} {m3 c3:Nat} {F3:m_} (l3:lown w F3 [.slice A3 m3 c3] x.Nz):GoTy.own w (F1++(F2++F3)) [(.slice A1 m1 c1),(.slice A2 m2 c2),(.slice A3 m3 c3)] x:=⟨_,_,(F1++F2),F3,rfl,by simp,(zc l1 l2),l3⟩
theorem sK {x:Nh} (h:GoTy.own w F cs x):∃A1 c1 F1,∃A2 c2 F2,∃A3 c3 F3,cs=[(.slice A1 x.Nq.Nv.length c1),(.slice A2 x.Nq.Nw.length c2),(.slice A3 x.Nz.length c3)]/\F1++(F2++(F3))=F/\lown w F1 [.slice A1 x.Nq.Nv.length c1] x.Nq.Nv/\lown w F2 [.slice A2 x.Nq.Nw.length c2] x.Nq.Nw/\lown w F3 [.slice A3 x.Nz.length c3] x.Nz:=by
 obtain⟨p0,q0,X0,Y0,rfl,rfl,g0,k0⟩:=h
 obtain⟨A1,c1,F1,A2,c2,F2,rfl,rfl,l1,l2⟩:=mN g0
 obtain⟨A3,c3,rfl,l3⟩:=ae k0
 exact⟨A1,c1,_,A2,c2,_,A3,c3,_,rfl,by simp,l1,l2,l3⟩
theorem aO {v:Value} {x:Nh} (h:VO w F v x):∃A1 c1 F1,∃A2 c2 F2,∃A3 c3 F3,v=(.agg #[(.slice A1 x.Nq.Nv.length c1),(.slice A2 x.Nq.Nw.length c2),(.slice A3 x.Nz.length c3)])/\F1++(F2++(F3))=F/\lown w F1 [.slice A1 x.Nq.Nv.length c1] x.Nq.Nv/\lown w F2 [.slice A2 x.Nq.Nw.length c2] x.Nq.Nw/\lown w F3 [.slice A3 x.Nz.length c3] x.Nz:=by
 obtain⟨cs,h,rfl⟩:=h
 obtain⟨A1,c1,F1,A2,c2,F2,A3,c3,F3,rfl,rfl,l1,l2,l3⟩:=sK h
 exact⟨_,_,_,_,_,_,_,_,_,rfl,rfl,l1,l2,l3⟩
instance:GoTy Ng:=GoTy.via (α:=(Int)×(Int)) (λx=>(x.Reach,x.Ph))
theorem vV {x:Ng} (h:GoTy.rep w S cs x):cs=[(.int .i64 x.Reach),(.int .i64 x.Ph)]:=by
 obtain⟨p0,q0,rfl,g0,k0⟩:=h
 obtain rfl:=g0
 obtain rfl:=k0
 exact rfl
theorem iy {x:Ng}:GoTy.rep w S [(.int .i64 x.Reach),(.int .i64 x.Ph)] x:=⟨_,_,rfl,rfl,rfl⟩
theorem qI {x:Ng}:GoTy.own w [] [(.int .i64 x.Reach),(.int .i64 x.Ph)] x:=⟨_,_,[],[],rfl,by simp,⟨rfl,rfl⟩,⟨rfl,rfl⟩⟩
theorem rB {x:Ng} (h:GoTy.own w F cs x):F=[]:=by
 obtain⟨p0,q0,X0,Y0,rfl,rfl,g0,k0⟩:=h
 obtain⟨rfl,rfl⟩:=g0
 obtain⟨rfl,rfl⟩:=k0
 rfl
instance:GoTy Nt:=GoTy.via (α:=(Int)×(Int)×(Int)×(Int)) (λx=>(x.Rw,x.To,x.Ph,x.Rk))
theorem aT {x:Nt} (h:GoTy.rep w S cs x):cs=[(.int .i64 x.Rw),(.int .i64 x.To),(.int .i64 x.Ph),(.int .i64 x.Rk)]:=by
 obtain⟨p0,q0,rfl,g0,k0⟩:=h
 obtain rfl:=g0
 obtain⟨p1,q1,rfl,g1,k1⟩:=k0
 obtain rfl:=g1
 obtain⟨p2,q2,rfl,g2,k2⟩:=k1
 obtain rfl:=g2
 obtain rfl:=k2
 exact rfl
theorem zA {v:Value} {x:Nt} (h:VR w S v x):v=(.agg #[(.int .i64 x.Rw),(.int .i64 x.To),(.int .i64 x.Ph),(.int .i64 x.Rk)]):=by
 obtain⟨cs,h,rfl⟩:=h
 obtain rfl:=aT h
 exact rfl
theorem jU {x:Nt}:GoTy.rep w S [(.int .i64 x.Rw),(.int .i64 x.To),(.int .i64 x.Ph),(.int .i64 x.Rk)] x:=⟨_,_,rfl,rfl,⟨_,_,rfl,rfl,⟨_,_,rfl,rfl,rfl⟩⟩⟩
theorem yd {x:Nt}:VR w S (.agg #[(.int .i64 x.Rw),(.int .i64 x.To),(.int .i64 x.Ph),(.int .i64 x.Rk)]) x:=⟨_,jU,rfl⟩
instance:GoTy Pp:=GoTy.via (α:=(Nh)×(d_)×(Int)) (λx=>(x.Nh,x.Ids,x.Rz))
theorem d6 {x:Pp} (h:GoTy.rep w S cs x):∃A1 c1,∃A2 c2,∃A3 c3,∃A4 c4,cs=[(.slice A1 x.Nh.Nq.Nv.length c1),(.slice A2 x.Nh.Nq.Nw.length c2),(.slice A3 x.Nh.Nz.length c3),(.slice A4 x.Ids.length c4),(.int .i64 x.Rz)]/\lrep w S [.slice A1 x.Nh.Nq.Nv.length c1] x.Nh.Nq.Nv/\lrep w S [.slice A2 x.Nh.Nq.Nw.length c2] x.Nh.Nq.Nw/\lrep w S [.slice A3 x.Nh.Nz.length c3] x.Nh.Nz/\lrep w S [.slice A4 x.Ids.length c4] x.Ids:=by
 obtain⟨p0,q0,rfl,g0,k0⟩:=h
 obtain⟨A1,c1,A2,c2,A3,c3,rfl,l1,l2,l3⟩:=nU g0
 obtain⟨p1,q1,rfl,g1,k1⟩:=k0
 obtain⟨A4,c4,rfl,l4⟩:=dC g1
 obtain rfl:=k1
 exact⟨A1,c1,A2,c2,A3,c3,A4,c4,rfl,l1,l2,l3,l4⟩
theorem jn {v:Value} {x:Pp} (h:VR w S v x):∃A1 c1,∃A2 c2,∃A3 c3,∃A4 c4,v=(.agg #[(.slice A1 x.Nh.Nq.Nv.length c1),(.slice A2 x.Nh.Nq.Nw.length c2),(.slice A3 x.Nh.Nz.length c3),(.slice A4 x.Ids.length c4),(.int .i64 x.Rz)])/\lrep w S [.slice A1 x.Nh.Nq.Nv.length c1] x.Nh.Nq.Nv/\lrep w S [.slice A2 x.Nh.Nq.Nw.length c2] x.Nh.Nq.Nw/\lrep w S [.slice A3 x.Nh.Nz.length c3] x.Nh.Nz/\lrep w S [.slice A4 x.Ids.length c4] x.Ids:=by
 obtain⟨cs,h,rfl⟩:=h
 obtain⟨A1,c1,A2,c2,A3,c3,A4,c4,rfl,l1,l2,l3,l4⟩:=d6 h
 exact⟨A1,c1,A2,c2,A3,c3,A4,c4,rfl,l1,l2,l3,l4⟩
theorem ix {x:Pp} (l1:lrep w S [.slice A1 m1 c1] x.Nh.Nq.Nv) {A2:c_} {m2 c2:Nat} (l2:lrep w S [.slice A2 m2 c2] x.Nh.Nq.Nw) {A3:c_} {m3 c3:Nat} (l3:lrep w S [.slice A3 m3 c3] x.Nh.Nz) {A4:c_} {m4 c4:Nat} (l4:lrep w S [.slice A4 m4 c4] x.Ids):GoTy.rep w S [(.slice A1 m1 c1),(.slice A2 m2 c2),(.slice A3 m3 c3),(.slice A4 m4 c4),(.int .i64 x.Rz)] x:=⟨_,_,rfl,(Bs l1 l2 l3),⟨_,_,rfl,l4,rfl⟩⟩
theorem gg {x:Pp} (l1:lrep w S [.slice A1 m1 c1] x.Nh.Nq.Nv) {A2:c_} {m2 c2:Nat} (l2:lrep w S [.slice A2 m2 c2] x.Nh.Nq.Nw) {A3:c_} {m3 c3:Nat} (l3:lrep w S [.slice A3 m3 c3] x.Nh.Nz) {A4:c_} {m4 c4:Nat} (l4:lrep w S [.slice A4 m4 c4] x.Ids):VR w S (.agg #[(.slice A1 m1 c1),(.slice A2 m2 c2),(.slice A3 m3 c3),(.slice A4 m4 c4),(.int .i64 x.Rz)]) x:=⟨_,ix l1 l2 l3 l4,rfl⟩
theorem fy {x:Pp} {F1:m_} (l1:lown w F1 [.slice A1 m1 c1] x.Nh.Nq.Nv) {A2:c_} {m2 c2:Nat} {F2:m_} (l2:lown w F2 [.slice A2 m2 c2] x.Nh.Nq.Nw) {A3:c_} {m3 c3:Nat} {F3:m_} (l3:lown w F3 [.slice A3 m3 c3] x.Nh.Nz) {A4:c_} {m4 c4:Nat} {F4:m_} (l4:lown w F4 [.slice A4 m4 c4] x.Ids):GoTy.own w (F1++(F2++(F3++F4))) [(.slice A1 m1 c1),(.slice A2 m2 c2),(.slice A3 m3 c3),(.slice A4 m4 c4),(.int .i64 x.Rz)] x:=⟨_,_,(F1++(F2++F3)),F4,rfl,by simp,(cg l1 l2 l3),⟨_,_,F4,[],rfl,by simp,l4,⟨rfl,rfl⟩⟩⟩
theorem wa {x:Pp} (h:GoTy.own w F cs x):∃A1 c1 F1,∃A2 c2 F2,∃A3 c3 F3,∃A4 c4 F4,cs=[(.slice A1 x.Nh.Nq.Nv.length c1),(.slice A2 x.Nh.Nq.Nw.length c2),(.slice A3 x.Nh.Nz.length c3),(.slice A4 x.Ids.length c4),(.int .i64 x.Rz)]/\F1++(F2++(F3++(F4)))=F/\lown w F1 [.slice A1 x.Nh.Nq.Nv.length c1] x.Nh.Nq.Nv/\lown w F2 [.slice A2 x.Nh.Nq.Nw.length c2] x.Nh.Nq.Nw/\lown w F3 [.slice A3 x.Nh.Nz.length c3] x.Nh.Nz/\lown w F4 [.slice A4 x.Ids.length c4] x.Ids:=by
 obtain⟨p0,q0,X0,Y0,rfl,rfl,g0,k0⟩:=h
 obtain⟨A1,c1,F1,A2,c2,F2,A3,c3,F3,rfl,rfl,l1,l2,l3⟩:=sK g0
 obtain⟨p1,q1,X1,Y1,rfl,rfl,g1,k1⟩:=k0
 obtain⟨A4,c4,rfl,l4⟩:=ae g1
 obtain⟨rfl,rfl⟩:=k1
 exact⟨A1,c1,_,A2,c2,_,A3,c3,_,A4,c4,_,rfl,by simp,l1,l2,l3,l4⟩
theorem qG {v:Value} {x:Pp} (h:VO w F v x):∃A1 c1 F1,∃A2 c2 F2,∃A3 c3 F3,∃A4 c4 F4,v=(.agg #[(.slice A1 x.Nh.Nq.Nv.length c1),(.slice A2 x.Nh.Nq.Nw.length c2),(.slice A3 x.Nh.Nz.length c3),(.slice A4 x.Ids.length c4),(.int .i64 x.Rz)])/\F1++(F2++(F3++(F4)))=F/\lown w F1 [.slice A1 x.Nh.Nq.Nv.length c1] x.Nh.Nq.Nv/\lown w F2 [.slice A2 x.Nh.Nq.Nw.length c2] x.Nh.Nq.Nw/\lown w F3 [.slice A3 x.Nh.Nz.length c3] x.Nh.Nz/\lown w F4 [.slice A4 x.Ids.length c4] x.Ids:=by
 obtain⟨cs,h,rfl⟩:=h
 obtain⟨A1,c1,F1,A2,c2,F2,A3,c3,F3,A4,c4,F4,rfl,rfl,l1,l2,l3,l4⟩:=wa h
 exact⟨_,_,_,_,_,_,_,_,_,_,_,_,rfl,rfl,l1,l2,l3,l4⟩
instance:GoTy Pg:=GoTy.via (α:=(Nk)×(Int)) (λx=>(x.route,x.count))
theorem gG {x:Pg} (h:GoTy.rep w S cs x):∃A1 c1,cs=[(.int .i64 x.route.Np),(.slice A1 x.route.Nw.length c1),(.int .i64 x.count)]/\lrep w S [.slice A1 x.route.Nw.length c1] x.route.Nw:=by
 obtain⟨p0,q0,rfl,g0,k0⟩:=h
 obtain⟨A1,c1,rfl,l1⟩:=az g0
 obtain rfl:=k0
 exact⟨A1,c1,rfl,l1⟩
theorem iz {v:Value} {x:Pg} (h:VR w S v x):∃A1 c1,v=(.agg #[(.int .i64 x.route.Np),(.slice A1 x.route.Nw.length c1),(.int .i64 x.count)])/\lrep w S [.slice A1 x.route.Nw.length c1] x.route.Nw:=by
 obtain⟨cs,h,rfl⟩:=h
 obtain⟨A1,c1,rfl,l1⟩:=gG h
 exact⟨A1,c1,rfl,l1⟩
theorem nV {x:Pg} (l1:lrep w S [.slice A1 m1 c1] x.route.Nw):GoTy.rep w S [(.int .i64 x.route.Np),(.slice A1 m1 c1),(.int .i64 x.count)] x:=⟨_,_,rfl,(gF l1),rfl⟩
theorem jo {x:Pg} (l1:lrep w S [.slice A1 m1 c1] x.route.Nw):VR w S (.agg #[(.int .i64 x.route.Np),(.slice A1 m1 c1),(.int .i64 x.count)]) x:=⟨_,nV l1,rfl⟩
instance:GoTy Pj:=GoTy.via (α:=(Nq)×(Int)×(List Nk)) (λx=>(x.n,x.to,x.list))
theorem vK {x:Pj} (h:GoTy.rep w S cs x):∃A1 c1,∃A2 c2,∃A3 c3,cs=[(.slice A1 x.n.Nv.length c1),(.slice A2 x.n.Nw.length c2),(.int .i64 x.to),(.slice A3 x.list.length c3)]/\lrep w S [.slice A1 x.n.Nv.length c1] x.n.Nv/\lrep w S [.slice A2 x.n.Nw.length c2] x.n.Nw/\lrep w S [.slice A3 x.list.length c3] x.list:=by
 obtain⟨p0,q0,rfl,g0,k0⟩:=h
 obtain⟨A1,c1,A2,c2,rfl,l1,l2⟩:=yn g0
 obtain⟨p1,q1,rfl,g1,k1⟩:=k0
 obtain rfl:=g1
 obtain⟨A3,c3,rfl,l3⟩:=dC k1
 exact⟨A1,c1,A2,c2,A3,c3,rfl,l1,l2,l3⟩
theorem xg {x:Pj} (l1:lrep w S [.slice A1 m1 c1] x.n.Nv) {A2:c_} {m2 c2:Nat} (l2:lrep w S [.slice A2 m2 c2] x.n.Nw) {A3:c_} {m3 c3:Nat} (l3:lrep w S [.slice A3 m3 c3] x.list):GoTy.rep w S [(.slice A1 m1 c1),(.slice A2 m2 c2),(.int .i64 x.to),(.slice A3 m3 c3)] x:=⟨_,_,rfl,(yR l1 l2),⟨_,_,rfl,rfl,l3⟩⟩
instance:GoTy Pd:=GoTy.via (α:=(Nh)×(List Nx)×(d_)) (λx=>(x.Nh,x.Rq,x.Rv))
instance:GoTy Action:=GoTy.via (α:=(Int)×(Nx)) (λx=>(x.Kind,x.Nx))
instance:GoTy L20SearchP:=GoTy.via (α:=(List Action)×(List Bool)) (λx=>(x.list,x.failed))
instance:GoTy FiberEvent:=GoTy.via (α:=(Bool)×(d_)) (λx=>(x.Fail,x.Nw))
theorem Lens.via {N α β:Type} [GoTy α] [GoTy β] {f:N->α} {q:Nat} {get:α->β} {put:α->β->α} (h:Lens α β q get put) (g:N->β) (p:N->β->N) (hg:∀e,g e=get (f e)) (hp:∀e y,f (p e y)=put (f e) y):@Lens N β (GoTy.via f) _ q g p:=by
 refine @Lens.mk N β (GoTy.via f) _ q g p ?_
 intro w F cs e ho
 obtain⟨Fa,F1,Fc,c,hF,hc,h1,h2⟩:=h.at_ (e:=f e) ho
 refine⟨Fa,F1,Fc,c,hF,hc,by rw[hg]; exact h1,λw1 F2 y a b d=>?_⟩
 have:=h2 w1 F2 y a b d
 rw[<-hp]at this; exact this
namespace TF
theorem gS:AI prog 180 4 (.agg #[(.int .i64 0),(.int .i64 0),(.int .i64 0),(.int .i64 0)]) 32:=by unfold AI; kernel_rfl
theorem Ii:AI prog 182 2 (.agg #[(.int .i64 0),(.int .i64 0)]) 16:=by unfold AI; kernel_rfl
theorem Ih:AI prog 198 3 (.agg #[(.int .i64 0),(.slice none 0 0),(.int .i64 0)]) 40:=by unfold AI; kernel_rfl
theorem Q0:AI prog 3 1 (.int .i64 0) 8:=by unfold AI; kernel_rfl
theorem ai45:AI prog 45 2 (.agg #[(.int .i64 0),(.slice none 0 0)]) 32:=by unfold AI; kernel_rfl
theorem ai47:AI prog 47 2 (.agg #[(.int .i64 0),(.int .i64 0)]) 16:=by unfold AI; kernel_rfl
theorem ai49:AI prog 49 5 (.agg #[(.int .i64 0),(.int .i64 0),(.slice none 0 0),(.int .i64 0),(.int .i64 0)]) 56:=by unfold AI; kernel_rfl
theorem ai51:AI prog 51 4 (.agg #[(.int .i64 0),(.int .i64 0),(.int .i64 0),(.int .i64 0)]) 32:=by unfold AI; kernel_rfl
theorem ai9:AI prog 9 1 (.string ByteArray.empty) 16:=by unfold AI; kernel_rfl
theorem cl10:CL prog 10:=λ_ _=>Kk
theorem If:CL prog 106:=λ_ _=>Kk
theorem cl11:CL prog 11:=λ_ _=>Kk
theorem cl12:CL prog 12:=λ_ _=>Kk
theorem yc:CL prog 121:=λ_ _=>Kk
theorem cl13:CL prog 13:=λ_ _=>Kk
theorem Ie:CL prog 130:=λ_ _=>Kk
theorem Ic:CL prog 131:=λ_ _=>Kk
theorem cl14:CL prog 14:=λ_ _=>Kk
theorem oX:CL prog 140:=λ_ _=>Kk
theorem Ib:CL prog 141:=λ_ _=>Kk
theorem ej:CL prog 142:=λ_ _=>Kk
theorem Ia:CL prog 143:=λ_ _=>Kk
theorem HZ:CL prog 144:=λ_ _=>Kk
theorem HY:CL prog 145:=λ_ _=>Kk
theorem HX:CL prog 146:=λ_ _=>Kk
theorem C4:CL prog 147:=λ_ _=>Kk
theorem EO:CL prog 148:=λ_ _=>Kk
theorem HW:CL prog 149:=λ_ _=>Kk
theorem cl15:CL prog 15:=λ_ _=>Kk
theorem Gl:CL prog 150:=λ_ _=>Kk
theorem HV:CL prog 151:=λ_ _=>Kk
theorem HU:CL prog 152:=λ_ _=>Kk
theorem gE:CL prog 153:=λ_ _=>Kk
theorem rq:CL prog 154:=λ_ _=>Kk
theorem Gk:CL prog 155:=λ_ _=>Kk
theorem EN:CL prog 156:=λ_ _=>Kk
theorem HT:CL prog 157:=λ_ _=>Kk
theorem HS:CL prog 158:=λ_ _=>Kk
theorem HR:CL prog 159:=λ_ _=>Kk
theorem cl16:CL prog 16:=λ_ _=>Kk
theorem fM:CL prog 160:=λ_ _=>Kk
theorem HQ:CL prog 161:=λ_ _=>Kk
theorem Gj:CL prog 162:=λ_ _=>Kk
theorem Gi:CL prog 163:=λ_ _=>Kk
theorem HP:CL prog 164:=λ_ _=>Kk
theorem HO:CL prog 165:=λ_ _=>Kk
theorem HN:CL prog 166:=λ_ _=>Kk
theorem C3:CL prog 167:=λ_ _=>Kk
theorem HM:CL prog 168:=λ_ _=>Kk
theorem EM:CL prog 169:=λ_ _=>Kk
theorem cl17:CL prog 17:=λ_ _=>Kk
theorem HL:CL prog 171:=λ_ _=>Kk
theorem HK:CL prog 174:=λ_ _=>Kk
theorem Bn:CL prog 178:=λ_ _=>Kk
theorem cl18:CL prog 18:=λ_ _=>Kk
theorem EL:CL prog 185:=λ_ _=>Kk
theorem C2:CL prog 186:=λ_ _=>Kk
theorem C1:CL prog 187:=λ_ _=>Kk
theorem Gh:CL prog 188:=λ_ _=>Kk
theorem cl19:CL prog 19:=λ_ _=>Kk
theorem iW:CL prog 192:=λ_ _=>Kk
theorem EK:CL prog 197:=λ_ _=>Kk
theorem HJ:CL prog 198:=λ_ _=>Kk
theorem HI:CL prog 199:=λ_ _=>Kk
theorem cl20:CL prog 20:=λ_ _=>Kk
theorem Gg:CL prog 213:=λ_ _=>Kk
theorem Gf:CL prog 219:=λ_ _=>Kk
theorem HH:CL prog 220:=λ_ _=>Kk
theorem HG:CL prog 221:=λ_ _=>Kk
theorem Ge:CL prog 222:=λ_ _=>Kk
theorem Gd:CL prog 225:=λ_ _=>Kk
theorem HF:CL prog 226:=λ_ _=>Kk
theorem HE:CL prog 227:=λ_ _=>Kk
theorem Gc:CL prog 228:=λ_ _=>Kk
theorem Gb:CL prog 229:=λ_ _=>Kk
theorem Ga:CL prog 230:=λ_ _=>Kk
theorem HD:CL prog 231:=λ_ _=>Kk
theorem HC:CL prog 232:=λ_ _=>Kk
theorem HB:CL prog 233:=λ_ _=>Kk
theorem HA:CL prog 234:=λ_ _=>Kk
theorem Hz:CL prog 235:=λ_ _=>Kk
theorem Hy:CL prog 236:=λ_ _=>Kk
theorem Hx:CL prog 237:=λ_ _=>Kk
theorem Hw:CL prog 238:=λ_ _=>Kk
theorem Hv:CL prog 239:=λ_ _=>Kk
theorem cl24:CL prog 24:=λ_ _=>Kk
theorem Hu:CL prog 240:=λ_ _=>Kk
theorem Ht:CL prog 241:=λ_ _=>Kk
theorem FZ:CL prog 242:=λ_ _=>Kk
theorem FY:CL prog 243:=λ_ _=>Kk
theorem FX:CL prog 244:=λ_ _=>Kk
theorem Hs:CL prog 248:=λ_ _=>Kk
theorem FW:CL prog 249:=λ_ _=>Kk
theorem Hr:CL prog 257:=λ_ _=>Kk
theorem Hq:CL prog 258:=λ_ _=>Kk
theorem Hp:CL prog 259:=λ_ _=>Kk
theorem FV:CL prog 260:=λ_ _=>Kk
theorem Ho:CL prog 261:=λ_ _=>Kk
theorem Hn:CL prog 262:=λ_ _=>Kk
theorem cl27:CL prog 27:=λ_ _=>Kk
theorem Hl:CL prog 282:=λ_ _=>Kk
theorem Hk:CL prog 283:=λ_ _=>Kk
theorem Hj:CL prog 284:=λ_ _=>Kk
theorem EJ:CL prog 285:=λ_ _=>Kk
theorem FU:CL prog 286:=λ_ _=>Kk
theorem C0:CL prog 290:=λ_ _=>Kk
theorem qA:CL prog 291:=λ_ _=>Kk
theorem CZ:CL prog 292:=λ_ _=>Kk
theorem tT:CL prog 293:=λ_ _=>Kk
theorem Hi:CL prog 294:=λ_ _=>Kk
theorem EI:CL prog 295:=λ_ _=>Kk
theorem Hh:CL prog 296:=λ_ _=>Kk
theorem EH:CL prog 297:=λ_ _=>Kk
theorem Hg:CL prog 298:=λ_ _=>Kk
theorem EG:CL prog 299:=λ_ _=>Kk
theorem Hf:CL prog 300:=λ_ _=>Kk
theorem CY:CL prog 301:=λ_ _=>Kk
theorem He:CL prog 302:=λ_ _=>Kk
theorem Hd:CL prog 308:=λ_ _=>Kk
theorem Hb:CL prog 319:=λ_ _=>Kk
theorem EF:CL prog 320:=λ_ _=>Kk
theorem Ha:CL prog 321:=λ_ _=>Kk
theorem FT:CL prog 322:=λ_ _=>Kk
theorem G9:CL prog 323:=λ_ _=>Kk
theorem G8:CL prog 324:=λ_ _=>Kk
theorem G7:CL prog 325:=λ_ _=>Kk
theorem G6:CL prog 328:=λ_ _=>Kk
theorem G5:CL prog 329:=λ_ _=>Kk
theorem G4:CL prog 330:=λ_ _=>Kk
theorem GZ:CL prog 331:=λ_ _=>Kk
theorem EE:CL prog 332:=λ_ _=>Kk
theorem GY:CL prog 333:=λ_ _=>Kk
theorem GX:CL prog 334:=λ_ _=>Kk
theorem GW:CL prog 335:=λ_ _=>Kk
theorem GV:CL prog 342:=λ_ _=>Kk
theorem GU:CL prog 346:=λ_ _=>Kk
theorem mG:CL prog 347:=λ_ _=>Kk
theorem GT:CL prog 348:=λ_ _=>Kk
theorem GR:CL prog 349:=λ_ _=>Kk
theorem FSq:CL prog 350:=λ_ _=>Kk
theorem CX:CL prog 351:=λ_ _=>Kk
theorem GQ:CL prog 361:=λ_ _=>Kk
theorem GP:CL prog 362:=λ_ _=>Kk
theorem GO:CL prog 366:=λ_ _=>Kk
theorem ED:CL prog 367:=λ_ _=>Kk
theorem CW:CL prog 369:=λ_ _=>Kk
theorem cl56:CL prog 56:=λ_ _=>Kk
theorem cl57:CL prog 57:=λ_ _=>Kk
theorem cl58:CL prog 58:=λ_ _=>Kk
theorem cl59:CL prog 59:=λ_ _=>Kk
theorem cl60:CL prog 60:=λ_ _=>Kk
theorem cl61:CL prog 61:=λ_ _=>Kk
theorem cl62:CL prog 62:=λ_ _=>Kk
theorem cl63:CL prog 63:=λ_ _=>Kk
theorem cl64:CL prog 64:=λ_ _=>Kk
theorem cl65:CL prog 65:=λ_ _=>Kk
theorem cl66:CL prog 66:=λ_ _=>Kk
theorem cl67:CL prog 67:=λ_ _=>Kk
theorem cl68:CL prog 68:=λ_ _=>Kk
theorem cl69:CL prog 69:=λ_ _=>Kk
theorem cl70:CL prog 70:=λ_ _=>Kk
theorem cl71:CL prog 71:=λ_ _=>Kk
theorem cl72:CL prog 72:=λ_ _=>Kk
theorem cl73:CL prog 73:=λ_ _=>Kk
theorem cl74:CL prog 74:=λ_ _=>Kk
theorem cl75:CL prog 75:=λ_ _=>Kk
theorem cl76:CL prog 76:=λ_ _=>Kk
theorem cl77:CL prog 77:=λ_ _=>Kk
theorem cl78:CL prog 78:=λ_ _=>Kk
theorem cl79:CL prog 79:=λ_ _=>Kk
theorem cl80:CL prog 80:=λ_ _=>Kk
theorem cl81:CL prog 81:=λ_ _=>Kk
theorem cl84:CL prog 84:=λ_ _=>Kk
theorem cl92:CL prog 92:=λ_ _=>Kk
theorem cl96:CL prog 96:=λ_ _=>Kk
theorem cl98:CL prog 98:=λ_ _=>Kk
theorem gy:LA prog 180 4:=λ_ _=>Kk
theorem En:LA prog 182 2:=λ_ _=>Kk
theorem eQ:LA prog 198 3:=λ_ _=>Kk
theorem la27:LA prog 27 2:=λ_ _=>Kk
theorem la30:LA prog 30 3:=λ_ _=>Kk
theorem la37:LA prog 37 5:=λ_ _=>Kk
theorem la45:LA prog 45 2:=λ_ _=>Kk
theorem la47:LA prog 47 2:=λ_ _=>Kk
theorem la49:LA prog 49 5:=λ_ _=>Kk
theorem la51:LA prog 51 4:=λ_ _=>Kk
theorem B9:LS prog 107:=λ_ _=>Kk
theorem ls22:LS prog 22:=λ_ _=>Kk
theorem kW:LS prog 230:=λ_ _=>Kk
theorem ls24:LS prog 24:=λ_ _=>Kk
theorem ls25:LS prog 25:=λ_ _=>Kk
theorem ls28:LS prog 28:=λ_ _=>Kk
theorem FN:LS prog 299:=λ_ _=>Kk
theorem K_:LS prog 3:=λ_ _=>Kk
theorem ls35:LS prog 35:=λ_ _=>Kk
theorem ls5:LS prog 5:=λ_ _=>Kk
theorem ls9:LS prog 9:=λ_ _=>Kk
theorem pt3:PT prog 3:=λ_=>⟨by kernel_rfl,by kernel_rfl⟩
theorem D6:EQT prog 180 4 3:=⟨by kernel_rfl,by kernel_rfl,by kernel_rfl,by kernel_rfl,by kernel_rfl,pt3,⟨_,Tryz.underlying3⟩⟩
theorem FI:EQT prog 47 2 3:=⟨by kernel_rfl,by kernel_rfl,by kernel_rfl,by kernel_rfl,by kernel_rfl,pt3,⟨_,Tryz.underlying3⟩⟩
theorem EU:SZ prog 107 1:=λ_=>by kernel_rfl
theorem dR:SZ prog 180 4:=λ_=>by kernel_rfl
theorem ff:SZ prog 182 2:=λ_=>by kernel_rfl
theorem bw:SZ prog 198 3:=λ_=>by kernel_rfl
theorem ww:SZ prog 230 1:=λ_=>by kernel_rfl
theorem sz24:SZ prog 24 1:=λ_=>by kernel_rfl
theorem sz25:SZ prog 25 1:=λ_=>by kernel_rfl
theorem sz27:SZ prog 27 2:=λ_=>by kernel_rfl
theorem sz28:SZ prog 28 1:=λ_=>by kernel_rfl
theorem Gy:SZ prog 299 1:=λ_=>by kernel_rfl
theorem M_:SZ prog 3 1:=λ_=>by kernel_rfl
theorem sz30:SZ prog 30 3:=λ_=>by kernel_rfl
theorem sz35:SZ prog 35 1:=λ_=>by kernel_rfl
theorem sz37:SZ prog 37 5:=λ_=>by kernel_rfl
theorem sz45:SZ prog 45 2:=λ_=>by kernel_rfl
theorem sz47:SZ prog 47 2:=λ_=>by kernel_rfl
theorem sz49:SZ prog 49 5:=λ_=>by kernel_rfl
theorem sz5:SZ prog 5 1:=λ_=>by kernel_rfl
theorem sz51:SZ prog 51 4:=λ_=>by kernel_rfl
theorem sz9:SZ prog 9 1:=λ_=>by kernel_rfl
theorem Bw:ZV prog 180 (.agg #[(.int .i64 0),(.int .i64 0),(.int .i64 0),(.int .i64 0)]):=λ_=>by kernel_rfl
theorem ET:ZV prog 182 (.agg #[(.int .i64 0),(.int .i64 0)]):=λ_=>by kernel_rfl
theorem Dz:ZV prog 198 (.agg #[(.int .i64 0),(.slice none 0 0),(.int .i64 0)]):=λ_=>by kernel_rfl
theorem Gx:ZV prog 230 (.slice none 0 0):=λ_=>by kernel_rfl
theorem zv27:ZV prog 27 (.agg #[(.slice none 0 0),(.slice none 0 0)]):=λ_=>by kernel_rfl
theorem Gw:ZV prog 299 .nilFunc:=λ_=>by kernel_rfl
theorem zv30:ZV prog 30 (.agg #[(.slice none 0 0),(.slice none 0 0),(.slice none 0 0)]):=λ_=>by kernel_rfl
theorem zv37:ZV prog 37 (.agg #[(.slice none 0 0),(.slice none 0 0),(.slice none 0 0),(.slice none 0 0),(.int .i64 0)]):=λ_=>by kernel_rfl
theorem zv45:ZV prog 45 (.agg #[(.int .i64 0),(.slice none 0 0)]):=λ_=>by kernel_rfl
theorem zv47:ZV prog 47 (.agg #[(.int .i64 0),(.int .i64 0)]):=λ_=>by kernel_rfl
theorem zv49:ZV prog 49 (.agg #[(.int .i64 0),(.int .i64 0),(.slice none 0 0),(.int .i64 0),(.int .i64 0)]):=λ_=>by kernel_rfl
theorem zv51:ZV prog 51 (.agg #[(.int .i64 0),(.int .i64 0),(.int .i64 0),(.int .i64 0)]):=λ_=>by kernel_rfl
end TF
def tab:Tab:=⟨[22,24,25,28,31,32,35,70,75,78,87,213,228,230,246,318],[4],[9],[(27,0,0),(27,1,1),(30,0,0),(30,1,2),(37,0,0),(37,1,3),(37,2,4),(45,0,0),(45,1,1),(47,0,0),(47,1,1),(49,0,0),(49,1,1),(49,2,3),(51,0,0),(51,1,1),(51,2,2),(51,3,3),(60,0,0),(60,1,3),(60,2,4),(77,0,0),(77,1,1),(80,0,0),(80,1,2),(94,0,0),(94,1,1),(109,0,0),(109,1,1),(109,2,2),(145,0,0),(145,1,1),(148,0,0),(148,1,1),(180,0,0),(180,1,1),(180,2,2),(180,3,3),(182,0,0),(182,1,1),(198,0,0),(198,1,2),(218,0,0),(218,1,1),(219,0,0),(219,1,1),(221,0,0),(221,1,1),(221,2,3),(261,0,0),(261,1,1),(261,2,2),(261,3,3),(322,0,0),(322,1,2),(322,2,3)]⟩
theorem oJ:∀{l:m_} {x:Nat},inl l x=true->x∈l
 | y::r,x,h=>by
  unfold inl at h
  cases hb:Nat.beq y x <;> rw[hb]at h
  · exact IP _ (oJ h)
  · rw[Kw hb]; exact IK
theorem sy:∀{l:List (TypeId×Nat×Nat)} {t f o:Nat},foff l t f=some o->(t,f,o)∈l
 | (t',f',o')::r,t,f,o,h=>by
  unfold foff at h
  cases hb:(Nat.beq t' t&&Nat.beq f' f) <;> rw[hb]at h
  · exact IP _ (sy h)
  · simp only[Iw]at hb
    injection h with h
    rw[Kw hb.1,Kw hb.2,h]; exact IK
theorem tabOk:TabOk prog tab where
 sl:=λT h=>by
  have h:=oJ h
  simp only[tab,IW,JY,or_false]at h
  rcases h with rfl | rfl | rfl | rfl | rfl | rfl | rfl | rfl | rfl | rfl | rfl | rfl | rfl | rfl | rfl | rfl
  · exact⟨_,Tryz.underlying22⟩
  · exact⟨_,Tryz.underlying24⟩
  · exact⟨_,Tryz.underlying25⟩
  · exact⟨_,Tryz.underlying28⟩
  · exact⟨_,Tryz.underlying31⟩
  · exact⟨_,Tryz.underlying32⟩
  · exact⟨_,Tryz.underlying35⟩
  · exact⟨_,Tryz.underlying70⟩
  · exact⟨_,Tryz.underlying75⟩
  · exact⟨_,Tryz.underlying78⟩
  · exact⟨_,Tryz.underlying87⟩
  · exact⟨_,Tryz.underlying213⟩
  · exact⟨_,Tryz.underlying228⟩
  · exact⟨_,Tryz.underlying230⟩
  · exact⟨_,Tryz.underlying246⟩
  · exact⟨_,Tryz.underlying318⟩
 bo:=λT h=>by
  have h:=oJ h
  simp only[tab,IW,JY,or_false]at h
  rcases h with rfl
  · exact Tryz.underlying4
 st:=λT h=>by
  have h:=oJ h
  simp only[tab,IW,JY,or_false]at h
  rcases h with rfl
  · exact Tryz.underlying9
 fa:=λT f o h=>by
  have h:=sy h
  simp only[tab,IW,JY,or_false,Jx]at h
  iterate 55 (rcases h with ⟨rfl,rfl,rfl⟩|h;exact λ_ _=>Kk)
  obtain⟨rfl,rfl,rfl⟩:=h;exact λ_ _=>Kk
section
variable {Q:Exit->r_} {w:World} {n:Nat}
theorem pr {ops:List Oper} (k:Nat) {L:g_} {l:List Oper} {L':g_} {l':List Oper} {a:Act} (hf:Fr a n L) (hd:tH n l=true) (h:pRun tab ops k L l=(L',l')) (hk:∀a',Fr a' n L'->wpList prog ops.toArray Q l' a' w):wpList prog ops.toArray Q l a w:=Ec tabOk k L l hf hd h hk
variable {S0:t_} {B:m_} {bs:List Bool} {a:Act} {fuel d:Nat} {L:g_} {Mid:r_} {op:Op} {v:Value} {l:List Oper} {t:TypeId} {ps:String} {af:Array Edge}
theorem tp (i:Nat) (hi:l[i]?=some ⟨some d,op,t,ps,af,none⟩) (hdn:Nat.ble (d + 1) n=true) (hf:Fr a n L) (hc:takeB l bs i [] B=true) (hS:nb B bs.toArray=true->S0 w) (hv:pOp tab L op=some v) (h:∀a',Fr a' n ((d,v)::L)->DL prog l Mid S0 B fuel (bs.set i true) a' w):DL prog l Mid S0 B (fuel + 1) bs a w:=tP i hi rfl rfl hdn hf hc hS (λ_=>pQ tabOk hf hv) h
theorem tpg (i:Nat) {j e:Nat} {b:Bool} (hi:l[i]?=some ⟨some d,op,t,ps,af,some (j,b)⟩) (hj:(l[j]?).bind (·.dst)=some e) (hb:lk L e=some (.bool b)) (hdn:Nat.ble (d + 1) n=true) (hf:Fr a n L) (hc:takeB l bs i [] B=true) (hS:nb B bs.toArray=true->S0 w) (hv:pOp tab L op=some v) (h:∀a',Fr a' n ((d,v)::L)->DL prog l Mid S0 B fuel (bs.set i true) a' w):DL prog l Mid S0 B (fuel + 1) bs a w:=T0 i hi rfl rfl hj hb hdn hf hc hS (λ_=>pQ tabOk hf hv) h
end
end AT
