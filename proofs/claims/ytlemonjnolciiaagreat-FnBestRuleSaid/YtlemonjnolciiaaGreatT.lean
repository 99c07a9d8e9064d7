/- The types and closed facts on the program, by program (gen.py). -/
import Derived.Test.YtlemonjnolciiaaGreatF
import Derived.Test.YtlemonjnolciiaaGreatRows
set_option linter.unusedVariables false
set_option maxRecDepth 100000
namespace AT
open Go Go.RowKit Go.Proofs Tryz
theorem Kk.{u} {α:Sort u} {a b:α} (h:a=b:=by kernel_rfl):a=b:=h
instance:GoTy Np:=GoTy.via (α:=(List By)×(Int)×(U64)) (λx=>(x.code,x.at_,x.seed))
variable {S:w_}
theorem ud {w:World} {cs:p_} {x:Np} (h:GoTy.rep w S cs x):∃A1 c1,cs=[(.slice A1 x.code.length c1),(.int .i64 x.at_),(.int .u64 x.seed.n)]/\lrep w S [.slice A1 x.code.length c1] x.code:=by
 obtain⟨p0,q0,rfl,g0,k0⟩:=h
 obtain⟨A1,c1,rfl,l1⟩:=aQ g0
 obtain⟨p1,q1,rfl,g1,k1⟩:=k0
 obtain rfl:=g1
 obtain rfl:=k1
 exact⟨A1,c1,rfl,l1⟩
theorem ug {w:World} {x:Np} {A1:c_} {m1 c1:Nat} (l1:lrep w S [.slice A1 m1 c1] x.code):GoTy.rep w S [(.slice A1 m1 c1),(.int .i64 x.at_),(.int .u64 x.seed.n)] x:=⟨_,_,rfl,l1,⟨_,_,rfl,rfl,rfl⟩⟩
instance:GoTy Pq:=GoTy.via (α:=(Int)×(Int)×(Int)×(Int)) (λx=>(x.A,x.B,x.Pg,x.Pp))
variable {w:World} {x:Pq}
theorem xx {cs:p_} (h:GoTy.rep w S cs x):cs=[(.int .i64 x.A),(.int .i64 x.B),(.int .i64 x.Pg),(.int .i64 x.Pp)]:=by
 obtain⟨p0,q0,rfl,g0,k0⟩:=h
 obtain rfl:=g0
 obtain⟨p1,q1,rfl,g1,k1⟩:=k0
 obtain rfl:=g1
 obtain⟨p2,q2,rfl,g2,k2⟩:=k1
 obtain rfl:=g2
 obtain rfl:=k2
 exact rfl
theorem dE {v:Value} (h:VR w S v x):v=(.agg #[(.int .i64 x.A),(.int .i64 x.B),(.int .i64 x.Pg),(.int .i64 x.Pp)]):=by
 obtain⟨cs,h,rfl⟩:=h
 obtain rfl:=xx h
 exact rfl
theorem ft:GoTy.rep w S [(.int .i64 x.A),(.int .i64 x.B),(.int .i64 x.Pg),(.int .i64 x.Pp)] x:=⟨_,_,rfl,rfl,⟨_,_,rfl,rfl,⟨_,_,rfl,rfl,rfl⟩⟩⟩
theorem yN:VR w S (.agg #[(.int .i64 x.A),(.int .i64 x.B),(.int .i64 x.Pg),(.int .i64 x.Pp)]) x:=⟨_,ft,rfl⟩
instance:GoTy Nq:=GoTy.via (α:=(List ByteArray)×(List Pq)) (λx=>(x.Nv,x.Nw))
variable {cs:p_} {A1:c_} {m1 c1:Nat} {F:m_}
theorem yt {x:Nq} (h:GoTy.rep w S cs x):∃A1 c1,∃A2 c2,cs=[(.slice A1 x.Nv.length c1),(.slice A2 x.Nw.length c2)]/\lrep w S [.slice A1 x.Nv.length c1] x.Nv/\lrep w S [.slice A2 x.Nw.length c2] x.Nw:=by
 obtain⟨p0,q0,rfl,g0,k0⟩:=h
 obtain⟨A1,c1,rfl,l1⟩:=aQ g0
 obtain⟨A2,c2,rfl,l2⟩:=aQ k0
 exact⟨A1,c1,A2,c2,rfl,l1,l2⟩
theorem uV {v:Value} {x:Nq} (h:VR w S v x):∃A1 c1,∃A2 c2,v=(.agg #[(.slice A1 x.Nv.length c1),(.slice A2 x.Nw.length c2)])/\lrep w S [.slice A1 x.Nv.length c1] x.Nv/\lrep w S [.slice A2 x.Nw.length c2] x.Nw:=by
 obtain⟨cs,h,rfl⟩:=h
 obtain⟨A1,c1,A2,c2,rfl,l1,l2⟩:=yt h
 exact⟨A1,c1,A2,c2,rfl,l1,l2⟩
theorem yR {x:Nq} (l1:lrep w S [.slice A1 m1 c1] x.Nv) {A2:c_} {m2 c2:Nat} (l2:lrep w S [.slice A2 m2 c2] x.Nw):GoTy.rep w S [(.slice A1 m1 c1),(.slice A2 m2 c2)] x:=⟨_,_,rfl,l1,l2⟩
theorem uD {x:Nq} (l1:lrep w S [.slice A1 m1 c1] x.Nv) {A2:c_} {m2 c2:Nat} (l2:lrep w S [.slice A2 m2 c2] x.Nw):VR w S (.agg #[(.slice A1 m1 c1),(.slice A2 m2 c2)]) x:=⟨_,yR l1 l2,rfl⟩
theorem zh {x:Nq} {F1:m_} (l1:lown w F1 [.slice A1 m1 c1] x.Nv) {A2:c_} {m2 c2:Nat} {F2:m_} (l2:lown w F2 [.slice A2 m2 c2] x.Nw):GoTy.own w (F1++F2) [(.slice A1 m1 c1),(.slice A2 m2 c2)] x:=⟨_,_,F1,F2,rfl,by simp,l1,l2⟩
theorem mo {x:Nq} (h:GoTy.own w F cs x):∃A1 c1 F1,∃A2 c2 F2,cs=[(.slice A1 x.Nv.length c1),(.slice A2 x.Nw.length c2)]/\F1++(F2)=F/\lown w F1 [.slice A1 x.Nv.length c1] x.Nv/\lown w F2 [.slice A2 x.Nw.length c2] x.Nw:=by
 obtain⟨p0,q0,X0,Y0,rfl,rfl,g0,k0⟩:=h
 obtain⟨A1,c1,rfl,l1⟩:=yQ g0
 obtain⟨A2,c2,rfl,l2⟩:=yQ k0
 exact⟨A1,c1,_,A2,c2,_,rfl,by simp,l1,l2⟩
theorem eo {v:Value} {x:Nq} (h:VO w F v x):∃A1 c1 F1,∃A2 c2 F2,v=(.agg #[(.slice A1 x.Nv.length c1),(.slice A2 x.Nw.length c2)])/\F1++(F2)=F/\lown w F1 [.slice A1 x.Nv.length c1] x.Nv/\lown w F2 [.slice A2 x.Nw.length c2] x.Nw:=by
 obtain⟨cs,h,rfl⟩:=h
 obtain⟨A1,c1,F1,A2,c2,F2,rfl,rfl,l1,l2⟩:=mo h
 exact⟨_,_,_,_,_,_,rfl,rfl,l1,l2⟩
instance:GoTy Nz:=GoTy.via (α:=(Int)×(d_)) (λx=>(x.Nt,x.Nw))
theorem yE {x:Nz} (h:GoTy.rep w S cs x):∃A1 c1,cs=[(.int .i64 x.Nt),(.slice A1 x.Nw.length c1)]/\lrep w S [.slice A1 x.Nw.length c1] x.Nw:=by
 obtain⟨p0,q0,rfl,g0,k0⟩:=h
 obtain rfl:=g0
 obtain⟨A1,c1,rfl,l1⟩:=aQ k0
 exact⟨A1,c1,rfl,l1⟩
theorem xD {v:Value} {x:Nz} (h:VR w S v x):∃A1 c1,v=(.agg #[(.int .i64 x.Nt),(.slice A1 x.Nw.length c1)])/\lrep w S [.slice A1 x.Nw.length c1] x.Nw:=by
 obtain⟨cs,h,rfl⟩:=h
 obtain⟨A1,c1,rfl,l1⟩:=yE h
 exact⟨A1,c1,rfl,l1⟩
theorem gy {x:Nz} (l1:lrep w S [.slice A1 m1 c1] x.Nw):GoTy.rep w S [(.int .i64 x.Nt),(.slice A1 m1 c1)] x:=⟨_,_,rfl,rfl,l1⟩
theorem vl {x:Nz} (l1:lrep w S [.slice A1 m1 c1] x.Nw):VR w S (.agg #[(.int .i64 x.Nt),(.slice A1 m1 c1)]) x:=⟨_,gy l1,rfl⟩
theorem yD {x:Nz} {F1:m_} (l1:lown w F1 [.slice A1 m1 c1] x.Nw):GoTy.own w F1 [(.int .i64 x.Nt),(.slice A1 m1 c1)] x:=⟨_,_,[],F1,rfl,by simp,⟨rfl,rfl⟩,l1⟩
theorem qa {x:Nz} (h:GoTy.own w F cs x):∃A1 c1 F1,cs=[(.int .i64 x.Nt),(.slice A1 x.Nw.length c1)]/\F1=F/\lown w F1 [.slice A1 x.Nw.length c1] x.Nw:=by
 obtain⟨p0,q0,X0,Y0,rfl,rfl,g0,k0⟩:=h
 obtain⟨rfl,rfl⟩:=g0
 obtain⟨A1,c1,rfl,l1⟩:=yQ k0
 exact⟨A1,c1,_,rfl,by simp,l1⟩
theorem fp {v:Value} {x:Nz} (h:VO w F v x):∃A1 c1 F1,v=(.agg #[(.int .i64 x.Nt),(.slice A1 x.Nw.length c1)])/\F1=F/\lown w F1 [.slice A1 x.Nw.length c1] x.Nw:=by
 obtain⟨cs,h,rfl⟩:=h
 obtain⟨A1,c1,F1,rfl,rfl,l1⟩:=qa h
 exact⟨_,_,_,rfl,rfl,l1⟩
instance:GoTy Nj:=GoTy.via (α:=(Int)×(Int)) (λx=>(x.Pk,x.Pz))
theorem cJ {x:Nj} (h:GoTy.rep w S cs x):cs=[(.int .i64 x.Pk),(.int .i64 x.Pz)]:=by
 obtain⟨p0,q0,rfl,g0,k0⟩:=h
 obtain rfl:=g0
 obtain rfl:=k0
 exact rfl
theorem yG {v:Value} {x:Nj} (h:VR w S v x):v=(.agg #[(.int .i64 x.Pk),(.int .i64 x.Pz)]):=by
 obtain⟨cs,h,rfl⟩:=h
 obtain rfl:=cJ h
 exact rfl
theorem lf {x:Nj}:GoTy.rep w S [(.int .i64 x.Pk),(.int .i64 x.Pz)] x:=⟨_,_,rfl,rfl,rfl⟩
theorem vI {x:Nj}:VR w S (.agg #[(.int .i64 x.Pk),(.int .i64 x.Pz)]) x:=⟨_,lf,rfl⟩
theorem qN {x:Nj}:GoTy.own w [] [(.int .i64 x.Pk),(.int .i64 x.Pz)] x:=⟨_,_,[],[],rfl,by simp,⟨rfl,rfl⟩,⟨rfl,rfl⟩⟩
theorem sX {x:Nj} (h:GoTy.own w F cs x):F=[]:=by
 obtain⟨p0,q0,X0,Y0,rfl,rfl,g0,k0⟩:=h
 obtain⟨rfl,rfl⟩:=g0
 obtain⟨rfl,rfl⟩:=k0
 rfl
instance:GoTy Nx:=GoTy.via (α:=(Int)×(Nz)×(Nj)) (λx=>(x.Id,x.Nz,x.Nj))
theorem vv {x:Nx} (h:GoTy.rep w S cs x):∃A1 c1,cs=[(.int .i64 x.Id),(.int .i64 x.Nz.Nt),(.slice A1 x.Nz.Nw.length c1),(.int .i64 x.Nj.Pk),(.int .i64 x.Nj.Pz)]/\lrep w S [.slice A1 x.Nz.Nw.length c1] x.Nz.Nw:=by
 obtain⟨p0,q0,rfl,g0,k0⟩:=h
 obtain rfl:=g0
 obtain⟨p1,q1,rfl,g1,k1⟩:=k0
 obtain⟨A1,c1,rfl,l1⟩:=yE g1
 obtain rfl:=cJ k1
 exact⟨A1,c1,rfl,l1⟩
theorem aT {v:Value} {x:Nx} (h:VR w S v x):∃A1 c1,v=(.agg #[(.int .i64 x.Id),(.int .i64 x.Nz.Nt),(.slice A1 x.Nz.Nw.length c1),(.int .i64 x.Nj.Pk),(.int .i64 x.Nj.Pz)])/\lrep w S [.slice A1 x.Nz.Nw.length c1] x.Nz.Nw:=by
 obtain⟨cs,h,rfl⟩:=h
 obtain⟨A1,c1,rfl,l1⟩:=vv h
 exact⟨A1,c1,rfl,l1⟩
theorem fq {x:Nx} (l1:lrep w S [.slice A1 m1 c1] x.Nz.Nw):GoTy.rep w S [(.int .i64 x.Id),(.int .i64 x.Nz.Nt),(.slice A1 m1 c1),(.int .i64 x.Nj.Pk),(.int .i64 x.Nj.Pz)] x:=⟨_,_,rfl,rfl,⟨_,_,rfl,(gy l1),lf⟩⟩
theorem zd {x:Nx} (l1:lrep w S [.slice A1 m1 c1] x.Nz.Nw):VR w S (.agg #[(.int .i64 x.Id),(.int .i64 x.Nz.Nt),(.slice A1 m1 c1),(.int .i64 x.Nj.Pk),(.int .i64 x.Nj.Pz)]) x:=⟨_,fq l1,rfl⟩
theorem cI {x:Nx} {F1:m_} (l1:lown w F1 [.slice A1 m1 c1] x.Nz.Nw):GoTy.own w F1 [(.int .i64 x.Id),(.int .i64 x.Nz.Nt),(.slice A1 m1 c1),(.int .i64 x.Nj.Pk),(.int .i64 x.Nj.Pz)] x:=⟨_,_,[],F1,rfl,by simp,⟨rfl,rfl⟩,⟨_,_,F1,[],rfl,by simp,(yD l1),(qN)⟩⟩
theorem Ah {x:Nx} (h:GoTy.own w F cs x):∃A1 c1 F1,cs=[(.int .i64 x.Id),(.int .i64 x.Nz.Nt),(.slice A1 x.Nz.Nw.length c1),(.int .i64 x.Nj.Pk),(.int .i64 x.Nj.Pz)]/\F1=F/\lown w F1 [.slice A1 x.Nz.Nw.length c1] x.Nz.Nw:=by
 obtain⟨p0,q0,X0,Y0,rfl,rfl,g0,k0⟩:=h
 obtain⟨rfl,rfl⟩:=g0
 obtain⟨p1,q1,X1,Y1,rfl,rfl,g1,k1⟩:=k0
 obtain⟨A1,c1,F1,rfl,rfl,l1⟩:=qa g1
 obtain rfl:=cJ (GoTy.own_rep k1)
 obtain rfl:=sX k1
 exact⟨A1,c1,_,rfl,by simp,l1⟩
theorem rE {v:Value} {x:Nx} (h:VO w F v x):∃A1 c1 F1,v=(.agg #[(.int .i64 x.Id),(.int .i64 x.Nz.Nt),(.slice A1 x.Nz.Nw.length c1),(.int .i64 x.Nj.Pk),(.int .i64 x.Nj.Pz)])/\F1=F/\lown w F1 [.slice A1 x.Nz.Nw.length c1] x.Nz.Nw:=by
 obtain⟨cs,h,rfl⟩:=h
 obtain⟨A1,c1,F1,rfl,rfl,l1⟩:=Ah h
 exact⟨_,_,_,rfl,rfl,l1⟩
instance:GoTy Nh:=GoTy.via (α:=(Nq)×(List Nx)) (λx=>(x.Nq,x.Nk))
theorem nA {x:Nh} (h:GoTy.rep w S cs x):∃A1 c1,∃A2 c2,∃A3 c3,cs=[(.slice A1 x.Nq.Nv.length c1),(.slice A2 x.Nq.Nw.length c2),(.slice A3 x.Nk.length c3)]/\lrep w S [.slice A1 x.Nq.Nv.length c1] x.Nq.Nv/\lrep w S [.slice A2 x.Nq.Nw.length c2] x.Nq.Nw/\lrep w S [.slice A3 x.Nk.length c3] x.Nk:=by
 obtain⟨p0,q0,rfl,g0,k0⟩:=h
 obtain⟨A1,c1,A2,c2,rfl,l1,l2⟩:=yt g0
 obtain⟨A3,c3,rfl,l3⟩:=aQ k0
 exact⟨A1,c1,A2,c2,A3,c3,rfl,l1,l2,l3⟩
theorem xh {v:Value} {x:Nh} (h:VR w S v x):∃A1 c1,∃A2 c2,∃A3 c3,v=(.agg #[(.slice A1 x.Nq.Nv.length c1),(.slice A2 x.Nq.Nw.length c2),(.slice A3 x.Nk.length c3)])/\lrep w S [.slice A1 x.Nq.Nv.length c1] x.Nq.Nv/\lrep w S [.slice A2 x.Nq.Nw.length c2] x.Nq.Nw/\lrep w S [.slice A3 x.Nk.length c3] x.Nk:=by
 obtain⟨cs,h,rfl⟩:=h
 obtain⟨A1,c1,A2,c2,A3,c3,rfl,l1,l2,l3⟩:=nA h
 exact⟨A1,c1,A2,c2,A3,c3,rfl,l1,l2,l3⟩
theorem Ag {x:Nh} (l1:lrep w S [.slice A1 m1 c1] x.Nq.Nv) {A2:c_} {m2 c2:Nat} (l2:lrep w S [.slice A2 m2 c2] x.Nq.Nw) {A3:c_} {m3 c3:Nat} (l3:lrep w S [.slice A3 m3 c3] x.Nk):GoTy.rep w S [(.slice A1 m1 c1),(.slice A2 m2 c2),(.slice A3 m3 c3)] x:=⟨_,_,rfl,(yR l1 l2),l3⟩
theorem ve {x:Nh} (l1:lrep w S [.slice A1 m1 c1] x.Nq.Nv) {A2:c_} {m2 c2:Nat} (l2:lrep w S [.slice A2 m2 c2] x.Nq.Nw) {A3:c_} {m3 c3:Nat} (l3:lrep w S [.slice A3 m3 c3] x.Nk):VR w S (.agg #[(.slice A1 m1 c1),(.slice A2 m2 c2),(.slice A3 m3 c3)]) x:=⟨_,Ag l1 l2 l3,rfl⟩
theorem dD {x:Nh} {F1:m_} (l1:lown w F1 [.slice A1 m1 c1] x.Nq.Nv) {A2:c_} {m2 c2:Nat} {F2:m_} (l2:lown w F2 [.slice A2 m2 c2] x.Nq.Nw) {A3:c_} {m3 c3:Nat} {F3:m_} (l3:lown w F3 [.slice A3 m3 c3] x.Nk):GoTy.own w (F1++(F2++F3)) [(.slice A1 m1 c1),(.slice A2 m2 c2),(.slice A3 m3 c3)] x:=⟨_,_,(F1++F2),F3,rfl,by simp,(zh l1 l2),l3⟩
theorem rD {x:Nh} (h:GoTy.own w F cs x):∃A1 c1 F1,∃A2 c2 F2,∃A3 c3 F3,cs=[(.slice A1 x.Nq.Nv.length c1),(.slice A2 x.Nq.Nw.length c2),(.slice A3 x.Nk.length c3)]/\F1++(F2++(F3))=F/\lown w F1 [.slice A1 x.Nq.Nv.length c1] x.Nq.Nv/\lown w F2 [.slice A2 x.Nq.Nw.length c2] x.Nq.Nw/\lown w F3 [.slice A3 x.Nk.length c3] x.Nk:=by
 obtain⟨p0,q0,X0,Y0,rfl,rfl,g0,k0⟩:=h
 obtain⟨A1,c1,F1,A2,c2,F2,rfl,rfl,l1,l2⟩:=mo g0
 obtain⟨A3,c3,rfl,l3⟩:=yQ k0
 exact⟨A1,c1,_,A2,c2,_,A3,c3,_,rfl,by simp,l1,l2,l3⟩
theorem bN {v:Value} {x:Nh} (h:VO w F v x):∃A1 c1 F1,∃A2 c2 F2,∃A3 c3 F3,v=(.agg #[(.slice A1 x.Nq.Nv.length c1),(.slice A2 x.Nq.Nw.length c2),(.slice A3 x.Nk.length c3)])/\F1++(F2++(F3))=F/\lown w F1 [.slice A1 x.Nq.Nv.length c1] x.Nq.Nv/\lown w F2 [.slice A2 x.Nq.Nw.length c2] x.Nq.Nw/\lown w F3 [.slice A3 x.Nk.length c3] x.Nk:=by
 obtain⟨cs,h,rfl⟩:=h
 obtain⟨A1,c1,F1,A2,c2,F2,A3,c3,F3,rfl,rfl,l1,l2,l3⟩:=rD h
 exact⟨_,_,_,_,_,_,_,_,_,rfl,rfl,l1,l2,l3⟩
instance:GoTy Ng:=GoTy.via (α:=(Int)×(Int)) (λx=>(x.Reach,x.Ph))
theorem xc {x:Ng} (h:GoTy.rep w S cs x):cs=[(.int .i64 x.Reach),(.int .i64 x.Ph)]:=by
 obtain⟨p0,q0,rfl,g0,k0⟩:=h
 obtain rfl:=g0
 obtain rfl:=k0
 exact rfl
theorem ik {x:Ng}:GoTy.rep w S [(.int .i64 x.Reach),(.int .i64 x.Ph)] x:=⟨_,_,rfl,rfl,rfl⟩
theorem qb {x:Ng}:GoTy.own w [] [(.int .i64 x.Reach),(.int .i64 x.Ph)] x:=⟨_,_,[],[],rfl,by simp,⟨rfl,rfl⟩,⟨rfl,rfl⟩⟩
theorem qM {x:Ng} (h:GoTy.own w F cs x):F=[]:=by
 obtain⟨p0,q0,X0,Y0,rfl,rfl,g0,k0⟩:=h
 obtain⟨rfl,rfl⟩:=g0
 obtain⟨rfl,rfl⟩:=k0
 rfl
instance:GoTy Nd:=GoTy.via (α:=(Int)×(Int)×(Int)×(Int)) (λx=>(x.Pt,x.To,x.Ph,x.Rk))
theorem aV {x:Nd} (h:GoTy.rep w S cs x):cs=[(.int .i64 x.Pt),(.int .i64 x.To),(.int .i64 x.Ph),(.int .i64 x.Rk)]:=by
 obtain⟨p0,q0,rfl,g0,k0⟩:=h
 obtain rfl:=g0
 obtain⟨p1,q1,rfl,g1,k1⟩:=k0
 obtain rfl:=g1
 obtain⟨p2,q2,rfl,g2,k2⟩:=k1
 obtain rfl:=g2
 obtain rfl:=k2
 exact rfl
theorem yF {v:Value} {x:Nd} (h:VR w S v x):v=(.agg #[(.int .i64 x.Pt),(.int .i64 x.To),(.int .i64 x.Ph),(.int .i64 x.Rk)]):=by
 obtain⟨cs,h,rfl⟩:=h
 obtain rfl:=aV h
 exact rfl
theorem il {x:Nd}:GoTy.rep w S [(.int .i64 x.Pt),(.int .i64 x.To),(.int .i64 x.Ph),(.int .i64 x.Rk)] x:=⟨_,_,rfl,rfl,⟨_,_,rfl,rfl,⟨_,_,rfl,rfl,rfl⟩⟩⟩
theorem xo {x:Nd}:VR w S (.agg #[(.int .i64 x.Pt),(.int .i64 x.To),(.int .i64 x.Ph),(.int .i64 x.Rk)]) x:=⟨_,il,rfl⟩
instance:GoTy Rq:=GoTy.via (α:=(Nh)×(d_)×(Int)) (λx=>(x.Nh,x.Ids,x.Rw))
theorem pZ {x:Rq} (h:GoTy.rep w S cs x):∃A1 c1,∃A2 c2,∃A3 c3,∃A4 c4,cs=[(.slice A1 x.Nh.Nq.Nv.length c1),(.slice A2 x.Nh.Nq.Nw.length c2),(.slice A3 x.Nh.Nk.length c3),(.slice A4 x.Ids.length c4),(.int .i64 x.Rw)]/\lrep w S [.slice A1 x.Nh.Nq.Nv.length c1] x.Nh.Nq.Nv/\lrep w S [.slice A2 x.Nh.Nq.Nw.length c2] x.Nh.Nq.Nw/\lrep w S [.slice A3 x.Nh.Nk.length c3] x.Nh.Nk/\lrep w S [.slice A4 x.Ids.length c4] x.Ids:=by
 obtain⟨p0,q0,rfl,g0,k0⟩:=h
 obtain⟨A1,c1,A2,c2,A3,c3,rfl,l1,l2,l3⟩:=nA g0
 obtain⟨p1,q1,rfl,g1,k1⟩:=k0
 obtain⟨A4,c4,rfl,l4⟩:=aQ g1
 obtain rfl:=k1
 exact⟨A1,c1,A2,c2,A3,c3,A4,c4,rfl,l1,l2,l3,l4⟩
theorem mn {v:Value} {x:Rq} (h:VR w S v x):∃A1 c1,∃A2 c2,∃A3 c3,∃A4 c4,v=(.agg #[(.slice A1 x.Nh.Nq.Nv.length c1),(.slice A2 x.Nh.Nq.Nw.length c2),(.slice A3 x.Nh.Nk.length c3),(.slice A4 x.Ids.length c4),(.int .i64 x.Rw)])/\lrep w S [.slice A1 x.Nh.Nq.Nv.length c1] x.Nh.Nq.Nv/\lrep w S [.slice A2 x.Nh.Nq.Nw.length c2] x.Nh.Nq.Nw/\lrep w S [.slice A3 x.Nh.Nk.length c3] x.Nh.Nk/\lrep w S [.slice A4 x.Ids.length c4] x.Ids:=by
 obtain⟨cs,h,rfl⟩:=h
 obtain⟨A1,c1,A2,c2,A3,c3,A4,c4,rfl,l1,l2,l3,l4⟩:=pZ h
 exact⟨A1,c1,A2,c2,A3,c3,A4,c4,rfl,l1,l2,l3,l4⟩
theorem Af {x:Rq} (l1:lrep w S [.slice A1 m1 c1] x.Nh.Nq.Nv) {A2:c_} {m2 c2:Nat} (l2:lrep w S [.slice A2 m2 c2] x.Nh.Nq.Nw) {A3:c_} {m3 c3:Nat} (l3:lrep w S [.slice A3 m3 c3] x.Nh.Nk) {A4:c_} {m4 c4:Nat} (l4:lrep w S [.slice A4 m4 c4] x.Ids):GoTy.rep w S [(.slice A1 m1 c1),(.slice A2 m2 c2),(.slice A3 m3 c3),(.slice A4 m4 c4),(.int .i64 x.Rw)] x:=⟨_,_,rfl,(Ag l1 l2 l3),⟨_,_,rfl,l4,rfl⟩⟩
theorem fY {x:Rq} (l1:lrep w S [.slice A1 m1 c1] x.Nh.Nq.Nv) {A2:c_} {m2 c2:Nat} (l2:lrep w S [.slice A2 m2 c2] x.Nh.Nq.Nw) {A3:c_} {m3 c3:Nat} (l3:lrep w S [.slice A3 m3 c3] x.Nh.Nk) {A4:c_} {m4 c4:Nat} (l4:lrep w S [.slice A4 m4 c4] x.Ids):VR w S (.agg #[(.slice A1 m1 c1),(.slice A2 m2 c2),(.slice A3 m3 c3),(.slice A4 m4 c4),(.int .i64 x.Rw)]) x:=⟨_,Af l1 l2 l3 l4,rfl⟩
theorem fo {x:Rq} {F1:m_} (l1:lown w F1 [.slice A1 m1 c1] x.Nh.Nq.Nv) {A2:c_} {m2 c2:Nat} {F2:m_} (l2:lown w F2 [.slice A2 m2 c2] x.Nh.Nq.Nw) {A3:c_} {m3 c3:Nat} {F3:m_} (l3:lown w F3 [.slice A3 m3 c3] x.Nh.Nk) {A4:c_} {m4 c4:Nat} {F4:m_} (l4:lown w F4 [.slice A4 m4 c4] x.Ids):GoTy.own w (F1++(F2++(F3++F4))) [(.slice A1 m1 c1),(.slice A2 m2 c2),(.slice A3 m3 c3),(.slice A4 m4 c4),(.int .i64 x.Rw)] x:=⟨_,_,(F1++(F2++F3)),F4,rfl,by simp,(dD l1 l2 l3),⟨_,_,F4,[],rfl,by simp,l4,⟨rfl,rfl⟩⟩⟩
theorem sW {x:Rq} (h:GoTy.own w F cs x):∃A1 c1 F1,∃A2 c2 F2,∃A3 c3 F3,∃A4 c4 F4,cs=[(.slice A1 x.Nh.Nq.Nv.length c1),(.slice A2 x.Nh.Nq.Nw.length c2),(.slice A3 x.Nh.Nk.length c3),(.slice A4 x.Ids.length c4),(.int .i64 x.Rw)]/\F1++(F2++(F3++(F4)))=F/\lown w F1 [.slice A1 x.Nh.Nq.Nv.length c1] x.Nh.Nq.Nv/\lown w F2 [.slice A2 x.Nh.Nq.Nw.length c2] x.Nh.Nq.Nw/\lown w F3 [.slice A3 x.Nh.Nk.length c3] x.Nh.Nk/\lown w F4 [.slice A4 x.Ids.length c4] x.Ids:=by
 obtain⟨p0,q0,X0,Y0,rfl,rfl,g0,k0⟩:=h
 obtain⟨A1,c1,F1,A2,c2,F2,A3,c3,F3,rfl,rfl,l1,l2,l3⟩:=rD g0
 obtain⟨p1,q1,X1,Y1,rfl,rfl,g1,k1⟩:=k0
 obtain⟨A4,c4,rfl,l4⟩:=yQ g1
 obtain⟨rfl,rfl⟩:=k1
 exact⟨A1,c1,_,A2,c2,_,A3,c3,_,A4,c4,_,rfl,by simp,l1,l2,l3,l4⟩
theorem mm {v:Value} {x:Rq} (h:VO w F v x):∃A1 c1 F1,∃A2 c2 F2,∃A3 c3 F3,∃A4 c4 F4,v=(.agg #[(.slice A1 x.Nh.Nq.Nv.length c1),(.slice A2 x.Nh.Nq.Nw.length c2),(.slice A3 x.Nh.Nk.length c3),(.slice A4 x.Ids.length c4),(.int .i64 x.Rw)])/\F1++(F2++(F3++(F4)))=F/\lown w F1 [.slice A1 x.Nh.Nq.Nv.length c1] x.Nh.Nq.Nv/\lown w F2 [.slice A2 x.Nh.Nq.Nw.length c2] x.Nh.Nq.Nw/\lown w F3 [.slice A3 x.Nh.Nk.length c3] x.Nh.Nk/\lown w F4 [.slice A4 x.Ids.length c4] x.Ids:=by
 obtain⟨cs,h,rfl⟩:=h
 obtain⟨A1,c1,F1,A2,c2,F2,A3,c3,F3,A4,c4,F4,rfl,rfl,l1,l2,l3,l4⟩:=sW h
 exact⟨_,_,_,_,_,_,_,_,_,_,_,_,rfl,rfl,l1,l2,l3,l4⟩
instance:GoTy Px:=GoTy.via (α:=(Nz)×(Int)) (λx=>(x.route,x.count))
theorem gz {x:Px} (h:GoTy.rep w S cs x):∃A1 c1,cs=[(.int .i64 x.route.Nt),(.slice A1 x.route.Nw.length c1),(.int .i64 x.count)]/\lrep w S [.slice A1 x.route.Nw.length c1] x.route.Nw:=by
 obtain⟨p0,q0,rfl,g0,k0⟩:=h
 obtain⟨A1,c1,rfl,l1⟩:=yE g0
 obtain rfl:=k0
 exact⟨A1,c1,rfl,l1⟩
theorem im {v:Value} {x:Px} (h:VR w S v x):∃A1 c1,v=(.agg #[(.int .i64 x.route.Nt),(.slice A1 x.route.Nw.length c1),(.int .i64 x.count)])/\lrep w S [.slice A1 x.route.Nw.length c1] x.route.Nw:=by
 obtain⟨cs,h,rfl⟩:=h
 obtain⟨A1,c1,rfl,l1⟩:=gz h
 exact⟨A1,c1,rfl,l1⟩
theorem nB {x:Px} (l1:lrep w S [.slice A1 m1 c1] x.route.Nw):GoTy.rep w S [(.int .i64 x.route.Nt),(.slice A1 m1 c1),(.int .i64 x.count)] x:=⟨_,_,rfl,(gy l1),rfl⟩
theorem jd {x:Px} (l1:lrep w S [.slice A1 m1 c1] x.route.Nw):VR w S (.agg #[(.int .i64 x.route.Nt),(.slice A1 m1 c1),(.int .i64 x.count)]) x:=⟨_,nB l1,rfl⟩
instance:GoTy Pj:=GoTy.via (α:=(Nq)×(Int)×(List Nz)) (λx=>(x.n,x.to,x.list))
theorem vQ {x:Pj} (h:GoTy.rep w S cs x):∃A1 c1,∃A2 c2,∃A3 c3,cs=[(.slice A1 x.n.Nv.length c1),(.slice A2 x.n.Nw.length c2),(.int .i64 x.to),(.slice A3 x.list.length c3)]/\lrep w S [.slice A1 x.n.Nv.length c1] x.n.Nv/\lrep w S [.slice A2 x.n.Nw.length c2] x.n.Nw/\lrep w S [.slice A3 x.list.length c3] x.list:=by
 obtain⟨p0,q0,rfl,g0,k0⟩:=h
 obtain⟨A1,c1,A2,c2,rfl,l1,l2⟩:=yt g0
 obtain⟨p1,q1,rfl,g1,k1⟩:=k0
 obtain rfl:=g1
 obtain⟨A3,c3,rfl,l3⟩:=aQ k1
 exact⟨A1,c1,A2,c2,A3,c3,rfl,l1,l2,l3⟩
theorem xn {x:Pj} (l1:lrep w S [.slice A1 m1 c1] x.n.Nv) {A2:c_} {m2 c2:Nat} (l2:lrep w S [.slice A2 m2 c2] x.n.Nw) {A3:c_} {m3 c3:Nat} (l3:lrep w S [.slice A3 m3 c3] x.list):GoTy.rep w S [(.slice A1 m1 c1),(.slice A2 m2 c2),(.int .i64 x.to),(.slice A3 m3 c3)] x:=⟨_,_,rfl,(yR l1 l2),⟨_,_,rfl,rfl,l3⟩⟩
instance:GoTy Pd:=GoTy.via (α:=(Nh)×(List Nx)×(d_)) (λx=>(x.Nh,x.Rz,x.Rv))
instance:GoTy Action:=GoTy.via (α:=(Int)×(Nx)) (λx=>(x.Kind,x.Nx))
instance:GoTy L20SearchP:=GoTy.via (α:=(List Action)×(List Bool)) (λx=>(x.list,x.failed))
instance:GoTy FiberEvent:=GoTy.via (α:=(Bool)×(d_)) (λx=>(x.Fail,x.Nw))
theorem Lens.via {N α β:Type} [GoTy α] [GoTy β] {f:N->α} {q:Nat} {get:α->β} {put:α->β->α} (h:Lens α β q get put) (g:N->β) (p:N->β->N) (hg:∀e,g e=get (f e)) (hp:∀e y,f (p e y)=put (f e) y):@Lens N β (GoTy.via f) _ q g p:=by
 refine @Lens.mk N β (GoTy.via f) _ q g p ?_
 intro w F cs e ho
 obtain⟨Fa,F1,Fc,c,hF,hc,h1,h2⟩:=h.at_ (e:=f e) ho
 refine⟨Fa,F1,Fc,c,hF,hc,by rw[hg]; exact h1,λw1 F2 y a b d=>?_⟩
 have:=h2 w1 F2 y a b d
 rw[<-hp]at this; exact this
namespace TF
theorem gK:AI prog 180 4 (.agg #[(.int .i64 0),(.int .i64 0),(.int .i64 0),(.int .i64 0)]) 32:=by unfold AI; kernel_rfl
theorem GF:AI prog 182 2 (.agg #[(.int .i64 0),(.int .i64 0)]) 16:=by unfold AI; kernel_rfl
theorem GE:AI prog 198 3 (.agg #[(.int .i64 0),(.slice none 0 0),(.int .i64 0)]) 40:=by unfold AI; kernel_rfl
theorem W_:AI prog 3 1 (.int .i64 0) 8:=by unfold AI; kernel_rfl
theorem ai45:AI prog 45 2 (.agg #[(.int .i64 0),(.slice none 0 0)]) 32:=by unfold AI; kernel_rfl
theorem ai47:AI prog 47 2 (.agg #[(.int .i64 0),(.int .i64 0)]) 16:=by unfold AI; kernel_rfl
theorem ai49:AI prog 49 5 (.agg #[(.int .i64 0),(.int .i64 0),(.slice none 0 0),(.int .i64 0),(.int .i64 0)]) 56:=by unfold AI; kernel_rfl
theorem ai51:AI prog 51 4 (.agg #[(.int .i64 0),(.int .i64 0),(.int .i64 0),(.int .i64 0)]) 32:=by unfold AI; kernel_rfl
theorem ai9:AI prog 9 1 (.string ByteArray.empty) 16:=by unfold AI; kernel_rfl
theorem cl10:CL prog 10:=λ_ _=>Kk
theorem GC:CL prog 106:=λ_ _=>Kk
theorem yi:CL prog 121:=λ_ _=>Kk
theorem GA:CL prog 130:=λ_ _=>Kk
theorem Gz:CL prog 131:=λ_ _=>Kk
theorem Gy:CL prog 137:=λ_ _=>Kk
theorem Gx:CL prog 138:=λ_ _=>Kk
theorem Gw:CL prog 139:=λ_ _=>Kk
theorem mP:CL prog 140:=λ_ _=>Kk
theorem Gv:CL prog 141:=λ_ _=>Kk
theorem eU:CL prog 142:=λ_ _=>Kk
theorem Gu:CL prog 143:=λ_ _=>Kk
theorem Gt:CL prog 144:=λ_ _=>Kk
theorem Gr:CL prog 145:=λ_ _=>Kk
theorem Gq:CL prog 146:=λ_ _=>Kk
theorem Bs:CL prog 147:=λ_ _=>Kk
theorem De:CL prog 148:=λ_ _=>Kk
theorem Gp:CL prog 149:=λ_ _=>Kk
theorem Er:CL prog 150:=λ_ _=>Kk
theorem Dc:CL prog 151:=λ_ _=>Kk
theorem Ep:CL prog 152:=λ_ _=>Kk
theorem gx:CL prog 153:=λ_ _=>Kk
theorem qE:CL prog 154:=λ_ _=>Kk
theorem Eo:CL prog 155:=λ_ _=>Kk
theorem En:CL prog 156:=λ_ _=>Kk
theorem Gn:CL prog 157:=λ_ _=>Kk
theorem Gm:CL prog 158:=λ_ _=>Kk
theorem Gl:CL prog 159:=λ_ _=>Kk
theorem fD:CL prog 160:=λ_ _=>Kk
theorem Gk:CL prog 161:=λ_ _=>Kk
theorem Em:CL prog 162:=λ_ _=>Kk
theorem Gj:CL prog 163:=λ_ _=>Kk
theorem Gi:CL prog 164:=λ_ _=>Kk
theorem Gh:CL prog 165:=λ_ _=>Kk
theorem Gg:CL prog 166:=λ_ _=>Kk
theorem Br:CL prog 167:=λ_ _=>Kk
theorem Gf:CL prog 168:=λ_ _=>Kk
theorem Db:CL prog 169:=λ_ _=>Kk
theorem Ge:CL prog 174:=λ_ _=>Kk
theorem w7:CL prog 178:=λ_ _=>Kk
theorem cl18:CL prog 18:=λ_ _=>Kk
theorem Da:CL prog 185:=λ_ _=>Kk
theorem Bq:CL prog 186:=λ_ _=>Kk
theorem Bp:CL prog 187:=λ_ _=>Kk
theorem El:CL prog 188:=λ_ _=>Kk
theorem cl19:CL prog 19:=λ_ _=>Kk
theorem iL:CL prog 192:=λ_ _=>Kk
theorem Bo:CL prog 197:=λ_ _=>Kk
theorem Gd:CL prog 198:=λ_ _=>Kk
theorem Gc:CL prog 199:=λ_ _=>Kk
theorem Ek:CL prog 213:=λ_ _=>Kk
theorem Ej:CL prog 219:=λ_ _=>Kk
theorem Gb:CL prog 220:=λ_ _=>Kk
theorem Ga:CL prog 221:=λ_ _=>Kk
theorem Ei:CL prog 222:=λ_ _=>Kk
theorem FZ:CL prog 223:=λ_ _=>Kk
theorem FY:CL prog 224:=λ_ _=>Kk
theorem Eh:CL prog 225:=λ_ _=>Kk
theorem FX:CL prog 226:=λ_ _=>Kk
theorem FW:CL prog 227:=λ_ _=>Kk
theorem Ef:CL prog 228:=λ_ _=>Kk
theorem Ee:CL prog 229:=λ_ _=>Kk
theorem Ed:CL prog 230:=λ_ _=>Kk
theorem FV:CL prog 231:=λ_ _=>Kk
theorem FU:CL prog 232:=λ_ _=>Kk
theorem FT:CL prog 233:=λ_ _=>Kk
theorem FSq:CL prog 234:=λ_ _=>Kk
theorem FR:CL prog 235:=λ_ _=>Kk
theorem FQ:CL prog 236:=λ_ _=>Kk
theorem Ec:CL prog 237:=λ_ _=>Kk
theorem FP:CL prog 238:=λ_ _=>Kk
theorem FO:CL prog 239:=λ_ _=>Kk
theorem FN:CL prog 240:=λ_ _=>Kk
theorem FM:CL prog 241:=λ_ _=>Kk
theorem Ea:CL prog 242:=λ_ _=>Kk
theorem D9:CL prog 243:=λ_ _=>Kk
theorem D8:CL prog 244:=λ_ _=>Kk
theorem FL:CL prog 248:=λ_ _=>Kk
theorem D7:CL prog 249:=λ_ _=>Kk
theorem FK:CL prog 257:=λ_ _=>Kk
theorem FJ:CL prog 258:=λ_ _=>Kk
theorem FI:CL prog 259:=λ_ _=>Kk
theorem D6:CL prog 260:=λ_ _=>Kk
theorem FH:CL prog 261:=λ_ _=>Kk
theorem FG:CL prog 262:=λ_ _=>Kk
theorem FF:CL prog 282:=λ_ _=>Kk
theorem FE:CL prog 283:=λ_ _=>Kk
theorem FD:CL prog 284:=λ_ _=>Kk
theorem C9:CL prog 285:=λ_ _=>Kk
theorem D5:CL prog 286:=λ_ _=>Kk
theorem FC:CL prog 287:=λ_ _=>Kk
theorem D4:CL prog 288:=λ_ _=>Kk
theorem Bn:CL prog 290:=λ_ _=>Kk
theorem pS:CL prog 291:=λ_ _=>Kk
theorem Bm:CL prog 292:=λ_ _=>Kk
theorem sN:CL prog 293:=λ_ _=>Kk
theorem FB:CL prog 294:=λ_ _=>Kk
theorem C8:CL prog 295:=λ_ _=>Kk
theorem D3:CL prog 296:=λ_ _=>Kk
theorem C7:CL prog 297:=λ_ _=>Kk
theorem Fz:CL prog 298:=λ_ _=>Kk
theorem C6:CL prog 299:=λ_ _=>Kk
theorem Fy:CL prog 300:=λ_ _=>Kk
theorem Bl:CL prog 301:=λ_ _=>Kk
theorem Fx:CL prog 302:=λ_ _=>Kk
theorem Fw:CL prog 308:=λ_ _=>Kk
theorem Fv:CL prog 319:=λ_ _=>Kk
theorem C5:CL prog 320:=λ_ _=>Kk
theorem Fu:CL prog 321:=λ_ _=>Kk
theorem D1:CL prog 322:=λ_ _=>Kk
theorem Ft:CL prog 323:=λ_ _=>Kk
theorem Fq:CL prog 324:=λ_ _=>Kk
theorem Fp:CL prog 325:=λ_ _=>Kk
theorem DZ:CL prog 326:=λ_ _=>Kk
theorem Fo:CL prog 328:=λ_ _=>Kk
theorem Fl:CL prog 329:=λ_ _=>Kk
theorem Fj:CL prog 330:=λ_ _=>Kk
theorem Fh:CL prog 331:=λ_ _=>Kk
theorem C4:CL prog 332:=λ_ _=>Kk
theorem Fg:CL prog 333:=λ_ _=>Kk
theorem Ff:CL prog 334:=λ_ _=>Kk
theorem Fe:CL prog 335:=λ_ _=>Kk
theorem Fb:CL prog 342:=λ_ _=>Kk
theorem EZ:CL prog 343:=λ_ _=>Kk
theorem EY:CL prog 344:=λ_ _=>Kk
theorem EX:CL prog 346:=λ_ _=>Kk
theorem mf:CL prog 347:=λ_ _=>Kk
theorem EW:CL prog 348:=λ_ _=>Kk
theorem EV:CL prog 349:=λ_ _=>Kk
theorem DY:CL prog 350:=λ_ _=>Kk
theorem Bj:CL prog 351:=λ_ _=>Kk
theorem EU:CL prog 361:=λ_ _=>Kk
theorem ET:CL prog 362:=λ_ _=>Kk
theorem ES:CL prog 366:=λ_ _=>Kk
theorem C3:CL prog 367:=λ_ _=>Kk
theorem Bi:CL prog 369:=λ_ _=>Kk
theorem cl51:CL prog 51:=λ_ _=>Kk
theorem cl52:CL prog 52:=λ_ _=>Kk
theorem cl53:CL prog 53:=λ_ _=>Kk
theorem cl54:CL prog 54:=λ_ _=>Kk
theorem cl55:CL prog 55:=λ_ _=>Kk
theorem cl56:CL prog 56:=λ_ _=>Kk
theorem cl57:CL prog 57:=λ_ _=>Kk
theorem cl58:CL prog 58:=λ_ _=>Kk
theorem cl60:CL prog 60:=λ_ _=>Kk
theorem cl61:CL prog 61:=λ_ _=>Kk
theorem cl62:CL prog 62:=λ_ _=>Kk
theorem cl63:CL prog 63:=λ_ _=>Kk
theorem cl64:CL prog 64:=λ_ _=>Kk
theorem cl65:CL prog 65:=λ_ _=>Kk
theorem cl66:CL prog 66:=λ_ _=>Kk
theorem cl67:CL prog 67:=λ_ _=>Kk
theorem cl69:CL prog 69:=λ_ _=>Kk
theorem cl72:CL prog 72:=λ_ _=>Kk
theorem cl74:CL prog 74:=λ_ _=>Kk
theorem cl75:CL prog 75:=λ_ _=>Kk
theorem cl76:CL prog 76:=λ_ _=>Kk
theorem cl77:CL prog 77:=λ_ _=>Kk
theorem cl78:CL prog 78:=λ_ _=>Kk
theorem cl79:CL prog 79:=λ_ _=>Kk
theorem cl80:CL prog 80:=λ_ _=>Kk
theorem cl84:CL prog 84:=λ_ _=>Kk
theorem cl92:CL prog 92:=λ_ _=>Kk
theorem cl96:CL prog 96:=λ_ _=>Kk
theorem gX:LA prog 180 4:=λ_ _=>Kk
theorem CS:LA prog 182 2:=λ_ _=>Kk
theorem eM:LA prog 198 3:=λ_ _=>Kk
theorem la27:LA prog 27 2:=λ_ _=>Kk
theorem la30:LA prog 30 3:=λ_ _=>Kk
theorem la37:LA prog 37 5:=λ_ _=>Kk
theorem la45:LA prog 45 2:=λ_ _=>Kk
theorem la47:LA prog 47 2:=λ_ _=>Kk
theorem la49:LA prog 49 5:=λ_ _=>Kk
theorem la51:LA prog 51 4:=λ_ _=>Kk
theorem AO:LS prog 107:=λ_ _=>Kk
theorem ls22:LS prog 22:=λ_ _=>Kk
theorem kD:LS prog 230:=λ_ _=>Kk
theorem ls24:LS prog 24:=λ_ _=>Kk
theorem ls25:LS prog 25:=λ_ _=>Kk
theorem ls28:LS prog 28:=λ_ _=>Kk
theorem DU:LS prog 299:=λ_ _=>Kk
theorem K_:LS prog 3:=λ_ _=>Kk
theorem ls35:LS prog 35:=λ_ _=>Kk
theorem ls5:LS prog 5:=λ_ _=>Kk
theorem ls9:LS prog 9:=λ_ _=>Kk
theorem Di:SZ prog 107 1:=λ_=>by kernel_rfl
theorem eb:SZ prog 180 4:=λ_=>by kernel_rfl
theorem eW:SZ prog 182 2:=λ_=>by kernel_rfl
theorem bw:SZ prog 198 3:=λ_=>by kernel_rfl
theorem tf:SZ prog 230 1:=λ_=>by kernel_rfl
theorem sz24:SZ prog 24 1:=λ_=>by kernel_rfl
theorem sz25:SZ prog 25 1:=λ_=>by kernel_rfl
theorem sz27:SZ prog 27 2:=λ_=>by kernel_rfl
theorem sz28:SZ prog 28 1:=λ_=>by kernel_rfl
theorem EE:SZ prog 299 1:=λ_=>by kernel_rfl
theorem C_:SZ prog 3 1:=λ_=>by kernel_rfl
theorem sz30:SZ prog 30 3:=λ_=>by kernel_rfl
theorem sz35:SZ prog 35 1:=λ_=>by kernel_rfl
theorem sz37:SZ prog 37 5:=λ_=>by kernel_rfl
theorem sz45:SZ prog 45 2:=λ_=>by kernel_rfl
theorem sz47:SZ prog 47 2:=λ_=>by kernel_rfl
theorem sz49:SZ prog 49 5:=λ_=>by kernel_rfl
theorem sz5:SZ prog 5 1:=λ_=>by kernel_rfl
theorem sz51:SZ prog 51 4:=λ_=>by kernel_rfl
theorem sz9:SZ prog 9 1:=λ_=>by kernel_rfl
theorem Aj:ZV prog 180 (.agg #[(.int .i64 0),(.int .i64 0),(.int .i64 0),(.int .i64 0)]):=λ_=>by kernel_rfl
theorem Dh:ZV prog 182 (.agg #[(.int .i64 0),(.int .i64 0)]):=λ_=>by kernel_rfl
theorem BW:ZV prog 198 (.agg #[(.int .i64 0),(.slice none 0 0),(.int .i64 0)]):=λ_=>by kernel_rfl
theorem ED:ZV prog 230 (.slice none 0 0):=λ_=>by kernel_rfl
theorem zv27:ZV prog 27 (.agg #[(.slice none 0 0),(.slice none 0 0)]):=λ_=>by kernel_rfl
theorem EC:ZV prog 299 .nilFunc:=λ_=>by kernel_rfl
theorem zv30:ZV prog 30 (.agg #[(.slice none 0 0),(.slice none 0 0),(.slice none 0 0)]):=λ_=>by kernel_rfl
theorem zv35:ZV prog 35 (.slice none 0 0):=λ_=>by kernel_rfl
theorem zv37:ZV prog 37 (.agg #[(.slice none 0 0),(.slice none 0 0),(.slice none 0 0),(.slice none 0 0),(.int .i64 0)]):=λ_=>by kernel_rfl
theorem zv45:ZV prog 45 (.agg #[(.int .i64 0),(.slice none 0 0)]):=λ_=>by kernel_rfl
theorem zv47:ZV prog 47 (.agg #[(.int .i64 0),(.int .i64 0)]):=λ_=>by kernel_rfl
theorem zv49:ZV prog 49 (.agg #[(.int .i64 0),(.int .i64 0),(.slice none 0 0),(.int .i64 0),(.int .i64 0)]):=λ_=>by kernel_rfl
theorem zv51:ZV prog 51 (.agg #[(.int .i64 0),(.int .i64 0),(.int .i64 0),(.int .i64 0)]):=λ_=>by kernel_rfl
end TF
def tab:Tab:=⟨[22,24,25,28,31,32,35,70,75,78,87,213,228,230,246,318],[4],[9],[(27,0,0),(27,1,1),(30,0,0),(30,1,2),(37,0,0),(37,1,3),(37,2,4),(45,0,0),(45,1,1),(47,0,0),(47,1,1),(49,0,0),(49,1,1),(49,2,3),(51,0,0),(51,1,1),(51,2,2),(51,3,3),(60,0,0),(60,1,3),(60,2,4),(77,0,0),(77,1,1),(80,0,0),(80,1,2),(94,0,0),(94,1,1),(109,0,0),(109,1,1),(109,2,2),(145,0,0),(145,1,1),(148,0,0),(148,1,1),(180,0,0),(180,1,1),(180,2,2),(180,3,3),(182,0,0),(182,1,1),(198,0,0),(198,1,2),(218,0,0),(218,1,1),(219,0,0),(219,1,1),(221,0,0),(221,1,1),(221,2,3),(261,0,0),(261,1,1),(261,2,2),(261,3,3),(322,0,0),(322,1,2),(322,2,3)]⟩
theorem od:∀{l:m_} {x:Nat},inl l x=true->x∈l
 | y::r,x,h=>by
  unfold inl at h
  cases hb:Nat.beq y x <;> rw[hb]at h
  · exact Hs _ (od h)
  · rw[I3 hb]; exact Hp
theorem rv:∀{l:List (TypeId×Nat×Nat)} {t f o:Nat},foff l t f=some o->(t,f,o)∈l
 | (t',f',o')::r,t,f,o,h=>by
  unfold foff at h
  cases hb:(Nat.beq t' t&&Nat.beq f' f) <;> rw[hb]at h
  · exact Hs _ (rv h)
  · simp only[GP]at hb
    injection h with h
    rw[I3 hb.1,I3 hb.2,h]; exact Hp
theorem tabOk:TabOk prog tab where
 sl:=λT h=>by
  have h:=od h
  simp only[tab,Hf,Is,or_false]at h
  rcases h with rfl | rfl | rfl | rfl | rfl | rfl | rfl | rfl | rfl | rfl | rfl | rfl | rfl | rfl | rfl | rfl
  · exact⟨_,Tryz.underlying22⟩
  · exact⟨_,Tryz.underlying24⟩
  · exact⟨_,Tryz.underlying25⟩
  · exact⟨_,Tryz.underlying28⟩
  · exact⟨_,Tryz.underlying31⟩
  · exact⟨_,Tryz.underlying32⟩
  · exact⟨_,Tryz.underlying35⟩
  · exact⟨_,Tryz.underlying70⟩
  · exact⟨_,Tryz.underlying75⟩
  · exact⟨_,Tryz.underlying78⟩
  · exact⟨_,Tryz.underlying87⟩
  · exact⟨_,Tryz.underlying213⟩
  · exact⟨_,Tryz.underlying228⟩
  · exact⟨_,Tryz.underlying230⟩
  · exact⟨_,Tryz.underlying246⟩
  · exact⟨_,Tryz.underlying318⟩
 bo:=λT h=>by
  have h:=od h
  simp only[tab,Hf,Is,or_false]at h
  rcases h with rfl
  · exact Tryz.underlying4
 st:=λT h=>by
  have h:=od h
  simp only[tab,Hf,Is,or_false]at h
  rcases h with rfl
  · exact Tryz.underlying9
 fa:=λT f o h=>by
  have h:=rv h
  simp only[tab,Hf,Is,or_false,Ie]at h
  iterate 55 (rcases h with ⟨rfl,rfl,rfl⟩|h;exact λ_ _=>Kk)
  obtain⟨rfl,rfl,rfl⟩:=h;exact λ_ _=>Kk
section
variable {Q:Exit->r_} {w:World} {n:Nat}
theorem pr {ops:List Oper} (k:Nat) {L:g_} {l:List Oper} {L':g_} {l':List Oper} {a:Act} (hf:Fr a n L) (hd:sC n l=true) (h:pRun tab ops k L l=(L',l')) (hk:∀a',Fr a' n L'->wpList prog ops.toArray Q l' a' w):wpList prog ops.toArray Q l a w:=CJ tabOk k L l hf hd h hk
variable {S0:t_} {B:m_} {bs:List Bool} {a:Act} {fuel d:Nat} {L:g_} {Mid:r_} {op:Op} {v:Value} {l:List Oper} {t:TypeId} {ps:String} {af:Array Edge}
theorem tp (i:Nat) (hi:l[i]?=some ⟨some d,op,t,ps,af,none⟩) (hdn:Nat.ble (d + 1) n=true) (hf:Fr a n L) (hc:takeB l bs i [] B=true) (hS:nb B bs.toArray=true->S0 w) (hv:pOp tab L op=some v) (h:∀a',Fr a' n ((d,v)::L)->DL prog l Mid S0 B fuel (bs.set i true) a' w):DL prog l Mid S0 B (fuel + 1) bs a w:=tP i hi rfl rfl hdn hf hc hS (λ_=>pd tabOk hf hv) h
theorem tpg (i:Nat) {j e:Nat} {b:Bool} (hi:l[i]?=some ⟨some d,op,t,ps,af,some (j,b)⟩) (hj:(l[j]?).bind (·.dst)=some e) (hb:lk L e=some (.bool b)) (hdn:Nat.ble (d + 1) n=true) (hf:Fr a n L) (hc:takeB l bs i [] B=true) (hS:nb B bs.toArray=true->S0 w) (hv:pOp tab L op=some v) (h:∀a',Fr a' n ((d,v)::L)->DL prog l Mid S0 B fuel (bs.set i true) a' w):DL prog l Mid S0 B (fuel + 1) bs a w:=U0 i hi rfl rfl hj hb hdn hf hc hS (λ_=>pd tabOk hf hv) h
end
end AT
