/- The types and closed facts on the program, by program (gen.py). -/
import Derived.Test.YtlemonjnolciiaaGreatAtPI
import Derived.Test.YtlemonjnolciiaaGreatF
import Derived.Test.YtlemonjnolciiaaGreatRows
set_option linter.unusedVariables false
set_option maxRecDepth 100000
namespace AT
open Go Go.RowKit Go.Proofs
instance:GoTy L1CurP:=GoTy.via (α:=(List By)×(Int)×(U64)) (λx=>(x.code,x.at_,x.seed))
instance:GoTy Np:=GoTy.via (α:=(Int)×(Int)×(Int)×(Int)) (λx=>(x.A,x.B,x.Nt,x.Pj))
variable {w:World} {S:Nat→Prop} {x:Np}
theorem uN {cs:List Value} (h:GoTy.rep w S cs x):cs=[(.int .i64 x.A),(.int .i64 x.B),(.int .i64 x.Nt),(.int .i64 x.Pj)]:=by
  obtain⟨p0,q0,rfl,g0,k0⟩:=h
  obtain rfl:=g0
  obtain⟨p1,q1,rfl,g1,k1⟩:=k0
  obtain rfl:=g1
  obtain⟨p2,q2,rfl,g2,k2⟩:=k1
  obtain rfl:=g2
  obtain rfl:=k2
  exact rfl
theorem yx {v:Value} (h:VR w S v x):v=(.agg #[(.int .i64 x.A),(.int .i64 x.B),(.int .i64 x.Nt),(.int .i64 x.Pj)]):=by
  obtain⟨cs,h,rfl⟩:=h
  obtain rfl:=uN h
  exact rfl
theorem cn:GoTy.rep w S [(.int .i64 x.A),(.int .i64 x.B),(.int .i64 x.Nt),(.int .i64 x.Pj)] x:=⟨_,_,rfl,rfl,⟨_,_,rfl,rfl,⟨_,_,rfl,rfl,rfl⟩⟩⟩
theorem zh:VR w S (.agg #[(.int .i64 x.A),(.int .i64 x.B),(.int .i64 x.Nt),(.int .i64 x.Pj)]) x:=⟨_,cn,rfl⟩
instance:GoTy Nk:=GoTy.via (α:=(List ByteArray)×(List Np)) (λx=>(x.Ng,x.Nq))
variable {cs:List Value} {A1:Option Addr} {m1 c1:Nat} {F:List Nat}
theorem d8 {x:Nk} (h:GoTy.rep w S cs x):∃A1 c1,∃A2 c2,cs=[(.slice A1 x.Ng.length c1),(.slice A2 x.Nq.length c2)]∧lrep w S [.slice A1 x.Ng.length c1] x.Ng∧lrep w S [.slice A2 x.Nq.length c2] x.Nq:=by
  obtain⟨p0,q0,rfl,g0,k0⟩:=h
  obtain⟨A1,c1,rfl,l1⟩:=aW g0
  obtain⟨A2,c2,rfl,l2⟩:=aW k0
  exact⟨A1,c1,A2,c2,rfl,l1,l2⟩
theorem vh {v:Value} {x:Nk} (h:VR w S v x):∃A1 c1,∃A2 c2,v=(.agg #[(.slice A1 x.Ng.length c1),(.slice A2 x.Nq.length c2)])∧lrep w S [.slice A1 x.Ng.length c1] x.Ng∧lrep w S [.slice A2 x.Nq.length c2] x.Nq:=by
  obtain⟨cs,h,rfl⟩:=h
  obtain⟨A1,c1,A2,c2,rfl,l1,l2⟩:=d8 h
  exact⟨A1,c1,A2,c2,rfl,l1,l2⟩
theorem gT {x:Nk} (l1:lrep w S [.slice A1 m1 c1] x.Ng) {A2:Option Addr} {m2 c2:Nat} (l2:lrep w S [.slice A2 m2 c2] x.Nq):GoTy.rep w S [(.slice A1 m1 c1),(.slice A2 m2 c2)] x:=⟨_,_,rfl,l1,l2⟩
theorem vq {x:Nk} (l1:lrep w S [.slice A1 m1 c1] x.Ng) {A2:Option Addr} {m2 c2:Nat} (l2:lrep w S [.slice A2 m2 c2] x.Nq):VR w S (.agg #[(.slice A1 m1 c1),(.slice A2 m2 c2)]) x:=⟨_,gT l1 l2,rfl⟩
theorem yN {x:Nk} {F1:List Nat} (l1:lown w F1 [.slice A1 m1 c1] x.Ng) {A2:Option Addr} {m2 c2:Nat} {F2:List Nat} (l2:lown w F2 [.slice A2 m2 c2] x.Nq):GoTy.own w (F1++F2) [(.slice A1 m1 c1),(.slice A2 m2 c2)] x:=⟨_,_,F1,F2,rfl,by simp,l1,l2⟩
theorem ck {x:Nk} (h:GoTy.own w F cs x):∃A1 c1 F1,∃A2 c2 F2,cs=[(.slice A1 x.Ng.length c1),(.slice A2 x.Nq.length c2)]∧F1++(F2)=F∧lown w F1 [.slice A1 x.Ng.length c1] x.Ng∧lown w F2 [.slice A2 x.Nq.length c2] x.Nq:=by
  obtain⟨p0,q0,X0,Y0,rfl,rfl,g0,k0⟩:=h
  obtain⟨A1,c1,rfl,l1⟩:=zE g0
  obtain⟨A2,c2,rfl,l2⟩:=zE k0
  exact⟨A1,c1,_,A2,c2,_,rfl,by simp,l1,l2⟩
theorem eN {v:Value} {x:Nk} (h:VO w F v x):∃A1 c1 F1,∃A2 c2 F2,v=(.agg #[(.slice A1 x.Ng.length c1),(.slice A2 x.Nq.length c2)])∧F1++(F2)=F∧lown w F1 [.slice A1 x.Ng.length c1] x.Ng∧lown w F2 [.slice A2 x.Nq.length c2] x.Nq:=by
  obtain⟨cs,h,rfl⟩:=h
  obtain⟨A1,c1,F1,A2,c2,F2,rfl,rfl,l1,l2⟩:=ck h
  exact⟨_,_,_,_,_,_,rfl,rfl,l1,l2⟩
theorem jp {A2:Option Addr} {m2 c2:Nat} {x:Nk} (h:GoTy.own w F [(.slice A1 m1 c1),(.slice A2 m2 c2)] x):∃F1,∃F2,F1++(F2)=F∧lown w F1 [.slice A1 m1 c1] x.Ng∧lown w F2 [.slice A2 m2 c2] x.Nq:=by
  obtain⟨A'1,c'1,F1,A'2,c'2,F2,hcs,hFe,l1,l2⟩:=ck h
  simp only[s4,Value.slice.injEq,and_true]at hcs
  refine⟨F1,F2,hFe,?_,?_⟩
  · simp_all
  · simp_all
instance:GoTy Nz:=GoTy.via (α:=(Int)×(List Int)) (λx=>(x.Pz,x.Nq))
theorem gh {x:Nz} (h:GoTy.rep w S cs x):∃A1 c1,cs=[(.int .i64 x.Pz),(.slice A1 x.Nq.length c1)]∧lrep w S [.slice A1 x.Nq.length c1] x.Nq:=by
  obtain⟨p0,q0,rfl,g0,k0⟩:=h
  obtain rfl:=g0
  obtain⟨A1,c1,rfl,l1⟩:=aW k0
  exact⟨A1,c1,rfl,l1⟩
theorem xe {v:Value} {x:Nz} (h:VR w S v x):∃A1 c1,v=(.agg #[(.int .i64 x.Pz),(.slice A1 x.Nq.length c1)])∧lrep w S [.slice A1 x.Nq.length c1] x.Nq:=by
  obtain⟨cs,h,rfl⟩:=h
  obtain⟨A1,c1,rfl,l1⟩:=gh h
  exact⟨A1,c1,rfl,l1⟩
theorem km {x:Nz} (l1:lrep w S [.slice A1 m1 c1] x.Nq):GoTy.rep w S [(.int .i64 x.Pz),(.slice A1 m1 c1)] x:=⟨_,_,rfl,rfl,l1⟩
theorem vJ {x:Nz} (l1:lrep w S [.slice A1 m1 c1] x.Nq):VR w S (.agg #[(.int .i64 x.Pz),(.slice A1 m1 c1)]) x:=⟨_,km l1,rfl⟩
theorem cj {x:Nz} {F1:List Nat} (l1:lown w F1 [.slice A1 m1 c1] x.Nq):GoTy.own w F1 [(.int .i64 x.Pz),(.slice A1 m1 c1)] x:=⟨_,_,[],F1,rfl,by simp,⟨rfl,rfl⟩,l1⟩
theorem jn {x:Nz} (h:GoTy.own w F cs x):∃A1 c1 F1,cs=[(.int .i64 x.Pz),(.slice A1 x.Nq.length c1)]∧F1=F∧lown w F1 [.slice A1 x.Nq.length c1] x.Nq:=by
  obtain⟨p0,q0,X0,Y0,rfl,rfl,g0,k0⟩:=h
  obtain⟨rfl,rfl⟩:=g0
  obtain⟨A1,c1,rfl,l1⟩:=zE k0
  exact⟨A1,c1,_,rfl,by simp,l1⟩
theorem cX {v:Value} {x:Nz} (h:VO w F v x):∃A1 c1 F1,v=(.agg #[(.int .i64 x.Pz),(.slice A1 x.Nq.length c1)])∧F1=F∧lown w F1 [.slice A1 x.Nq.length c1] x.Nq:=by
  obtain⟨cs,h,rfl⟩:=h
  obtain⟨A1,c1,F1,rfl,rfl,l1⟩:=jn h
  exact⟨_,_,_,rfl,rfl,l1⟩
instance:GoTy Nj:=GoTy.via (α:=(Int)×(Int)) (λx=>(x.Px,x.Pk))
theorem dN {x:Nj} (h:GoTy.rep w S cs x):cs=[(.int .i64 x.Px),(.int .i64 x.Pk)]:=by
  obtain⟨p0,q0,rfl,g0,k0⟩:=h
  obtain rfl:=g0
  obtain rfl:=k0
  exact rfl
theorem yy {v:Value} {x:Nj} (h:VR w S v x):v=(.agg #[(.int .i64 x.Px),(.int .i64 x.Pk)]):=by
  obtain⟨cs,h,rfl⟩:=h
  obtain rfl:=dN h
  exact rfl
theorem ko {x:Nj}:GoTy.rep w S [(.int .i64 x.Px),(.int .i64 x.Pk)] x:=⟨_,_,rfl,rfl,rfl⟩
theorem yt {x:Nj}:VR w S (.agg #[(.int .i64 x.Px),(.int .i64 x.Pk)]) x:=⟨_,ko,rfl⟩
theorem jL {x:Nj}:GoTy.own w [] [(.int .i64 x.Px),(.int .i64 x.Pk)] x:=⟨_,_,[],[],rfl,by simp,⟨rfl,rfl⟩,⟨rfl,rfl⟩⟩
theorem lh {x:Nj} (h:GoTy.own w F cs x):F=[]:=by
  obtain⟨p0,q0,X0,Y0,rfl,rfl,g0,k0⟩:=h
  obtain⟨rfl,rfl⟩:=g0
  obtain⟨rfl,rfl⟩:=k0
  rfl
instance:GoTy Nw:=GoTy.via (α:=(Int)×(Nz)×(Nj)) (λx=>(x.Id,x.Nz,x.Nj))
theorem uj {x:Nw} (h:GoTy.rep w S cs x):∃A1 c1,cs=[(.int .i64 x.Id),(.int .i64 x.Nz.Pz),(.slice A1 x.Nz.Nq.length c1),(.int .i64 x.Nj.Px),(.int .i64 x.Nj.Pk)]∧lrep w S [.slice A1 x.Nz.Nq.length c1] x.Nz.Nq:=by
  obtain⟨p0,q0,rfl,g0,k0⟩:=h
  obtain rfl:=g0
  obtain⟨p1,q1,rfl,g1,k1⟩:=k0
  obtain⟨A1,c1,rfl,l1⟩:=gh g1
  obtain rfl:=dN k1
  exact⟨A1,c1,rfl,l1⟩
theorem u9 {v:Value} {x:Nw} (h:VR w S v x):∃A1 c1,v=(.agg #[(.int .i64 x.Id),(.int .i64 x.Nz.Pz),(.slice A1 x.Nz.Nq.length c1),(.int .i64 x.Nj.Px),(.int .i64 x.Nj.Pk)])∧lrep w S [.slice A1 x.Nz.Nq.length c1] x.Nz.Nq:=by
  obtain⟨cs,h,rfl⟩:=h
  obtain⟨A1,c1,rfl,l1⟩:=uj h
  exact⟨A1,c1,rfl,l1⟩
theorem cY {x:Nw} (l1:lrep w S [.slice A1 m1 c1] x.Nz.Nq):GoTy.rep w S [(.int .i64 x.Id),(.int .i64 x.Nz.Pz),(.slice A1 m1 c1),(.int .i64 x.Nj.Px),(.int .i64 x.Nj.Pk)] x:=⟨_,_,rfl,rfl,⟨_,_,rfl,(km l1),ko⟩⟩
theorem uL {x:Nw} (l1:lrep w S [.slice A1 m1 c1] x.Nz.Nq):VR w S (.agg #[(.int .i64 x.Id),(.int .i64 x.Nz.Pz),(.slice A1 m1 c1),(.int .i64 x.Nj.Px),(.int .i64 x.Nj.Pk)]) x:=⟨_,cY l1,rfl⟩
theorem vD {x:Nw} {F1:List Nat} (l1:lown w F1 [.slice A1 m1 c1] x.Nz.Nq):GoTy.own w F1 [(.int .i64 x.Id),(.int .i64 x.Nz.Pz),(.slice A1 m1 c1),(.int .i64 x.Nj.Px),(.int .i64 x.Nj.Pk)] x:=⟨_,_,[],F1,rfl,by simp,⟨rfl,rfl⟩,⟨_,_,F1,[],rfl,by simp,(cj l1),(jL)⟩⟩
theorem bW {x:Nw} (h:GoTy.own w F cs x):∃A1 c1 F1,cs=[(.int .i64 x.Id),(.int .i64 x.Nz.Pz),(.slice A1 x.Nz.Nq.length c1),(.int .i64 x.Nj.Px),(.int .i64 x.Nj.Pk)]∧F1=F∧lown w F1 [.slice A1 x.Nz.Nq.length c1] x.Nz.Nq:=by
  obtain⟨p0,q0,X0,Y0,rfl,rfl,g0,k0⟩:=h
  obtain⟨rfl,rfl⟩:=g0
  obtain⟨p1,q1,X1,Y1,rfl,rfl,g1,k1⟩:=k0
  obtain⟨A1,c1,F1,rfl,rfl,l1⟩:=jn g1
  obtain rfl:=dN (GoTy.own_rep k1)
  obtain rfl:=lh k1
  exact⟨A1,c1,_,rfl,by simp,l1⟩
theorem cm {v:Value} {x:Nw} (h:VO w F v x):∃A1 c1 F1,v=(.agg #[(.int .i64 x.Id),(.int .i64 x.Nz.Pz),(.slice A1 x.Nz.Nq.length c1),(.int .i64 x.Nj.Px),(.int .i64 x.Nj.Pk)])∧F1=F∧lown w F1 [.slice A1 x.Nz.Nq.length c1] x.Nz.Nq:=by
  obtain⟨cs,h,rfl⟩:=h
  obtain⟨A1,c1,F1,rfl,rfl,l1⟩:=bW h
  exact⟨_,_,_,rfl,rfl,l1⟩
instance:GoTy Nd:=GoTy.via (α:=(Nk)×(List Nw)) (λx=>(x.Nk,x.Nv))
theorem lg {x:Nd} (h:GoTy.rep w S cs x):∃A1 c1,∃A2 c2,∃A3 c3,cs=[(.slice A1 x.Nk.Ng.length c1),(.slice A2 x.Nk.Nq.length c2),(.slice A3 x.Nv.length c3)]∧lrep w S [.slice A1 x.Nk.Ng.length c1] x.Nk.Ng∧lrep w S [.slice A2 x.Nk.Nq.length c2] x.Nk.Nq∧lrep w S [.slice A3 x.Nv.length c3] x.Nv:=by
  obtain⟨p0,q0,rfl,g0,k0⟩:=h
  obtain⟨A1,c1,A2,c2,rfl,l1,l2⟩:=d8 g0
  obtain⟨A3,c3,rfl,l3⟩:=aW k0
  exact⟨A1,c1,A2,c2,A3,c3,rfl,l1,l2,l3⟩
theorem ux {v:Value} {x:Nd} (h:VR w S v x):∃A1 c1,∃A2 c2,∃A3 c3,v=(.agg #[(.slice A1 x.Nk.Ng.length c1),(.slice A2 x.Nk.Nq.length c2),(.slice A3 x.Nv.length c3)])∧lrep w S [.slice A1 x.Nk.Ng.length c1] x.Nk.Ng∧lrep w S [.slice A2 x.Nk.Nq.length c2] x.Nk.Nq∧lrep w S [.slice A3 x.Nv.length c3] x.Nv:=by
  obtain⟨cs,h,rfl⟩:=h
  obtain⟨A1,c1,A2,c2,A3,c3,rfl,l1,l2,l3⟩:=lg h
  exact⟨A1,c1,A2,c2,A3,c3,rfl,l1,l2,l3⟩
theorem pg {x:Nd} (l1:lrep w S [.slice A1 m1 c1] x.Nk.Ng) {A2:Option Addr} {m2 c2:Nat} (l2:lrep w S [.slice A2 m2 c2] x.Nk.Nq) {A3:Option Addr} {m3 c3:Nat} (l3:lrep w S [.slice A3 m3 c3] x.Nv):GoTy.rep w S [(.slice A1 m1 c1),(.slice A2 m2 c2),(.slice A3 m3 c3)] x:=⟨_,_,rfl,(gT l1 l2),l3⟩
theorem uf {x:Nd} (l1:lrep w S [.slice A1 m1 c1] x.Nk.Ng) {A2:Option Addr} {m2 c2:Nat} (l2:lrep w S [.slice A2 m2 c2] x.Nk.Nq) {A3:Option Addr} {m3 c3:Nat} (l3:lrep w S [.slice A3 m3 c3] x.Nv):VR w S (.agg #[(.slice A1 m1 c1),(.slice A2 m2 c2),(.slice A3 m3 c3)]) x:=⟨_,pg l1 l2 l3,rfl⟩
theorem vg {x:Nd} {F1:List Nat} (l1:lown w F1 [.slice A1 m1 c1] x.Nk.Ng) {A2:Option Addr} {m2 c2:Nat} {F2:List Nat} (l2:lown w F2 [.slice A2 m2 c2] x.Nk.Nq) {A3:Option Addr} {m3 c3:Nat} {F3:List Nat} (l3:lown w F3 [.slice A3 m3 c3] x.Nv):GoTy.own w (F1++(F2++F3)) [(.slice A1 m1 c1),(.slice A2 m2 c2),(.slice A3 m3 c3)] x:=⟨_,_,(F1++F2),F3,rfl,by simp,(yN l1 l2),l3⟩
theorem iz {x:Nd} (h:GoTy.own w F cs x):∃A1 c1 F1,∃A2 c2 F2,∃A3 c3 F3,cs=[(.slice A1 x.Nk.Ng.length c1),(.slice A2 x.Nk.Nq.length c2),(.slice A3 x.Nv.length c3)]∧F1++(F2++(F3))=F∧lown w F1 [.slice A1 x.Nk.Ng.length c1] x.Nk.Ng∧lown w F2 [.slice A2 x.Nk.Nq.length c2] x.Nk.Nq∧lown w F3 [.slice A3 x.Nv.length c3] x.Nv:=by
  obtain⟨p0,q0,X0,Y0,rfl,rfl,g0,k0⟩:=h
  obtain⟨A1,c1,F1,A2,c2,F2,rfl,rfl,l1,l2⟩:=ck g0
  obtain⟨A3,c3,rfl,l3⟩:=zE k0
  exact⟨A1,c1,_,A2,c2,_,A3,c3,_,rfl,by simp,l1,l2,l3⟩
theorem yn {v:Value} {x:Nd} (h:VO w F v x):∃A1 c1 F1,∃A2 c2 F2,∃A3 c3 F3,v=(.agg #[(.slice A1 x.Nk.Ng.length c1),(.slice A2 x.Nk.Nq.length c2),(.slice A3 x.Nv.length c3)])∧F1++(F2++(F3))=F∧lown w F1 [.slice A1 x.Nk.Ng.length c1] x.Nk.Ng∧lown w F2 [.slice A2 x.Nk.Nq.length c2] x.Nk.Nq∧lown w F3 [.slice A3 x.Nv.length c3] x.Nv:=by
  obtain⟨cs,h,rfl⟩:=h
  obtain⟨A1,c1,F1,A2,c2,F2,A3,c3,F3,rfl,rfl,l1,l2,l3⟩:=iz h
  exact⟨_,_,_,_,_,_,_,_,_,rfl,rfl,l1,l2,l3⟩
theorem jo {A2:Option Addr} {m2 c2:Nat} {A3:Option Addr} {m3 c3:Nat} {x:Nd} (h:GoTy.own w F [(.slice A1 m1 c1),(.slice A2 m2 c2),(.slice A3 m3 c3)] x):∃F1,∃F2,∃F3,F1++(F2++(F3))=F∧lown w F1 [.slice A1 m1 c1] x.Nk.Ng∧lown w F2 [.slice A2 m2 c2] x.Nk.Nq∧lown w F3 [.slice A3 m3 c3] x.Nv:=by
  obtain⟨A'1,c'1,F1,A'2,c'2,F2,A'3,c'3,F3,hcs,hFe,l1,l2,l3⟩:=iz h
  simp only[s4,Value.slice.injEq,and_true]at hcs
  refine⟨F1,F2,F3,hFe,?_,?_,?_⟩
  · simp_all
  · simp_all
  · simp_all
instance:GoTy Format:=GoTy.via (α:=(Int)×(Int)) (λx=>(x.Reach,x.Rate))
instance:GoTy Restoration:=GoTy.via (α:=(Nd)×(List Nw)×(List Int)) (λx=>(x.Nd,x.Home,x.Down))
instance:GoTy L4SearchP:=GoTy.via (α:=(Nk)×(Int)×(List Nz)) (λx=>(x.n,x.to,x.list))
instance:GoTy Nh:=GoTy.via (α:=(Int)×(Nw)) (λx=>(x.Pq,x.Nw))
theorem uY {x:Nh} (h:GoTy.rep w S cs x):∃A1 c1,cs=[(.int .i64 x.Pq),(.int .i64 x.Nw.Id),(.int .i64 x.Nw.Nz.Pz),(.slice A1 x.Nw.Nz.Nq.length c1),(.int .i64 x.Nw.Nj.Px),(.int .i64 x.Nw.Nj.Pk)]∧lrep w S [.slice A1 x.Nw.Nz.Nq.length c1] x.Nw.Nz.Nq:=by
  obtain⟨p0,q0,rfl,g0,k0⟩:=h
  obtain rfl:=g0
  obtain⟨A1,c1,rfl,l1⟩:=uj k0
  exact⟨A1,c1,rfl,l1⟩
theorem co {v:Value} {x:Nh} (h:VR w S v x):∃A1 c1,v=(.agg #[(.int .i64 x.Pq),(.int .i64 x.Nw.Id),(.int .i64 x.Nw.Nz.Pz),(.slice A1 x.Nw.Nz.Nq.length c1),(.int .i64 x.Nw.Nj.Px),(.int .i64 x.Nw.Nj.Pk)])∧lrep w S [.slice A1 x.Nw.Nz.Nq.length c1] x.Nw.Nz.Nq:=by
  obtain⟨cs,h,rfl⟩:=h
  obtain⟨A1,c1,rfl,l1⟩:=uY h
  exact⟨A1,c1,rfl,l1⟩
theorem cQ {x:Nh} (l1:lrep w S [.slice A1 m1 c1] x.Nw.Nz.Nq):GoTy.rep w S [(.int .i64 x.Pq),(.int .i64 x.Nw.Id),(.int .i64 x.Nw.Nz.Pz),(.slice A1 m1 c1),(.int .i64 x.Nw.Nj.Px),(.int .i64 x.Nw.Nj.Pk)] x:=⟨_,_,rfl,rfl,(cY l1)⟩
theorem bY {x:Nh} (l1:lrep w S [.slice A1 m1 c1] x.Nw.Nz.Nq):VR w S (.agg #[(.int .i64 x.Pq),(.int .i64 x.Nw.Id),(.int .i64 x.Nw.Nz.Pz),(.slice A1 m1 c1),(.int .i64 x.Nw.Nj.Px),(.int .i64 x.Nw.Nj.Pk)]) x:=⟨_,cQ l1,rfl⟩
theorem xY {x:Nh} {F1:List Nat} (l1:lown w F1 [.slice A1 m1 c1] x.Nw.Nz.Nq):GoTy.own w F1 [(.int .i64 x.Pq),(.int .i64 x.Nw.Id),(.int .i64 x.Nw.Nz.Pz),(.slice A1 m1 c1),(.int .i64 x.Nw.Nj.Px),(.int .i64 x.Nw.Nj.Pk)] x:=⟨_,_,[],F1,rfl,by simp,⟨rfl,rfl⟩,(vD l1)⟩
theorem bX {x:Nh} (h:GoTy.own w F cs x):∃A1 c1 F1,cs=[(.int .i64 x.Pq),(.int .i64 x.Nw.Id),(.int .i64 x.Nw.Nz.Pz),(.slice A1 x.Nw.Nz.Nq.length c1),(.int .i64 x.Nw.Nj.Px),(.int .i64 x.Nw.Nj.Pk)]∧F1=F∧lown w F1 [.slice A1 x.Nw.Nz.Nq.length c1] x.Nw.Nz.Nq:=by
  obtain⟨p0,q0,X0,Y0,rfl,rfl,g0,k0⟩:=h
  obtain⟨rfl,rfl⟩:=g0
  obtain⟨A1,c1,F1,rfl,rfl,l1⟩:=bW k0
  exact⟨A1,c1,_,rfl,by simp,l1⟩
instance:GoTy Ph:=GoTy.via (α:=(List Nh)×(List Bool)) (λx=>(x.list,x.failed))
instance:GoTy FiberEvent:=GoTy.via (α:=(Bool)×(List Int)) (λx=>(x.Fail,x.Nq))
instance:GoTy Demand:=GoTy.via (α:=(Int)×(Int)×(Int)×(Int)) (λx=>(x.From,x.To,x.Rate,x.Class))
instance:GoTy Served:=GoTy.via (α:=(Nd)×(List Int)×(Int)) (λx=>(x.Nd,x.Ids,x.Blocked))
instance:GoTy ChoiceP:=GoTy.via (α:=(Nz)×(Int)) (λx=>(x.route,x.count))
theorem Lens.via {N α β:Type} [GoTy α] [GoTy β] {f:N→α} {q:Nat} {get:α→β} {put:α→β→α} (h:Lens α β q get put) (g:N→β) (p:N→β→N) (hg:∀e,g e=get (f e)) (hp:∀e y,f (p e y)=put (f e) y):@Lens N β (GoTy.via f) _ q g p:=by
  refine @Lens.mk N β (GoTy.via f) _ q g p ?_
  intro w F cs e ho
  obtain⟨Fa,F1,Fc,c,hF,hc,h1,h2⟩:=h.at_ (e:=f e) ho
  refine⟨Fa,F1,Fc,c,hF,hc,by rw[hg]; exact h1,λw1 F2 y a b d=>?_⟩
  have:=h2 w1 F2 y a b d
  rw[←hp]at this; exact this
theorem eM:Lens Nz (List Int) 1 (λx=>x.Nq) (λx y=>{ x with Nq:=y }):=Lens.via (N:=Nz) (α:=(Int)×(List Int)) (f:=λx=>(x.Pz,x.Nq)) (Lens.snd Lens.self) (λx=>x.Nq) (λx y=>{ x with Nq:=y }) (λ_=>rfl) (λ_ _=>rfl)
theorem zQ:Lens Nw (List Int) 2 (λx=>x.Nz.Nq) (λx y=>{ x with Nz:={ x.Nz with Nq:=y } }):=Lens.via (N:=Nw) (α:=(Int)×(Nz)×(Nj)) (f:=λx=>(x.Id,x.Nz,x.Nj)) (Lens.snd (Lens.fst (eM))) (λx=>x.Nz.Nq) (λx y=>{ x with Nz:={ x.Nz with Nq:=y } }) (λ_=>rfl) (λ_ _=>rfl)
theorem aD:Lens Nh (List Int) 3 (λx=>x.Nw.Nz.Nq) (λx y=>{ x with Nw:={ x.Nw with Nz:={ x.Nw.Nz with Nq:=y } } }):=Lens.via (N:=Nh) (α:=(Int)×(Nw)) (f:=λx=>(x.Pq,x.Nw)) (Lens.snd zQ) (λx=>x.Nw.Nz.Nq) (λx y=>{ x with Nw:={ x.Nw with Nz:={ x.Nw.Nz with Nq:=y } } }) (λ_=>rfl) (λ_ _=>rfl)
namespace TF
theorem gg:AI Tryz.prog 148 6 (.agg #[(.int .i64 0),(.int .i64 0),(.int .i64 0),(.slice none 0 0),(.int .i64 0),(.int .i64 0)]) 64:=by unfold AI; kernel_rfl
theorem jI:AI Tryz.prog 180 4 (.agg #[(.int .i64 0),(.int .i64 0),(.int .i64 0),(.int .i64 0)]) 32:=by unfold AI; kernel_rfl
theorem ai3:AI Tryz.prog 3 1 (.int .i64 0) 8:=by unfold AI; kernel_rfl
theorem ai4:AI Tryz.prog 4 1 (.bool false) 1:=by unfold AI; kernel_rfl
theorem ai49:AI Tryz.prog 49 5 (.agg #[(.int .i64 0),(.int .i64 0),(.slice none 0 0),(.int .i64 0),(.int .i64 0)]) 56:=by unfold AI; kernel_rfl
theorem ai9:AI Tryz.prog 9 1 (.string ByteArray.empty) 16:=by unfold AI; kernel_rfl
theorem qq:CL Tryz.prog 100:=λ_ _=>by kernel_rfl
theorem iw:CL Tryz.prog 101:=λ_ _=>by kernel_rfl
theorem sk:CL Tryz.prog 102:=λ_ _=>by kernel_rfl
theorem qp:CL Tryz.prog 103:=λ_ _=>by kernel_rfl
theorem sj:CL Tryz.prog 104:=λ_ _=>by kernel_rfl
theorem si:CL Tryz.prog 105:=λ_ _=>by kernel_rfl
theorem lc:CL Tryz.prog 106:=λ_ _=>by kernel_rfl
theorem sg:CL Tryz.prog 107:=λ_ _=>by kernel_rfl
theorem sf:CL Tryz.prog 108:=λ_ _=>by kernel_rfl
theorem se:CL Tryz.prog 110:=λ_ _=>by kernel_rfl
theorem sd:CL Tryz.prog 111:=λ_ _=>by kernel_rfl
theorem sc:CL Tryz.prog 112:=λ_ _=>by kernel_rfl
theorem sb:CL Tryz.prog 113:=λ_ _=>by kernel_rfl
theorem sa:CL Tryz.prog 114:=λ_ _=>by kernel_rfl
theorem r9:CL Tryz.prog 115:=λ_ _=>by kernel_rfl
theorem r8:CL Tryz.prog 116:=λ_ _=>by kernel_rfl
theorem r7:CL Tryz.prog 117:=λ_ _=>by kernel_rfl
theorem r6:CL Tryz.prog 118:=λ_ _=>by kernel_rfl
theorem qo:CL Tryz.prog 119:=λ_ _=>by kernel_rfl
theorem r5:CL Tryz.prog 120:=λ_ _=>by kernel_rfl
theorem r4:CL Tryz.prog 130:=λ_ _=>by kernel_rfl
theorem rZ:CL Tryz.prog 131:=λ_ _=>by kernel_rfl
theorem cl14:CL Tryz.prog 14:=λ_ _=>by kernel_rfl
theorem nS:CL Tryz.prog 140:=λ_ _=>by kernel_rfl
theorem ga:CL Tryz.prog 153:=λ_ _=>by kernel_rfl
theorem qn:CL Tryz.prog 154:=λ_ _=>by kernel_rfl
theorem qm:CL Tryz.prog 156:=λ_ _=>by kernel_rfl
theorem rY:CL Tryz.prog 157:=λ_ _=>by kernel_rfl
theorem rX:CL Tryz.prog 158:=λ_ _=>by kernel_rfl
theorem rW:CL Tryz.prog 159:=λ_ _=>by kernel_rfl
theorem ji:CL Tryz.prog 160:=λ_ _=>by kernel_rfl
theorem rU:CL Tryz.prog 161:=λ_ _=>by kernel_rfl
theorem rS:CL Tryz.prog 162:=λ_ _=>by kernel_rfl
theorem rR:CL Tryz.prog 164:=λ_ _=>by kernel_rfl
theorem rQ:CL Tryz.prog 165:=λ_ _=>by kernel_rfl
theorem rP:CL Tryz.prog 166:=λ_ _=>by kernel_rfl
theorem ql:CL Tryz.prog 167:=λ_ _=>by kernel_rfl
theorem rO:CL Tryz.prog 174:=λ_ _=>by kernel_rfl
theorem qk:CL Tryz.prog 178:=λ_ _=>by kernel_rfl
theorem cl18:CL Tryz.prog 18:=λ_ _=>by kernel_rfl
theorem jH:CL Tryz.prog 182:=λ_ _=>by kernel_rfl
theorem nR:CL Tryz.prog 184:=λ_ _=>by kernel_rfl
theorem qj:CL Tryz.prog 186:=λ_ _=>by kernel_rfl
theorem mV:CL Tryz.prog 187:=λ_ _=>by kernel_rfl
theorem mU:CL Tryz.prog 188:=λ_ _=>by kernel_rfl
theorem rN:CL Tryz.prog 190:=λ_ _=>by kernel_rfl
theorem qi:CL Tryz.prog 191:=λ_ _=>by kernel_rfl
theorem k9:CL Tryz.prog 192:=λ_ _=>by kernel_rfl
theorem rM:CL Tryz.prog 193:=λ_ _=>by kernel_rfl
theorem rL:CL Tryz.prog 194:=λ_ _=>by kernel_rfl
theorem rK:CL Tryz.prog 195:=λ_ _=>by kernel_rfl
theorem rJ:CL Tryz.prog 196:=λ_ _=>by kernel_rfl
theorem qh:CL Tryz.prog 197:=λ_ _=>by kernel_rfl
theorem rI:CL Tryz.prog 198:=λ_ _=>by kernel_rfl
theorem rH:CL Tryz.prog 199:=λ_ _=>by kernel_rfl
theorem rG:CL Tryz.prog 200:=λ_ _=>by kernel_rfl
theorem qg:CL Tryz.prog 201:=λ_ _=>by kernel_rfl
theorem rE:CL Tryz.prog 202:=λ_ _=>by kernel_rfl
theorem rD:CL Tryz.prog 203:=λ_ _=>by kernel_rfl
theorem rC:CL Tryz.prog 204:=λ_ _=>by kernel_rfl
theorem rB:CL Tryz.prog 205:=λ_ _=>by kernel_rfl
theorem rA:CL Tryz.prog 206:=λ_ _=>by kernel_rfl
theorem rz:CL Tryz.prog 207:=λ_ _=>by kernel_rfl
theorem qf:CL Tryz.prog 208:=λ_ _=>by kernel_rfl
theorem ry:CL Tryz.prog 209:=λ_ _=>by kernel_rfl
theorem rx:CL Tryz.prog 210:=λ_ _=>by kernel_rfl
theorem rv:CL Tryz.prog 211:=λ_ _=>by kernel_rfl
theorem ru:CL Tryz.prog 212:=λ_ _=>by kernel_rfl
theorem rr:CL Tryz.prog 219:=λ_ _=>by kernel_rfl
theorem qe:CL Tryz.prog 225:=λ_ _=>by kernel_rfl
theorem rq:CL Tryz.prog 238:=λ_ _=>by kernel_rfl
theorem rp:CL Tryz.prog 241:=λ_ _=>by kernel_rfl
theorem rn:CL Tryz.prog 242:=λ_ _=>by kernel_rfl
theorem qd:CL Tryz.prog 247:=λ_ _=>by kernel_rfl
theorem rm:CL Tryz.prog 249:=λ_ _=>by kernel_rfl
theorem rl:CL Tryz.prog 252:=λ_ _=>by kernel_rfl
theorem rk:CL Tryz.prog 253:=λ_ _=>by kernel_rfl
theorem rj:CL Tryz.prog 254:=λ_ _=>by kernel_rfl
theorem rh:CL Tryz.prog 255:=λ_ _=>by kernel_rfl
theorem rf:CL Tryz.prog 256:=λ_ _=>by kernel_rfl
theorem re:CL Tryz.prog 257:=λ_ _=>by kernel_rfl
theorem rc:CL Tryz.prog 258:=λ_ _=>by kernel_rfl
theorem rb:CL Tryz.prog 259:=λ_ _=>by kernel_rfl
theorem ra:CL Tryz.prog 260:=λ_ _=>by kernel_rfl
theorem q9:CL Tryz.prog 261:=λ_ _=>by kernel_rfl
theorem q8:CL Tryz.prog 262:=λ_ _=>by kernel_rfl
theorem q7:CL Tryz.prog 263:=λ_ _=>by kernel_rfl
theorem q6:CL Tryz.prog 264:=λ_ _=>by kernel_rfl
theorem q5:CL Tryz.prog 265:=λ_ _=>by kernel_rfl
theorem q4:CL Tryz.prog 266:=λ_ _=>by kernel_rfl
theorem q3:CL Tryz.prog 267:=λ_ _=>by kernel_rfl
theorem qZ:CL Tryz.prog 268:=λ_ _=>by kernel_rfl
theorem qY:CL Tryz.prog 269:=λ_ _=>by kernel_rfl
theorem qX:CL Tryz.prog 270:=λ_ _=>by kernel_rfl
theorem qW:CL Tryz.prog 282:=λ_ _=>by kernel_rfl
theorem cl29:CL Tryz.prog 29:=λ_ _=>by kernel_rfl
theorem qV:CL Tryz.prog 290:=λ_ _=>by kernel_rfl
theorem cl30:CL Tryz.prog 30:=λ_ _=>by kernel_rfl
theorem qU:CL Tryz.prog 302:=λ_ _=>by kernel_rfl
theorem qT:CL Tryz.prog 304:=λ_ _=>by kernel_rfl
theorem qc:CL Tryz.prog 306:=λ_ _=>by kernel_rfl
theorem qS:CL Tryz.prog 307:=λ_ _=>by kernel_rfl
theorem qR:CL Tryz.prog 308:=λ_ _=>by kernel_rfl
theorem qQ:CL Tryz.prog 309:=λ_ _=>by kernel_rfl
theorem cl31:CL Tryz.prog 31:=λ_ _=>by kernel_rfl
theorem qP:CL Tryz.prog 310:=λ_ _=>by kernel_rfl
theorem qO:CL Tryz.prog 311:=λ_ _=>by kernel_rfl
theorem cl32:CL Tryz.prog 32:=λ_ _=>by kernel_rfl
theorem qN:CL Tryz.prog 338:=λ_ _=>by kernel_rfl
theorem cl34:CL Tryz.prog 34:=λ_ _=>by kernel_rfl
theorem cl35:CL Tryz.prog 35:=λ_ _=>by kernel_rfl
theorem cl36:CL Tryz.prog 36:=λ_ _=>by kernel_rfl
theorem cl37:CL Tryz.prog 37:=λ_ _=>by kernel_rfl
theorem cl38:CL Tryz.prog 38:=λ_ _=>by kernel_rfl
theorem cl39:CL Tryz.prog 39:=λ_ _=>by kernel_rfl
theorem cl40:CL Tryz.prog 40:=λ_ _=>by kernel_rfl
theorem cl64:CL Tryz.prog 64:=λ_ _=>by kernel_rfl
theorem cl65:CL Tryz.prog 65:=λ_ _=>by kernel_rfl
theorem cl66:CL Tryz.prog 66:=λ_ _=>by kernel_rfl
theorem cl69:CL Tryz.prog 69:=λ_ _=>by kernel_rfl
theorem cl72:CL Tryz.prog 72:=λ_ _=>by kernel_rfl
theorem cl74:CL Tryz.prog 74:=λ_ _=>by kernel_rfl
theorem cl75:CL Tryz.prog 75:=λ_ _=>by kernel_rfl
theorem cl76:CL Tryz.prog 76:=λ_ _=>by kernel_rfl
theorem cl77:CL Tryz.prog 77:=λ_ _=>by kernel_rfl
theorem cl90:CL Tryz.prog 90:=λ_ _=>by kernel_rfl
theorem cl92:CL Tryz.prog 92:=λ_ _=>by kernel_rfl
theorem cl96:CL Tryz.prog 96:=λ_ _=>by kernel_rfl
theorem i8:LA Tryz.prog 148 6:=λ_ _=>by kernel_rfl
theorem da:LA Tryz.prog 180 4:=λ_ _=>by kernel_rfl
theorem pV:LA Tryz.prog 218 2:=λ_ _=>by kernel_rfl
theorem qM:LA Tryz.prog 219 2:=λ_ _=>by kernel_rfl
theorem pU:LA Tryz.prog 221 5:=λ_ _=>by kernel_rfl
theorem qL:LA Tryz.prog 261 4:=λ_ _=>by kernel_rfl
theorem la27:LA Tryz.prog 27 2:=λ_ _=>by kernel_rfl
theorem la30:LA Tryz.prog 30 3:=λ_ _=>by kernel_rfl
theorem la45:LA Tryz.prog 45 2:=λ_ _=>by kernel_rfl
theorem la47:LA Tryz.prog 47 2:=λ_ _=>by kernel_rfl
theorem la49:LA Tryz.prog 49 5:=λ_ _=>by kernel_rfl
theorem la77:LA Tryz.prog 77 2:=λ_ _=>by kernel_rfl
theorem la80:LA Tryz.prog 80 3:=λ_ _=>by kernel_rfl
theorem pR:LS Tryz.prog 143:=λ_ _=>by kernel_rfl
theorem ls24:LS Tryz.prog 24:=λ_ _=>by kernel_rfl
theorem ls25:LS Tryz.prog 25:=λ_ _=>by kernel_rfl
theorem ls28:LS Tryz.prog 28:=λ_ _=>by kernel_rfl
theorem ls3:LS Tryz.prog 3:=λ_ _=>by kernel_rfl
theorem ls35:LS Tryz.prog 35:=λ_ _=>by kernel_rfl
theorem ls4:LS Tryz.prog 4:=λ_ _=>by kernel_rfl
theorem ls70:LS Tryz.prog 70:=λ_ _=>by kernel_rfl
theorem ls75:LS Tryz.prog 75:=λ_ _=>by kernel_rfl
theorem ls78:LS Tryz.prog 78:=λ_ _=>by kernel_rfl
theorem ls9:LS Tryz.prog 9:=λ_ _=>by kernel_rfl
theorem pt3:PT Tryz.prog 3:=λ_=>⟨by kernel_rfl,by kernel_rfl⟩
theorem lY:EQT Tryz.prog 180 4 3:=⟨by kernel_rfl,by kernel_rfl,by kernel_rfl,by kernel_rfl,by kernel_rfl,pt3,⟨_,Tryz.underlying3⟩⟩
theorem lX:EQT Tryz.prog 47 2 3:=⟨by kernel_rfl,by kernel_rfl,by kernel_rfl,by kernel_rfl,by kernel_rfl,pt3,⟨_,Tryz.underlying3⟩⟩
theorem bE:SZ Tryz.prog 148 6:=λ_=>by kernel_rfl
theorem bD:SZ Tryz.prog 180 4:=λ_=>by kernel_rfl
theorem pm:SZ Tryz.prog 221 5:=λ_=>by kernel_rfl
theorem sz24:SZ Tryz.prog 24 1:=λ_=>by kernel_rfl
theorem sz25:SZ Tryz.prog 25 1:=λ_=>by kernel_rfl
theorem qz:SZ Tryz.prog 261 4:=λ_=>by kernel_rfl
theorem sz27:SZ Tryz.prog 27 2:=λ_=>by kernel_rfl
theorem sz28:SZ Tryz.prog 28 1:=λ_=>by kernel_rfl
theorem sz3:SZ Tryz.prog 3 1:=λ_=>by kernel_rfl
theorem sz30:SZ Tryz.prog 30 3:=λ_=>by kernel_rfl
theorem sz35:SZ Tryz.prog 35 1:=λ_=>by kernel_rfl
theorem sz4:SZ Tryz.prog 4 1:=λ_=>by kernel_rfl
theorem sz45:SZ Tryz.prog 45 2:=λ_=>by kernel_rfl
theorem sz47:SZ Tryz.prog 47 2:=λ_=>by kernel_rfl
theorem sz49:SZ Tryz.prog 49 5:=λ_=>by kernel_rfl
theorem sz70:SZ Tryz.prog 70 1:=λ_=>by kernel_rfl
theorem sz9:SZ Tryz.prog 9 1:=λ_=>by kernel_rfl
theorem pj:ZV Tryz.prog 148 (.agg #[(.int .i64 0),(.int .i64 0),(.int .i64 0),(.slice none 0 0),(.int .i64 0),(.int .i64 0)]):=λ_=>by kernel_rfl
theorem na:ZV Tryz.prog 180 (.agg #[(.int .i64 0),(.int .i64 0),(.int .i64 0),(.int .i64 0)]):=λ_=>by kernel_rfl
theorem zv27:ZV Tryz.prog 27 (.agg #[(.slice none 0 0),(.slice none 0 0)]):=λ_=>by kernel_rfl
theorem zv30:ZV Tryz.prog 30 (.agg #[(.slice none 0 0),(.slice none 0 0),(.slice none 0 0)]):=λ_=>by kernel_rfl
theorem zv4:ZV Tryz.prog 4 (.bool false):=λ_=>by kernel_rfl
theorem zv45:ZV Tryz.prog 45 (.agg #[(.int .i64 0),(.slice none 0 0)]):=λ_=>by kernel_rfl
theorem zv47:ZV Tryz.prog 47 (.agg #[(.int .i64 0),(.int .i64 0)]):=λ_=>by kernel_rfl
theorem zv49:ZV Tryz.prog 49 (.agg #[(.int .i64 0),(.int .i64 0),(.slice none 0 0),(.int .i64 0),(.int .i64 0)]):=λ_=>by kernel_rfl
end TF
def tab:Tab:=⟨[22,24,25,28,31,32,35,70,75,78,87,213,228,230,246,318],[4],[9],[(27,0,0),(27,1,1),(30,0,0),(30,1,2),(37,0,0),(37,1,3),(37,2,4),(45,0,0),(45,1,1),(47,0,0),(47,1,1),(49,0,0),(49,1,1),(49,2,3),(51,0,0),(51,1,1),(51,2,2),(51,3,3),(60,0,0),(60,1,3),(60,2,4),(77,0,0),(77,1,1),(80,0,0),(80,1,2),(94,0,0),(94,1,1),(109,0,0),(109,1,1),(109,2,2),(145,0,0),(145,1,1),(148,0,0),(148,1,1),(180,0,0),(180,1,1),(180,2,2),(180,3,3),(182,0,0),(182,1,1),(198,0,0),(198,1,2),(218,0,0),(218,1,1),(219,0,0),(219,1,1),(221,0,0),(221,1,1),(221,2,3),(261,0,0),(261,1,1),(261,2,2),(261,3,3),(322,0,0),(322,1,2),(322,2,3)]⟩
theorem ip:∀{l:List Nat} {x:Nat},inl l x=true→x∈l
  | y::r,x,h=>by
    unfold inl at h
    cases hb:Nat.beq y x <;> rw[hb]at h
    · exact tH _ (ip h)
    · rw[wJ hb]; exact tW
theorem ke:∀{l:List (TypeId×Nat×Nat)} {t f o:Nat},foff l t f=some o→(t,f,o)∈l
  | (t',f',o')::r,t,f,o,h=>by
    unfold foff at h
    cases hb:(Nat.beq t' t&&Nat.beq f' f) <;> rw[hb]at h
    · exact tH _ (ke h)
    · simp only[sH]at hb
      injection h with h
      rw[wJ hb.1,wJ hb.2,h]; exact tW
theorem tabOk:TabOk Tryz.prog tab where
  sl:=λT h=>by
    have h:=ip h
    simp only[tab,sZ,wz,or_false]at h
    rcases h with rfl | rfl | rfl | rfl | rfl | rfl | rfl | rfl | rfl | rfl | rfl | rfl | rfl | rfl | rfl | rfl
    · exact⟨_,Tryz.underlying22⟩
    · exact⟨_,Tryz.underlying24⟩
    · exact⟨_,Tryz.underlying25⟩
    · exact⟨_,Tryz.underlying28⟩
    · exact⟨_,Tryz.underlying31⟩
    · exact⟨_,Tryz.underlying32⟩
    · exact⟨_,Tryz.underlying35⟩
    · exact⟨_,Tryz.underlying70⟩
    · exact⟨_,Tryz.underlying75⟩
    · exact⟨_,Tryz.underlying78⟩
    · exact⟨_,Tryz.underlying87⟩
    · exact⟨_,Tryz.underlying213⟩
    · exact⟨_,Tryz.underlying228⟩
    · exact⟨_,Tryz.underlying230⟩
    · exact⟨_,Tryz.underlying246⟩
    · exact⟨_,Tryz.underlying318⟩
  bo:=λT h=>by
    have h:=ip h
    simp only[tab,sZ,wz,or_false]at h
    rcases h with rfl
    · exact Tryz.underlying4
  st:=λT h=>by
    have h:=ip h
    simp only[tab,sZ,wz,or_false]at h
    rcases h with rfl
    · exact Tryz.underlying9
  fa:=λT f o h=>by
    have h:=ke h
    simp only[tab,sZ,wz,or_false,tD]at h
    rcases h with ⟨rfl,rfl,rfl⟩ | ⟨rfl,rfl,rfl⟩ | ⟨rfl,rfl,rfl⟩ | ⟨rfl,rfl,rfl⟩ | ⟨rfl,rfl,rfl⟩ | ⟨rfl,rfl,rfl⟩ | ⟨rfl,rfl,rfl⟩ | ⟨rfl,rfl,rfl⟩ | ⟨rfl,rfl,rfl⟩ | ⟨rfl,rfl,rfl⟩ | ⟨rfl,rfl,rfl⟩ | ⟨rfl,rfl,rfl⟩ | ⟨rfl,rfl,rfl⟩ | ⟨rfl,rfl,rfl⟩ | ⟨rfl,rfl,rfl⟩ | ⟨rfl,rfl,rfl⟩ | ⟨rfl,rfl,rfl⟩ | ⟨rfl,rfl,rfl⟩ | ⟨rfl,rfl,rfl⟩ | ⟨rfl,rfl,rfl⟩ | ⟨rfl,rfl,rfl⟩ | ⟨rfl,rfl,rfl⟩ | ⟨rfl,rfl,rfl⟩ | ⟨rfl,rfl,rfl⟩ | ⟨rfl,rfl,rfl⟩ | ⟨rfl,rfl,rfl⟩ | ⟨rfl,rfl,rfl⟩ | ⟨rfl,rfl,rfl⟩ | ⟨rfl,rfl,rfl⟩ | ⟨rfl,rfl,rfl⟩ | ⟨rfl,rfl,rfl⟩ | ⟨rfl,rfl,rfl⟩ | ⟨rfl,rfl,rfl⟩ | ⟨rfl,rfl,rfl⟩ | ⟨rfl,rfl,rfl⟩ | ⟨rfl,rfl,rfl⟩ | ⟨rfl,rfl,rfl⟩ | ⟨rfl,rfl,rfl⟩ | ⟨rfl,rfl,rfl⟩ | ⟨rfl,rfl,rfl⟩ | ⟨rfl,rfl,rfl⟩ | ⟨rfl,rfl,rfl⟩ | ⟨rfl,rfl,rfl⟩ | ⟨rfl,rfl,rfl⟩ | ⟨rfl,rfl,rfl⟩ | ⟨rfl,rfl,rfl⟩ | ⟨rfl,rfl,rfl⟩ | ⟨rfl,rfl,rfl⟩ | ⟨rfl,rfl,rfl⟩ | ⟨rfl,rfl,rfl⟩ | ⟨rfl,rfl,rfl⟩ | ⟨rfl,rfl,rfl⟩ | ⟨rfl,rfl,rfl⟩ | ⟨rfl,rfl,rfl⟩ | ⟨rfl,rfl,rfl⟩ | ⟨rfl,rfl,rfl⟩
    · exact λ_ _=>by kernel_rfl
    · exact λ_ _=>by kernel_rfl
    · exact λ_ _=>by kernel_rfl
    · exact λ_ _=>by kernel_rfl
    · exact λ_ _=>by kernel_rfl
    · exact λ_ _=>by kernel_rfl
    · exact λ_ _=>by kernel_rfl
    · exact λ_ _=>by kernel_rfl
    · exact λ_ _=>by kernel_rfl
    · exact λ_ _=>by kernel_rfl
    · exact λ_ _=>by kernel_rfl
    · exact λ_ _=>by kernel_rfl
    · exact λ_ _=>by kernel_rfl
    · exact λ_ _=>by kernel_rfl
    · exact λ_ _=>by kernel_rfl
    · exact λ_ _=>by kernel_rfl
    · exact λ_ _=>by kernel_rfl
    · exact λ_ _=>by kernel_rfl
    · exact λ_ _=>by kernel_rfl
    · exact λ_ _=>by kernel_rfl
    · exact λ_ _=>by kernel_rfl
    · exact λ_ _=>by kernel_rfl
    · exact λ_ _=>by kernel_rfl
    · exact λ_ _=>by kernel_rfl
    · exact λ_ _=>by kernel_rfl
    · exact λ_ _=>by kernel_rfl
    · exact λ_ _=>by kernel_rfl
    · exact λ_ _=>by kernel_rfl
    · exact λ_ _=>by kernel_rfl
    · exact λ_ _=>by kernel_rfl
    · exact λ_ _=>by kernel_rfl
    · exact λ_ _=>by kernel_rfl
    · exact λ_ _=>by kernel_rfl
    · exact λ_ _=>by kernel_rfl
    · exact λ_ _=>by kernel_rfl
    · exact λ_ _=>by kernel_rfl
    · exact λ_ _=>by kernel_rfl
    · exact λ_ _=>by kernel_rfl
    · exact λ_ _=>by kernel_rfl
    · exact λ_ _=>by kernel_rfl
    · exact λ_ _=>by kernel_rfl
    · exact λ_ _=>by kernel_rfl
    · exact λ_ _=>by kernel_rfl
    · exact λ_ _=>by kernel_rfl
    · exact λ_ _=>by kernel_rfl
    · exact λ_ _=>by kernel_rfl
    · exact λ_ _=>by kernel_rfl
    · exact λ_ _=>by kernel_rfl
    · exact λ_ _=>by kernel_rfl
    · exact λ_ _=>by kernel_rfl
    · exact λ_ _=>by kernel_rfl
    · exact λ_ _=>by kernel_rfl
    · exact λ_ _=>by kernel_rfl
    · exact λ_ _=>by kernel_rfl
    · exact λ_ _=>by kernel_rfl
    · exact λ_ _=>by kernel_rfl
section
variable {Q:Exit→Act→World→Prop} {w:World} {n:Nat}
theorem pr {ops:List Oper} (k:Nat) {L:List (Nat×Value)} {l:List Oper} {L':List (Nat×Value)} {l':List Oper} {a:Act} (hf:Fr a n L) (hd:kW n l=true) (h:pRun tab ops k L l=(L',l')) (hk:∀a',Fr a' n L'→wpList Tryz.prog ops.toArray Q l' a' w):wpList Tryz.prog ops.toArray Q l a w:=oM tabOk k L l hf hd h hk
variable {S0:World→Prop} {B:List Nat} {bs:List Bool} {a:Act} {fuel d:Nat} {L:List (Nat×Value)} {Mid:Act→World→Prop} {op:Op} {v:Value} {l:List Oper} {t:TypeId} {ps:String} {af:Array Edge}
theorem tp (i:Nat) (hi:l[i]?=some ⟨some d,op,t,ps,af,none⟩) (hdn:Nat.ble (d + 1) n=true) (hf:Fr a n L) (hc:takeB l bs i [] B=true) (hS:nb B bs.toArray=true→S0 w) (hv:pOp tab L op=some v) (h:∀a',Fr a' n ((d,v)::L)→DL Tryz.prog l Mid S0 B fuel (bs.set i true) a' w):DL Tryz.prog l Mid S0 B (fuel + 1) bs a w:=tP i hi rfl rfl hdn hf hc hS (λ_=>iR tabOk hf hv) h
theorem tpg (i:Nat) {j e:Nat} {b:Bool} (hi:l[i]?=some ⟨some d,op,t,ps,af,some (j,b)⟩) (hj:(l[j]?).bind (·.dst)=some e) (hb:lk L e=some (.bool b)) (hdn:Nat.ble (d + 1) n=true) (hf:Fr a n L) (hc:takeB l bs i [] B=true) (hS:nb B bs.toArray=true→S0 w) (hv:pOp tab L op=some v) (h:∀a',Fr a' n ((d,v)::L)→DL Tryz.prog l Mid S0 B fuel (bs.set i true) a' w):DL Tryz.prog l Mid S0 B (fuel + 1) bs a w:=tPg i hi rfl rfl hj hb hdn hf hc hS (λ_=>iR tabOk hf hv) h
end
end AT
