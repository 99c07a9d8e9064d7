/- What the reference's restoration of all lights does, plainly. -/
import Derived.Test.YtlemonjnolciiaaGreatQImA
import Derived.Test.YtlemonjnolciiaaGreatQRv
set_option linter.unusedSimpArgs false
set_option linter.unusedVariables false
namespace AT
def plS (o:Option Nh):Nh×Bool:=match o with | some y=>(y,true) | none=>(⟨0,⟨0,[]⟩,⟨0,0⟩⟩,false)
theorem RestF.B {r:Nj} (h:RestF r) (hN:NetB r.Nz.Nq):RestB r:=by
 have h1:=bF h.plan;have h2:=bF h.home;have h3:=gg h.down;have h4:=hN.2;have l1:=h1.short;have l2:=h2.short;simp only at l2;exact⟨⟨hN,by omega,λx hx=>by have:=(h1.light x hx).short; omega⟩,⟨by omega,λx hx=>by have:=(h2.light x hx).short; omega⟩,by omega⟩
theorem ol {L:List Nh} (hb:∀x∈L,ya x.Nd=true) {x:Nh} (hx:ya x.Nd=true) (hn:hasL L x.Id=false):(band (along L x.Nv.Nw) (bits x.Nd)==0)=ea L x:=by
 rw[sC,eb hb x.Nv.Nw (jh hx)];rw[Ej];unfold ea;rw[D9,GZ,Eo];refine forall_congr' λy=>forall_congr' λhy=>?_;have hne:y.Id≠x.Id:=λe=>by
   rw[DX]at hn
   exact hn (DT.2 ⟨y,hy,by rw[beq_iff_eq]; exact e⟩)
 rw[gp];have:(y.Id != x.Id)=true:=by rw[bne_iff_ne]; exact hne
 rw[this,EV,D9,FK]
variable {fu:Nat}
theorem nW (hfu:2097200≤fu) (N:Nq) (L H:List Nh) (D:List Int) (hN:NetB N) (hQ:PlQ L) (hl:L.length≤100) (hD:D.length≤100) (x:Nh) (hx:ya x.Nd=true) (l:List Nv) (hL:∀a∈l,a.Nw.length≤7) (hll:l.length≤1000):∀(fk i:Nat),i≤l.length→l.length - i<fk →
    vM fu ⟨⟨N,L⟩,H,D⟩ x (l,true) fk i=some (match (l.drop i).findSome? (tryR L D x) with | some y=>.ret (y,true) | none=>.next (l.length:Int)):=by
 have hPB:=hQ.B hN hl;have hc:=hx;unfold ya at hc;simp only[DC,decide_eq_true_eq]at hc;intro fk;induction fk with
 | zero=>intro i _ h; omega
 | succ fk ih =>
   intro i hi hk
   rw[vM]
   have hih:i<l.length→vM fu ⟨⟨N,L⟩,H,D⟩ x (l,true) fk ((i + 1:Nat):Int)=some (match (l.drop (i + 1)).findSome? (tryR L D x) with | some y=>.ret (y,true) | none=>.next (l.length:Int)):=λh=>ih (i + 1) h (by omega)
   clear ih
   by_cases h:i<l.length
   · have hih:=hih h
     have ha:=hL _ (D6 h)
     have ei:idx l (i:Int)=some l[i]:=vF h
     have hal:=dN (fu:=fu) (by omega) (⟨N,L⟩:Nz) l[i] hPB.2.1 (λy hy=>(hQ y hy).1) hPB.2.2 (by omega)
     have hwi:=vr h (show (l.length:Int)≤9223372036854775807 by omega)
     rw[←DG h,List.findSome?_cons]
     rw[if_pos (by simpa using h),Dw,if_pos rfl]
     dsimp only
     rw[ei]
     simp only[Dw,gI (fu:=fu) (by omega) l[i] D (show l[i].Nw.length≤2097152 by omega) (show D.length≤2097152 by omega),hal,j5 (fu:=fu) (by omega) _ x.Nd.Px hc.2.1 (show x.Nd.Px≤24 by omega),hwi]
     clear hwi
     unfold tryR
     cases meets l[i].Nw D
     · obtain⟨fs,hfs⟩:∃fs,fs=fits (along L l[i].Nw) x.Nd.Px:=⟨_,rfl⟩
       rw[if_neg DV,if_neg DV,←hfs]
       cases fs with
       | cons f rest =>
         have e0:idx (f::rest) 0=some f:=vF (l:=f::rest) (i:=0) (by simp)
         rw[if_pos (by simp),e0]
         simp only[Dw,pe fu l[i] (show l[i].Nw.length≤2097152 by omega)]
         rfl
       | nil =>
         rw[if_neg (by simp)]
         exact hih
     · rw[if_pos rfl,if_pos rfl]
       exact hih
   · obtain rfl:i=l.length:=by omega
     rw[if_neg (by simp),Ea]
     rfl
theorem rk (hfu:2097200≤fu) (N:Nq) (L H:List Nh) (D:List Int) (hN:NetB N) (hR:RestF ⟨⟨N,L⟩,H,D⟩) {x:Nh} (hx:x∈H) (hn:hasL L x.Id=false):az fu ⟨⟨N,L⟩,H,D⟩ x=some (plS (plc N L D x)):=by
 have hH:xv ⟨N,H⟩=true:=hR.home;have hLp:xv ⟨N,L⟩=true:=hR.plan;have hQ:PlQ L:=AW hLp;have hl:L.length≤12:=(bF hLp).short;have hF:=bF hH;have hDl:D.length≤N.Nw.length:=gg hR.down;have hNf:=(netF hF.net).fib;have hD:D.length≤100:=by simp only at hNf; omega
 have hPB:=hQ.B hN (show L.length≤100 by omega);have hxF:LightF N x:=hF.light x hx;have hxr:=hxF.short;have hnf:=netF hF.net;obtain⟨o,ho⟩:=hxF.route;have hfa:=el hnf ho;have hal:=dN (fu:=fu) (by omega) (⟨N,L⟩:Nz) x.Nv hPB.2.1 (λy hy=>(hQ y hy).1) hPB.2.2 (by omega);have hB:=sW hnf hfa.2.2.2.2.2.1 hfa.2.2.2.2.2.2 (endR N x.Nv);have hend:bw fu N x.Nv=some (endR N x.Nv):=kS (by omega) N x.Nv hN (by omega) (by rw[ho]; rfl);have hfr:=ol (λy hy=>(hQ y hy).1) hxF.blk hn;unfold az;have hu:xQ fu x.Nv D=some (meets x.Nv.Nw D):=gI (by omega) x.Nv D (by omega) (by omega);show ((((xQ fu x.Nv D).bind λy=>if (!y)=true then (yo fu ⟨N,L⟩ x.Nv).bind λy2=>(xP fu x.Nd).bind λy3=>some (band y2 y3==0) else some false).bind _):Option (Nh×Bool))=_
 rw[hu,hal,d6 hxF.blk,Dw];have hone:(if (!meets x.Nv.Nw D)=true then (some (along L x.Nv.Nw)).bind λy2=>(some (bits x.Nd)).bind λy3=>some (band y2 y3==0) else some false)=some (!meets x.Nv.Nw D&&ea L x):=by
   rw[Dw,Dw,hfr]
   cases meets x.Nv.Nw D <;> rfl
 rw[show (⟨N,L⟩:Nz).Nk=L from rfl,hone,Dw];unfold plc;cases hc:(!meets x.Nv.Nw D&&ea L x)
 rw[if_neg DV,if_neg DV];show (((bw fu N x.Nv).bind _):Option (Nh×Bool))=_;rw[hend,Dw];show (((zY fu N x.Nv.Pq (endR N x.Nv)).bind _):Option (Nh×Bool))=_;rw[ic hfu N _ _ hN,Dw];by_cases hp:dB N x.Nv.Pq (endR N x.Nv)=true∧(rts N x.Nv.Pq (endR N x.Nv)).length≤200;rw[if_pos hp,if_pos hp];have hz:=nW hfu N L H D hN hQ (by omega) hD x hxF.blk (rts N x.Nv.Pq (endR N x.Nv)) (λa ha=>(hB.1 a ha).short) (by omega) fu 0 (by omega) (by omega);rw[show ((0:Nat):Int)=0 from rfl,D4]at hz;rw[hz,Dw];cases (rts N x.Nv.Pq (endR N x.Nv)).findSome? (tryR L D x) <;> rfl
 rw[if_neg hp,if_neg hp];obtain⟨fk,rfl⟩:∃fk,fu=fk + 1:=⟨fu - 1,by omega⟩;rfl;rw[if_pos rfl,if_pos rfl,eN fu x (by omega)];rfl
theorem nS (hfu:2097200≤fu) (N:Nq) (L H:List Nh) (D:List Int) (hN:NetB N) (hR:RestF ⟨⟨N,L⟩,H,D⟩) {i:Nat} (hi:i<H.length) (hn:hasL L (gd H i l0).Id=false):xR fu ⟨⟨N,L⟩,H,D⟩ (i:Int)=some (match plc N L D (gd H i l0) with | some y=>(⟨⟨N,putL L y⟩,H,D⟩,true) | none=>(⟨⟨N,L⟩,H,D⟩,false)):=by
 have hRB:RestB ⟨⟨N,L⟩,H,D⟩:=hR.B hN;unfold xR;have hown:=d7 (fu:=fu) (by omega) _ hRB;show ((idx H (i:Int)).bind _)=_;rw[x5 l0 hi,Dw,rk hfu N L H D hN hR (bT l0 hi) hn,Dw,hown,Dw];cases hp:plc N L D (gd H i l0) with
 | none=>rfl
 | some y =>
   have hy:y.Nv.Nw.length≤2097152:=by
     have hH:xv ⟨N,H⟩=true:=hR.home
     have hid:hasL H (gd H i l0).Id=true:=DT.2 ⟨_,bT l0 hi,by simp⟩
     have hrise:=(va.1 hH).2.2.2
     have hat:xg H (gd H i l0).Id=gd H i l0:=by
       unfold xg
       rw[mC (λa b hab hb=>by
         have:=(EG.1 hrise a b (by simp only; omega) hb hab).1
         rw[zf l0 (by omega),zf l0 hb]; exact this) hi]
     rw[←hat]at hp
     obtain⟨p1,p2,p3⟩:=oT hR hid hn hp
     have:=(bF p3.plan).light y (cy.2 (.inl rfl))
     have:=this.short
     omega
   show ((if true=true then (za fu ⟨N,L⟩ y).bind _ else _):Option (Nj×Bool))=_
   rw[if_pos rfl,jD (by omega) _ y hRB.1 hy,Dw]
   rfl
end AT
namespace AT
def jp (H L:List Nh):List Nat:=(List.range H.length).filter λj=>!hasL L (gd H j l0).Id
variable {fu:Nat} {H:List Nh}
theorem lK (r:Nj) (hH:r.Ng.length≤1000) (hL:r.Nz.Nk.length<fu) (hL2:r.Nz.Nk.length≤2097152):∀(fk i:Nat) (o:List Int),i≤r.Ng.length→r.Ng.length - i<fk→o.length≤i →
    ∃z,vR fu r fk o i=some (o++(((List.range r.Ng.length).drop i).filter λj=>!hasL r.Nz.Nk (gd r.Ng j l0).Id).map (λj:Nat=>(j:Int)),z):=by
 intro fk;induction fk with
 | zero=>intro i _ _ h; omega
 | succ fk ih =>
   intro i o hi hk ho
   rw[vR]
   by_cases h:i<r.Ng.length
   · have hd:(List.range r.Ng.length).drop i=i::(List.range r.Ng.length).drop (i + 1):=by
       have h':i<(List.range r.Ng.length).length:=by simpa using h
       rw[←DG h',Ew]
     have hq:=iu (fu:=fu) r.Nz (gd r.Ng i l0).Id hL hL2
     rw[if_pos (by simpa using h),x5 l0 h,Dw,hq,Dw,xH (by rw[DJ]; omega),vr h (by omega),hd,EI]
     have hh:(r.Nz.Nk.any λy=>y.Id==(gd r.Ng i l0).Id)=hasL r.Nz.Nk (gd r.Ng i l0).Id:=rfl
     cases hc:hasL r.Nz.Nk (gd r.Ng i l0).Id
     · rw[hc]at hh
       obtain⟨z,hz⟩:=ih (i + 1) (o++[(i:Int)]) h (by omega) (by simp; omega)
       rw[hh,if_neg DV,if_pos neg1,Dw,hz,GU,if_pos rfl,FC,DD,EC]
       exact⟨z,rfl⟩
     · rw[hc]at hh
       obtain⟨z,hz⟩:=ih (i + 1) o h (by omega) (by omega)
       rw[hh,if_pos rfl,if_neg (by simp),hz,ED,if_neg DV]
       exact⟨z,rfl⟩
   · obtain rfl:i=r.Ng.length:=by omega
     rw[if_neg (by simp),En (by simp),FQ,GG,D1]
     exact⟨_,rfl⟩
theorem jL (hfu:2097153≤fu) (r:Nj) (hH:r.Ng.length≤1000) (hL2:r.Nz.Nk.length≤2097152):xi fu r=some ((jp r.Ng r.Nz.Nk).map λj:Nat=>(j:Int)):=by
 obtain⟨z,hz⟩:=lK (fu:=fu) r hH (by omega) hL2 fu 0 [] (by omega) (by omega) (by simp);rw[show ((0:Nat):Int)=0 from rfl,D4,Ek]at hz;unfold xi;rw[hz,Dw];rfl
theorem mH (H L:List Nh):(jp H L).map (λj=>(gd H j l0).Id)=wait H L:=by
  unfold jp wait idsL;have hm:H=(List.range H.length).map λj=>gd H j l0:=by
    refine Fx (by simp) λi h1 h2=>?_
    rw[Gq,Ew,zf l0 h1]
  conv=>rhs; rw[hm,List.filter_map,List.map_map]
  rfl
theorem sL {L:List Nh} {j:Nat} (h:j∈jp H L):j<H.length:=by
 unfold jp at h;simpa using (EB.1 h).1
theorem pj {N:Nq} (hH:xv ⟨N,H⟩=true) {i:Nat} (hi:i<H.length):xg H (gd H i l0).Id=gd H i l0:=by
 have hrise:=(va.1 hH).2.2.2;unfold xg;rw[mC (λa b hab hb=>by
   have:=(EG.1 hrise a b (by simp only; omega) hb hab).1
   rw[zf l0 (by omega),zf l0 hb]; exact this) hi]
theorem sE (hfu:2097200≤fu) (r:Nj) (N:Nq) (H:List Nh) (D:List Int) (hN:NetB N) (hrH:r.Ng=H) (ws:List Nat) (hw:∀j∈ws,j<H.length) (hwl:ws.length≤1000):∀(fk i:Nat) (L:List Nh) (o:List Int),i≤ws.length→ws.length - i<fk→o.length≤i→RestF ⟨⟨N,L⟩,H,D⟩→((ws.drop i).map λj=>(gd H j l0).Id).Nodup→(∀j∈ws.drop i,hasL L (gd H j l0).Id=false) →
    ∃z,xn fu r (ws.map λj:Nat=>(j:Int)) fk o i N.Nx N.Nw L H D=some ((resA N H D ((ws.drop i).map λj=>(gd H j l0).Id) L o).2,z,N.Nx,N.Nw,(resA N H D ((ws.drop i).map λj=>(gd H j l0).Id) L o).1,H,D):=by
 intro fk;induction fk with
 | zero=>intro i _ _ _ h; omega
 | succ fk ih =>
   intro i L o hi hk ho hR hnd hid
   rw[xn]
   by_cases h:i<ws.length
   · have hdr:=DG h
     rw[←hdr]at hnd hid ⊢
     rw[FC]at hnd ⊢
     obtain⟨n1,n2⟩:=EP.1 hnd
     have hj:ws[i]<H.length:=hw _ (D6 h)
     have i2:=hid _ Ei
     have i1:hasL H (gd H ws[i] l0).Id=true:=DT.2 ⟨_,bT l0 hj,by simp⟩
     have hat:=pj (N:=N) hR.home hj
     have h':i<(ws.map λj:Nat=>(j:Int)).length:=by rw[Ev]; exact h
     have hx:idx (ws.map λj:Nat=>(j:Int)) (i:Int)=some (ws[i]:Int):=by rw[vF h',Gq]
     have he:xR fu ({ Nz:=({ Nq:=({ Nx:=N.Nx,Nw:=N.Nw }:Nq),Nk:=L }:Nz),Ng:=H,Np:=D }:Nj) (ws[i]:Int)=_:=nS hfu N L H D hN hR hj i2
     rw[if_pos (by simpa using h),hx,Dw,he,Dw,vr h (by omega)]
     unfold resA
     rw[hat]
     cases hp:plc N L D (gd H ws[i] l0) with
     | some x =>
       rw[←hat]at hp
       obtain⟨p1,p2,p3⟩:=oT hR i1 i2 hp
       simp only[if_true]
       rw[Dw,hrH,x5 l0 hj,Dw,xH (by rw[DJ]; omega),Dw]
       refine ih (i + 1) (putL L x) (o++[(gd H ws[i] l0).Id]) h (by omega) (by rw[DR,DJ]; omega) p3 n2 λj hj2=>?_
       have j2:=hid j (D7 _ hj2)
       rw[DX]
       intro hc
       obtain⟨y,hy,he2⟩:=DT.1 hc
       rw[beq_iff_eq]at he2
       rcases cy.1 hy with rfl | hy
       · rw[p1]at he2
         exact n1 (Eh.2 ⟨j,hj2,he2.symm⟩)
       · rw[DX]at j2
         exact j2 (DT.2 ⟨y,hy,by rw[beq_iff_eq]; exact he2⟩)
     | none =>
       simp only[DF,if_false]
       exact ih (i + 1) L o h (by omega) (by omega) hR n2 λj hj2=>hid j (D7 _ hj2)
   · obtain rfl:i=ws.length:=by omega
     rw[if_neg (by simp),Ea]
     exact⟨_,rfl⟩
def allS (r:Nj):Nj:=⟨⟨r.Nz.Nq,(allR r).1⟩,r.Ng,r.Np⟩
theorem Ax (hfu:2097200≤fu) (r:Nj) (hR:RestF r) (hN:NetB r.Nz.Nq):zX fu r=some (allS r,(allR r).2):=by
 obtain⟨⟨N,L⟩,H,D⟩:=r;have h12:H.length≤12:=(bF hR.home).short;have h13:L.length≤12:=(bF hR.plan).short;have hids:=mH H L;have hnd:((jp H L).map λj=>(gd H j l0).Id).Nodup:=by rw[hids]; exact iJ hR
 have hwl:(jp H L).length≤H.length:=by
   unfold jp
   exact EJ (FM _ _) (by simp)
 obtain⟨z,hz⟩:=sE hfu ⟨⟨N,L⟩,H,D⟩ N H D hN rfl (jp H L) (λj hj=>sL hj) (by omega) fu 0 L [] (by omega) (by omega) (by simp) hR (by rw[D4]; exact hnd) (λj hj=>by
   rw[D4]at hj
   unfold jp at hj
   have:=(EB.1 hj).2
   simpa using this)
 rw[show ((0:Nat):Int)=0 from rfl,D4,hids]at hz;unfold zX;have hw:xi fu ⟨⟨N,L⟩,H,D⟩=_:=jL (fu:=fu) (by omega) (⟨⟨N,L⟩,H,D⟩:Nj) (show H.length≤1000 by omega) (show L.length≤2097152 by omega);rw[d7 (fu:=fu) (by omega) _ (hR.B hN),Dw,hw,Dw];show ((xn fu (⟨⟨N,L⟩,H,D⟩:Nj) ((jp H L).map λj:Nat=>(j:Int)) fu [] 0 N.Nx N.Nw L H D).bind _)=_;rw[hz];rfl
def put1 (l:List Int) (n:Int):List Int:=l.filter (λx=>decide (x<n))++n::l.filter λx=>decide (n<x)
variable {l:List Int}
theorem tf {n x:Int}:x∈put1 l n↔x∈l∨x=n:=by
 unfold put1;rw[Dx,DZ,EB,EB,decide_eq_true_eq,decide_eq_true_eq];constructor;rintro (h | h | h)
 exact .inl h.1;exact .inr h;exact .inl h.1;rintro (h | h)
 rcases Int.lt_trichotomy x n with g | g | g
 exact .inl ⟨h,g⟩;exact .inr (.inl g);exact .inr (.inr ⟨h,g⟩);exact .inr (.inl h)
theorem rf (h:l.Pairwise (·<·)) (n:Int):(put1 l n).Pairwise (·<·):=by
 unfold put1;refine FI.2 ⟨h.filter _,ET.2 ⟨λx hx=>by simpa using (EB.1 hx).2,h.filter _⟩,λa ha b hb=>?_⟩;have h1:a<n:=by simpa using (EB.1 ha).2
 rcases DZ.1 hb with rfl | hb
 exact h1;have h2:n<b:=by simpa using (EB.1 hb).2
 omega
theorem oa (l:List Int) (n:Int) (hl:l.length≤1000000):∀(fk i:Nat),i≤l.length→l.length - i<fk→(∀x∈l.take i,x<n)→∃k:Nat,ay fu l n fk i=some (k:Int)∧k≤l.length∧(∀x∈l.take k,x<n)∧∀h:k<l.length,¬l[k]<n:=by
 intro fk;induction fk with
 | zero=>intro i _ h; omega
 | succ fk ih =>
   intro i hi hk hp
   rw[ay]
   by_cases h:i<l.length
   · rw[if_pos (by simpa using h),vF h,Dw,Dw,vr h (by omega)]
     by_cases hc:l[i]<n
     · rw[if_pos (by simpa using hc)]
       refine ih (i + 1) h (by omega) λx hx=>?_
       rw[FW h,Dx,DU]at hx
       rcases hx with hx | rfl
       · exact hp x hx
       · exact hc
     · rw[if_neg (by simpa using hc)]
       exact⟨i,rfl,hi,hp,λ_=>hc⟩
   · rw[if_neg (by simpa using h),Dw,if_neg DV]
     exact⟨i,rfl,hi,hp,λh'=>absurd h' h⟩
theorem Bc (hfu:2097153≤fu) (l:List Int) (n:Int) (hl:l.length≤1000000) (hr:l.Pairwise (·<·)):∃r,eF fu l n=some r∧r.Pairwise (·<·)∧(∀x,x∈r↔x∈l∨x=n)∧r.length≤l.length + 1:=by
  obtain⟨k,h1,h2,h3,h4⟩:=oa (fu:=fu) l n hl fu 0 (by omega) (by omega) (by simp);rw[show ((0:Nat):Int)=0 from rfl]at h1;have hpost:∀x∈l.drop k,n≤x:=λx hx=>by
    by_cases h:k<l.length
    · have h5:=h4 h
      rw[←DG h]at hx
      have hr':(l.drop k).Pairwise (·<·):=Gh (G4 k l) hr
      rw[←DG h]at hr'
      rcases DZ.1 hx with rfl | hx
      · omega
      · have:=(ET.1 hr').1 x hx
        omega
    · rw[En (by omega)]at hx
      cases hx
  unfold eF;rw[h1,Dw];by_cases hc:∃h:k<l.length,l[k]=n
  · obtain⟨h,he⟩:=hc
    refine⟨l,?_,hr,λx=>⟨.inl,λhx=>?_⟩,by omega⟩
    · rw[if_pos (by simpa using h),vF h,Dw,he,Dw,if_pos (by simp)]
    · rcases hx with hx | rfl
      · exact hx
      · rw[←he]; exact D6 h
  · have hb:(if decide ((k:Int)<(l.length:Int))=true then (idx l (k:Int)).bind λe2=>some (e2==n) else some false)=some false:=by
      by_cases h:k<l.length
      · rw[if_pos (by simpa using h),vF h,Dw]
        have:l[k]≠n:=λe=>hc ⟨h,e⟩
        rw[beq_eq_false_iff_ne.2 this]
      · rw[if_neg (by simpa using h)]
    have hs:sub l (k:Int) (l.length:Int)=some (l.drop k):=by
      unfold sub
      rw[if_pos (by omega)]
      simp
    have hgt:∀x∈l.drop k,n<x:=λx hx=>by
      have h6:=hpost x hx
      rcases Int.lt_or_eq_of_le h6 with h7 | h7
      · exact h7
      · exfalso
        by_cases h:k<l.length
        · have h5:=h4 h
          rw[←DG h]at hx
          have hr':(l.drop k).Pairwise (·<·):=Gh (G4 k l) hr
          rw[←DG h]at hr'
          rcases DZ.1 hx with hx | hx
          · exact hc ⟨h,by rw[←hx]; exact h7.symm⟩
          · have:=(ET.1 hr').1 x hx
            omega
        · rw[En (by omega)]at hx
          cases hx
    rw[hb,Dw,if_neg DV,ee h2,Dw,hs,Dw,bY (by rw[DO]; omega),Dw,xH (by rw[DO,DJ]; omega),Dw,xH (by rw[DR,DO,DJ,Er]; omega),Dw]
    refine⟨_,rfl,?_,λx=>?_,by rw[DR,DR,DO,DJ,Er]; omega⟩
    · rw[DD,EC]
      refine FI.2 ⟨Gh (List.take_sublist k l) hr,ET.2 ⟨hgt,Gh (G4 k l) hr⟩,λa ha b hb=>?_⟩
      have g1:=h3 a ha
      rcases DZ.1 hb with rfl | hb
      · exact g1
      · have:=hgt b hb
        omega
    · conv=>rhs; rw[←Fp k l]
      rw[Dx,Dx,Dx,DU]
      constructor
      · rintro ((h | h) | h)
        · exact .inl (.inl h)
        · exact .inr h
        · exact .inl (.inr h)
      · rintro ((h | h) | h)
        · exact .inl (.inl h)
        · exact .inr h
        · exact .inl (.inr h)
theorem ox (hfu:2097153≤fu) (fs:List Int) (hf:fs.length≤1000):∀(fk i:Nat) (m:List Int),i≤fs.length→fs.length - i<fk→m.length≤1000 + i→m.Pairwise (·<·)→∃z m',zk fu fs fk i m=some (z,m')∧m'.Pairwise (·<·)∧∀x,x∈m'↔x∈m∨x∈fs.drop i:=by
 intro fk;induction fk with
 | zero=>intro i _ _ h; omega
 | succ fk ih =>
   intro i m hi hk hm hr
   rw[zk]
   by_cases h:i<fs.length
   · obtain⟨r,r1,r2,r3,r4⟩:=Bc hfu m fs[i] (by omega) hr
     rw[if_pos (by simpa using h),vF h,Dw,r1,Dw,vr h (by omega)]
     obtain⟨z,m',g1,g2,g3⟩:=ih (i + 1) r h (by omega) (by omega) r2
     refine⟨z,m',g1,g2,λx=>?_⟩
     rw[g3,r3,←DG h,DZ,or_assoc]
   · obtain rfl:i=fs.length:=by omega
     rw[if_neg (by simp)]
     exact⟨_,_,rfl,hr,λx=>by simp⟩
theorem tG (hfu:2097153≤fu) (r:Nj) (fs:List Int) (hB:RestB r) (hp:xv r.Nz=true) (hDr:r.Np.Pairwise (·<·)) (hD:r.Np.length≤1000) (hf:fs.length≤1000) {D:List Int} (hD1:D.Pairwise (·<·)) (hD2:∀x,x∈D↔x∈r.Np∨x∈fs):∃ids,ce fu r fs=some (⟨⟨r.Nz.Nq,r.Nz.Nk.filter λx=>!meets x.Nv.Nw fs⟩,r.Ng,D⟩,ids):=by
 have h12:=(bF hp).short;obtain⟨z,m',g1,g2,g3⟩:=ox hfu fs hf fu 0 r.Np (by omega) (by omega) (by omega) hDr;obtain⟨z2,hz2⟩:=qj hfu r hp hB.1.1 fs (by omega) fu 0 [] [] (by omega) (by omega) (by simp) (by simp) (by simp) (by simp);rw[show ((0:Nat):Int)=0 from rfl]at g1 hz2;rw[D4,Ek,Ek,Ek]at hz2;rw[D4]at g3;obtain rfl:m'=D:=il g2 hD1 λx=>(g3 x).trans (hD2 x).symm;unfold ce;rw[d7 hfu r hB,Dw,g1,Dw,hz2];exact⟨_,rfl⟩
def revS (r:Nj):Nj:=⟨⟨r.Nz.Nq,(revd r).1⟩,r.Ng,r.Np⟩
theorem wW (hfu:2097153≤fu) (r:Nj) (hF:RestF r) (hN:NetB r.Nz.Nq):zW fu r=some (revS r,(revd r).2):=by
 have hB:=hF.B hN;have h12:r.Ng.length≤12:=(bF hF.home).short;obtain⟨z,hz⟩:=mL hfu r hB hF.home hF.sub fu 0 (r.Nz.Nk,[]) hF.start (by omega) (by omega) (by simp);have hov:=s6 (D:=r.Np) (kf ((va.1 hF.home).2.2.2.imp λh=>h.1)) (kf ((va.1 hF.plan).2.2.2.imp λh=>h.1)) hF.sub [];rw[show ((0:Nat):Int)=0 from rfl,D4,hov]at hz;unfold zW;rw[d7 hfu r hB,Dw,hz];rfl
end AT
namespace AT
theorem kR {fu:Nat} (hfu:2097153≤fu) (l:List Int) (h:l.length≤2097152):dM fu l l=some true:=by
 unfold dM;have h1:((l.length:Int) != (l.length:Int))=false:=by simp
 rw[h1,if_neg DV,Am l (aF fu l l) h (λfk i=>by rw[aF]) fu (by omega)];rfl
end AT
namespace AT
theorem gj {a b:List Int}:meets a b=false↔∀x∈a,x∉b:=by
 rw[DX];unfold meets;simp only[ne_eq,DT,beq_iff_eq,not_exists,not_and];constructor;intro h x hx hb;exact h x hx x hb rfl;intro h x hx y hy e;subst e;exact h _ hx hy
theorem Al {r:Nj} (h:RestF r) {fs D:List Int} (hs:stOk fs r.Nz.Nq.Nw.length=true) (hD:D.Pairwise (·<·)) (hm:∀x,x∈D↔x∈r.Np∨x∈fs):RestF ⟨⟨r.Nz.Nq,r.Nz.Nk.filter λx=>!meets x.Nv.Nw fs⟩,r.Ng,D⟩:=by
 obtain⟨n1,n2,n3,n4⟩:=va.1 h.plan;refine⟨va.2 ⟨n1,EJ (FM _ _) n2,λx hx=>n3 x (EB.1 hx).1,n4.filter _⟩,h.home,cX.2 ⟨λx hx=>?_,hD⟩,λx hx=>?_⟩;rcases (hm x).1 hx with hx | hx
 exact (cX.1 h.down).1 x hx;exact (cX.1 hs).1 x hx;obtain⟨x1,x2⟩:=EB.1 hx;obtain⟨g1,g2,g3,g4,g5⟩:=aM.1 (h.each x x1);refine aM.2 ⟨g1,gj.2 λy hy hyD=>?_,g3,g4,g5⟩;rcases (hm y).1 hyD with hy2 | hy2
 exact gj.1 g2 y hy hy2;exact gj.1 (by simpa using x2) y hy hy2
theorem wZ {r:Nj} (h:RestF r) (fs:List Int):RestF (repd r fs):=by
 refine⟨h.plan,h.home,?_,λx hx=>?_⟩;obtain⟨d1,d2⟩:=cX.1 h.down;exact cX.2 ⟨λx hx=>d1 x (EB.1 hx).1,d2.filter _⟩;obtain⟨g1,g2,g3,g4,g5⟩:=aM.1 (h.each x hx);exact aM.2 ⟨g1,gj.2 λy hy hyD=>gj.1 g2 y hy (EB.1 hyD).1,g3,g4,g5⟩
def setU (a b:List Int):List Int:=b.foldl put1 a
theorem ii:∀(b:List Int) {a:List Int},a.Pairwise (·<·)→(setU a b).Pairwise (·<·)∧∀x,x∈setU a b↔x∈a∨x∈b
  | [],a,h=>⟨h,λx=>by simp [setU]⟩
  | n::b,a,h=>by
    obtain⟨h1,h2⟩:=ii b (rf h n)
    refine⟨h1,λx=>?_⟩
    rw[DZ]
    have:x∈setU a (n::b)↔x∈setU (put1 a n) b:=Iff.rfl
    rw[this,h2,tf,or_assoc]
def evt (r:Nj) (e:Pg):Nj:=if e.Pp=true then ⟨⟨r.Nz.Nq,r.Nz.Nk.filter λx=>!meets x.Nv.Nw e.Nw⟩,r.Ng,setU r.Np e.Nw⟩ else repd r e.Nw
def ev1 (r:Nj) (e:Pg):Nj:=revS (allS (evt r e))
theorem oz (r:Nj) (e:Pg):(evt r e).Nz.Nq=r.Nz.Nq:=by
 unfold evt;split <;> rfl
theorem oB (r:Nj) (e:Pg):(ev1 r e).Nz.Nq=r.Nz.Nq:=oz r e
theorem tI (r:Nj) (e:Pg):(evt r e).Ng=r.Ng:=by
 unfold evt;split <;> rfl
theorem tJ (r:Nj) (e:Pg):(ev1 r e).Ng=r.Ng:=tI r e
theorem pp {r:Nj} (h:RestF r) {e:Pg} (hs:stOk e.Nw r.Nz.Nq.Nw.length=true):RestF (evt r e):=by
 unfold evt;split
 obtain⟨h1,h2⟩:=ii e.Nw (cX.1 h.down).2;exact Al h hs h1 h2;exact wZ h _
theorem pq {r:Nj} (h:RestF r) {e:Pg} (hs:stOk e.Nw r.Nz.Nq.Nw.length=true):RestF (ev1 r e):=wV (r:=allS (evt r e)) (mF (pp h hs)).1
def runE:List Pg→Nj→List Int→Option (List Int×Nj)
  | [],r,c=>some (c,r)
  | e::es,r,c=>if stOk e.Nw r.Nz.Nq.Nw.length=true then runE es (ev1 r e) (c++[((wait (ev1 r e).Ng (ev1 r e).Nz.Nk).length:Int)]) else none
def outE (k:Int):Option (List Int×Nj)→Out (List Int×Int×List ByteArray×List Nt×List Nh×List Nh×List Int) (List Int×Nj×Bool)
  | some (c,r)=>.next (c,k,r.Nz.Nq.Nx,r.Nz.Nq.Nw,r.Nz.Nk,r.Ng,r.Np)
  | none=>.ret ([],nG,false)
theorem tO {r:Nj} (h:RestF r):r.Np.length≤100:=by
 have h1:=gg h.down;have h2:=(netF (va.1 h.plan).1).fib;omega
theorem qI (H L:List Nh):(jp H L).length=(wait H L).length:=by rw[←mH,Ev]
theorem nh {fu:Nat} (hfu:2097200≤fu) (N:Nq) (hN:NetB N) (es:List Pg) (hes:∀e∈es,e.Nw.length≤1000) (hl:es.length≤1000):∀(fk i:Nat) (r:Nj) (c:List Int),i≤es.length→es.length - i<fk→c.length≤i→RestF r→r.Nz.Nq=N →
    xr fu es fk c i r.Nz.Nq.Nx r.Nz.Nq.Nw r.Nz.Nk r.Ng r.Np=some (outE (es.length:Int) (runE (es.drop i) r c)):=by
 intro fk;induction fk with
 | zero=>intro i _ _ _ h; omega
 | succ fk ih =>
   intro i r c hi hk hc hR hrN
   rw[xr]
   by_cases h:i<es.length
   · have hf:=hes _ (D6 h)
     have hB:=hR.B (by rw[hrN]; exact hN)
     have hch:zI fu ({ Nz:=({ Nq:=({ Nx:=r.Nz.Nq.Nx,Nw:=r.Nz.Nq.Nw }:Nq),Nk:=r.Nz.Nk }:Nz),Ng:=r.Ng,Np:=r.Np }:Nj) es[i].Nw=_:=gR (by omega) r es[i].Nw hB (by omega)
     rw[if_pos (by simpa using h),vF h,Dw,hch,Dw,kK.2 hR,EV,←DG h]
     unfold runE
     cases hs:stOk es[i].Nw r.Nz.Nq.Nw.length
     · rw[if_pos (by decide),if_neg DV]
       rfl
     · rw[if_neg (by decide),if_pos rfl]
       have hE:=pp hR hs
       have hEN:=(oz r es[i]).trans hrN
       have hA:=(mF hE).1
       have hV:=pq hR hs
       have hVN:=(oB r es[i]).trans hrN
       have hall:=qh hfu (evt r es[i]) (hE.B (by rw[hEN]; exact hN))
       rw[kK.2 hE,if_pos rfl]at hall
       have hrev:=mn (fu:=fu) (by omega) (allS (evt r es[i])) (RestF.B (r:=allS (evt r es[i])) hA (by show NetB (evt r es[i]).Nz.Nq; rw[hEN]; exact hN))
       rw[show rsOk (allS (evt r es[i]))=true from kK.2 hA,if_pos rfl]at hrev
       have hV1:=(bF hV.home).short
       have hV2:=(bF hV.plan).short
       simp only at hV1
       have hw:=gT (fu:=fu) (by omega) (ev1 r es[i]) (by omega) (by omega)
       have hih:=ih (i + 1) (ev1 r es[i]) (c++[((wait (ev1 r es[i]).Ng (ev1 r es[i]).Nz.Nk).length:Int)]) h (by omega) (by rw[DR,DJ]; omega) hV hVN
       have happ:app c [((wait (ev1 r es[i]).Ng (ev1 r es[i]).Nz.Nk).length:Int)]=some (c++[((wait (ev1 r es[i]).Ng (ev1 r es[i]).Nz.Nk).length:Int)]):=xH (by rw[DJ]; omega)
       have hwi:=vr h (show (es.length:Int)≤9223372036854775807 by omega)
       have hgo:((zn fu (evt r es[i])).bind λy4=>(xN fu y4.1).bind λy5=>(yY fu y5.1).bind λy6=>(app c [(y6.length:Int)]).bind λl=>xr fu es fk l (w64 ((i:Int) + 1)) y5.1.Nz.Nq.Nx y5.1.Nz.Nq.Nw y5.1.Nz.Nk y5.1.Ng y5.1.Np)=some (outE (es.length:Int) (runE (es.drop (i + 1)) (ev1 r es[i]) (c++[((wait (ev1 r es[i]).Ng (ev1 r es[i]).Nz.Nk).length:Int)]))):=by
         rw[hall,Dw]
         show ((xN fu (allS (evt r es[i]))).bind _)=_
         rw[hrev,Dw]
         show ((yY fu (ev1 r es[i])).bind _)=_
         rw[hw,Dw,happ,Dw,hwi]
         exact hih
       clear hall hrev hw hih happ hwi
       cases hF:es[i].Pp
       · rw[if_neg DV]
         have hre:ze fu ({ Nz:=({ Nq:=({ Nx:=r.Nz.Nq.Nx,Nw:=r.Nz.Nq.Nw }:Nq),Nk:=r.Nz.Nk }:Nz),Ng:=r.Ng,Np:=r.Np }:Nj) es[i].Nw=some (evt r es[i],true):=by
           have:=mo (fu:=fu) (by omega) r es[i].Nw hB (by omega)
           rw[kK.2 hR,hs]at this
           unfold evt
           rw[hF,if_neg DV]
           exact this
         rw[hre,Dw]
         exact hgo
       · rw[if_pos rfl]
         have hre:∃ids,zo fu ({ Nz:=({ Nq:=({ Nx:=r.Nz.Nq.Nx,Nw:=r.Nz.Nq.Nw }:Nq),Nk:=r.Nz.Nk }:Nz),Ng:=r.Ng,Np:=r.Np }:Nj) es[i].Nw=some (evt r es[i],ids,true):=by
           rcases og (fu:=fu) (by omega) r es[i].Nw hB (by omega) with ⟨-,D,hI,hD1,hD2⟩ | ⟨hv,-⟩
           · obtain⟨u1,u2⟩:=ii es[i].Nw (cX.1 hR.down).2
             obtain rfl:D=setU r.Np es[i].Nw:=il hD1 u1 λx=>(hD2 x).trans (u2 x).symm
             refine⟨idsL (r.Nz.Nk.filter λx=>meets x.Nv.Nw es[i].Nw),?_⟩
             unfold evt
             rw[hF,if_pos rfl]
             exact hI
           · rw[kK.2 hR,hs]at hv
             cases hv
         obtain⟨ids,hre⟩:=hre
         rw[hre,Dw]
         exact hgo
   · obtain rfl:i=es.length:=by omega
     rw[if_neg (by simp),Ea]
     rfl
theorem mK {fu:Nat} (hfu:2097200≤fu) (p:Nz) (hN:NetB p.Nq) (es:List Pg) (hes:∀e∈es,e.Nw.length≤1000) (hl:es.length≤1000):∀(fk i:Nat) (r:Nj) (c:List Int),i≤es.length→es.length - i<fk→c.length≤i→RestF r→r.Nz.Nq=p.Nq →
    xq fu p es fk c i r.Nz.Nq.Nx r.Nz.Nq.Nw r.Nz.Nk r.Ng r.Np=some (outE (es.length:Int) (runE (es.drop i) r c)):=by
 intro fk;induction fk with
 | zero=>intro i _ _ _ h; omega
 | succ fk ih =>
   intro i r c hi hk hc hR hrN
   rw[xq]
   by_cases h:i<es.length
   · have hf:=hes _ (D6 h)
     have hB:=hR.B (by rw[hrN]; exact hN)
     have hDl:=tO hR
     have hNf:=(netF (va.1 hR.plan).1).fib
     have hch:=pJ (fu:=fu) (by omega) es[i].Nw p.Nq.Nw.length (by rw[←hrN]; omega) (by omega)
     rw[if_pos (by simpa using h),vF h,Dw,hch,Dw,←hrN,←DG h]
     unfold runE
     cases hs:stOk es[i].Nw r.Nz.Nq.Nw.length
     · rw[if_pos (by decide),if_neg DV]
       rfl
     · rw[if_neg (by decide),if_pos rfl]
       have hE:=pp hR hs
       have hEN:=(oz r es[i]).trans hrN
       have hA:=(mF hE).1
       have hV:=pq hR hs
       have hVN:=(oB r es[i]).trans hrN
       have hall:=Ax hfu (evt r es[i]) hE (by rw[hEN]; exact hN)
       have hrev:=wW (fu:=fu) (by omega) (allS (evt r es[i])) hA (by show NetB (evt r es[i]).Nz.Nq; rw[hEN]; exact hN)
       have hV1:=(bF hV.home).short
       have hV2:=(bF hV.plan).short
       simp only at hV1
       have hw:=jL (fu:=fu) (by omega) (ev1 r es[i]) (by omega) (by omega)
       have hih:=ih (i + 1) (ev1 r es[i]) (c++[((wait (ev1 r es[i]).Ng (ev1 r es[i]).Nz.Nk).length:Int)]) h (by omega) (by rw[DR,DJ]; omega) hV hVN
       have happ:app c [((wait (ev1 r es[i]).Ng (ev1 r es[i]).Nz.Nk).length:Int)]=some (c++[((wait (ev1 r es[i]).Ng (ev1 r es[i]).Nz.Nk).length:Int)]):=xH (by rw[DJ]; omega)
       have hwi:=vr h (show (es.length:Int)≤9223372036854775807 by omega)
       have hgo:((zX fu (evt r es[i])).bind λy4=>(zW fu y4.1).bind λy5=>(xi fu y5.1).bind λy6=>(app c [(y6.length:Int)]).bind λl=>xq fu p es fk l (w64 ((i:Int) + 1)) y5.1.Nz.Nq.Nx y5.1.Nz.Nq.Nw y5.1.Nz.Nk y5.1.Ng y5.1.Np)=some (outE (es.length:Int) (runE (es.drop (i + 1)) (ev1 r es[i]) (c++[((wait (ev1 r es[i]).Ng (ev1 r es[i]).Nz.Nk).length:Int)]))):=by
         rw[hall,Dw,hrev,Dw]
         show ((xi fu (ev1 r es[i])).bind _)=_
         rw[hw,Dw,Ev,qI,happ,Dw,hwi]
         exact hih
       clear hall hrev hw hih happ hwi
       rw[Dw]
       cases hF:es[i].Pp
       · rw[if_neg DV,Dw]
         have hre:aV fu ({ Nz:=({ Nq:=({ Nx:=r.Nz.Nq.Nx,Nw:=r.Nz.Nq.Nw }:Nq),Nk:=r.Nz.Nk }:Nz),Ng:=r.Ng,Np:=r.Np }:Nj) es[i].Nw=some (evt r es[i]):=by
           have:=lQ (fu:=fu) (by omega) r es[i].Nw hB (by omega) (by omega)
           unfold evt
           rw[hF,if_neg DV]
           exact this
         rw[hre,Dw]
         exact hgo
       · rw[if_pos rfl,Dw]
         have hre:∃ids,ce fu ({ Nz:=({ Nq:=({ Nx:=r.Nz.Nq.Nx,Nw:=r.Nz.Nq.Nw }:Nq),Nk:=r.Nz.Nk }:Nz),Ng:=r.Ng,Np:=r.Np }:Nj) es[i].Nw=some (evt r es[i],ids):=by
           obtain⟨u1,u2⟩:=ii es[i].Nw (cX.1 hR.down).2
           obtain⟨ids,hI⟩:=tG (fu:=fu) (by omega) r es[i].Nw hB hR.plan (cX.1 hR.down).2 (by omega) (by omega) u1 u2
           refine⟨ids,?_⟩
           unfold evt
           rw[hF,if_pos rfl]
           exact hI
         obtain⟨ids,hre⟩:=hre
         rw[hre,Dw]
         exact hgo
   · obtain rfl:i=es.length:=by omega
     rw[if_neg (by simp),Ea]
     rfl
end AT
