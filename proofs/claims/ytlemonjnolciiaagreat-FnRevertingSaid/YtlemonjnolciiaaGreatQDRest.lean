/- The draws of restorations come to an end, and what they yield is small. -/
import Derived.Test.YtlemonjnolciiaaGreatQDPlanA
set_option linter.unusedSimpArgs false
set_option linter.unusedVariables false
namespace AT
def PlQ (L:List Light):Prop:=∀ x∈L,blkOk x.Block=true∧x.Route.Fibers.length≤20
theorem PlQ.B {N:Network} {L:List Light} (hN:NetB N) (h:PlQ L) (hl:L.length≤100):PlanB ⟨N,L⟩:=⟨hN,by simp only; omega,fun x hx=>by have:=(h x hx).2; omega⟩
theorem plQ_of {p:Plan} (h:planOk p=true):PlQ p.Lights:=fun x hx=>by
  have:=(planF h).light x hx
  exact ⟨this.blk,by have:=this.short; omega⟩
theorem place_loop {fu:Nat} (hfu:2097200≤fu) (N:Network) (L H:List Light) (D:List Int) (hN:NetB N) (hQ:PlQ L) (hl:L.length≤100) (hD:D.length≤100) (x:Light) (hx:blkOk x.Block=true) (l:List Route) (hL:∀ a∈l,a.Fibers.length≤7) (hll:l.length≤1000) (b:Bool):∀ (fk i:Nat),i≤l.length→l.length - i<fk →
    (∃ z,spec_l15Place_L1 fu ⟨⟨N,L⟩,H,D⟩ x (l,b) fk i=some (.next z))∨∃ y,spec_l15Place_L1 fu ⟨⟨N,L⟩,H,D⟩ x (l,b) fk i=some (.ret (y,true))∧blkOk y.Block=true∧y.Route.Fibers.length≤20:=by
  have hPB:=hQ.B hN hl
  have hc:=hx
  unfold blkOk at hc
  simp only [Bool.and_eq_true,decide_eq_true_eq] at hc
  intro fk
  induction fk with
  | zero=>intro i _ h; omega
  | succ fk ih =>
    intro i hi hk
    rw [spec_l15Place_L1]
    by_cases h:i<l.length
    · cases b
      · rw [if_pos (by simpa using h),Option.bind_some,if_neg Bool.false_ne_true]
        exact .inl ⟨_,rfl⟩
      have ha:=hL _ (List.getElem_mem h)
      have ei:idx l (i:Int)=some l[i]:=idx_in h
      have hal:=l9Along_eq (fu:=fu) (by omega) (⟨N,L⟩:Plan) l[i] hPB.2.1 (fun y hy=>(hQ y hy).1) hPB.2.2 (by omega)
      have hwi:=w64_inc h (show (l.length:Int)≤9223372036854775807 by omega)
      rw [if_pos (by simpa using h),Option.bind_some,if_pos rfl]
      dsimp only
      rw [ei]
      simp only [Option.bind_some,uses_eq (fu:=fu) (by omega) l[i] D (show l[i].Fibers.length≤2097152 by omega) (show D.length≤2097152 by omega),hal,l8Fits_eq (fu:=fu) (by omega) _ x.Block.Count hc.2.1 (show x.Block.Count≤24 by omega),hwi]
      clear hwi
      cases meets l[i].Fibers D
      · obtain ⟨fs,hfs⟩:∃ fs,fs=fits (along L l[i].Fibers) x.Block.Count:=⟨_,rfl⟩
        rw [if_neg Bool.false_ne_true,←hfs]
        by_cases hf:0<fs.length
        · have e0:idx fs 0=some (gd fs 0 0):=idx_gd 0 hf
          have hm:=gd_mem (l:=fs) (i:=0) 0 hf
          rw [hfs,fits_mem hc.2.1 (by omega),←hfs] at hm
          rw [if_pos (by simpa using hf),e0]
          simp only [Option.bind_some,l4Own_eq fu l[i] (show l[i].Fibers.length≤2097152 by omega)]
          refine .inr ⟨_,rfl,?_,?_⟩
          · unfold blkOk
            simp only [Bool.and_eq_true,decide_eq_true_eq]
            omega
          simp only; omega
        rw [if_neg (by simpa using hf)]
        exact ih (i + 1) h (by omega)
      rw [if_pos rfl]
      exact ih (i + 1) h (by omega)
    obtain rfl:i=l.length:=by omega
    rw [if_neg (by simp),Option.bind_some,if_neg Bool.false_ne_true]
    exact .inl ⟨_,rfl⟩
theorem place_ok {fu:Nat} (hfu:2097200≤fu) (N:Network) (L H:List Light) (D:List Int) (hN:NetB N) (hH:planOk ⟨N,H⟩=true) (hQ:PlQ L) (hl:L.length≤100) (hD:D.length≤100) {x:Light} (hx:x∈H):∃ y b,spec_l15Place fu ⟨⟨N,L⟩,H,D⟩ x=some (y,b)∧(b=true→blkOk y.Block=true∧y.Route.Fibers.length≤20):=by
  have hPB:=hQ.B hN hl
  have hF:=planF hH
  have hxF:LightF N x:=hF.light x hx
  have hxr:=hxF.short
  have hnf:=netF hF.net
  obtain ⟨o,ho⟩:=hxF.route
  have hfa:=rnodes_facts hnf ho
  have hal:=l9Along_eq (fu:=fu) (by omega) (⟨N,L⟩:Plan) x.Route hPB.2.1 (fun y hy=>(hQ y hy).1) hPB.2.2 (by omega)
  have hB:=rts_B hnf hfa.2.2.2.2.2.1 hfa.2.2.2.2.2.2 (endR N x.Route)
  have hend:spec_l4End fu N x.Route=some (endR N x.Route):=specEnd_eq (by omega) N x.Route hN (by omega) (by rw [ho]; rfl)
  unfold spec_l15Place
  have hu:spec_l4Uses fu x.Route D=some (meets x.Route.Fibers D):=uses_eq (by omega) x.Route D (by omega) (by omega)
  show ∃ y b,(((spec_l4Uses fu x.Route D).bind fun y=>if (!y)=true then (spec_l9Along fu ⟨N,L⟩ x.Route).bind fun y2=>(spec_l8Bits fu x.Block).bind fun y3=>some (band y2 y3==0) else some false).bind _)=some (y,b)∧_
  rw [hu,hal,l8Bits_eq hxF.blk,Option.bind_some]
  have hone:∃ c,(if (!meets x.Route.Fibers D)=true then (some (along L x.Route.Fibers)).bind fun y2=>(some (bits x.Block)).bind fun y3=>some (band y2 y3==0) else some false)=some c:=by
    cases meets x.Route.Fibers D <;> exact ⟨_,rfl⟩
  obtain ⟨c,hc⟩:=hone
  rw [show (⟨N,L⟩:Plan).Lights=L from rfl,hc,Option.bind_some]
  cases c
  · rw [if_neg Bool.false_ne_true]
    show ∃ y b,((spec_l4End fu N x.Route).bind _)=some (y,b)∧_
    rw [hend,Option.bind_some]
    show ∃ y b,((spec_AllRoutes fu N x.Route.Start (endR N x.Route)).bind _)=some (y,b)∧_
    rw [specRoutes_eq hfu N _ _ hN,Option.bind_some]
    obtain ⟨q,hq⟩:∃ q,q=(if pairOk N x.Route.Start (endR N x.Route)=true∧(rts N x.Route.Start (endR N x.Route)).length≤200 then (rts N x.Route.Start (endR N x.Route),true) else ([],false)):=⟨_,rfl⟩
    rw [←hq]
    have hql:(∀ a∈q.1,a.Fibers.length≤7)∧q.1.length≤201:=by
      rw [hq]
      split
      · exact ⟨fun a ha=>(hB.1 a ha).short,hB.2⟩
      simp
    rcases place_loop hfu N L H D hN hQ hl hD x hxF.blk q.1 hql.1 (by omega) q.2 fu 0 (by omega) (by omega) with ⟨z,hz⟩ | ⟨y,hz,h1,h2⟩
    · rw [show ((0:Nat):Int)=0 from rfl] at hz
      rw [show (q.1,q.2)=q from rfl] at hz
      rw [hz]
      exact ⟨_,_,rfl,fun h=>by cases h⟩
    rw [show ((0:Nat):Int)=0 from rfl] at hz
    rw [show (q.1,q.2)=q from rfl] at hz
    rw [hz]
    exact ⟨y,true,rfl,fun _=>⟨h1,h2⟩⟩
  rw [if_pos rfl,l9Copy_eq fu x (by omega)]
  exact ⟨x,true,rfl,fun _=>⟨hxF.blk,by omega⟩⟩
theorem PlQ.put {L:List Light} {x:Light} (h:PlQ L) (hx:blkOk x.Block=true∧x.Route.Fibers.length≤20):PlQ (putL L x):=fun y hy=>by
  rcases putL_mem.1 hy with rfl | hy
  · exact hx
  exact h y hy
theorem restore_ok {fu:Nat} (hfu:2097200≤fu) (N:Network) (L H:List Light) (D:List Int) (hN:NetB N) (hH:planOk ⟨N,H⟩=true) (hQ:PlQ L) (hl:L.length≤90) (hD:D.length≤100) {i:Int} (h0:0≤i) (h1:i<(H.length:Int)):∃ L' b,spec_l15Restore fu ⟨⟨N,L⟩,H,D⟩ i=some (⟨⟨N,L'⟩,H,D⟩,b)∧PlQ L'∧L'.length≤L.length + 1:=by
  have hPB:=hQ.B hN (show L.length≤100 by omega)
  have h12:H.length≤12:=(planF hH).short
  have hRB:RestB ⟨⟨N,L⟩,H,D⟩:=⟨hPB,⟨by simp only; omega,fun x hx=>by have:=((planF hH).light x hx).short; omega⟩,by simp only; omega⟩
  obtain ⟨x,hx,hxm⟩:=idx_some (l:=H) (i:=i) h0 h1
  obtain ⟨y,b,hp,hy⟩:=place_ok hfu N L H D hN hH hQ (by omega) hD hxm
  unfold spec_l15Restore
  have hown:=l15Own_eq (fu:=fu) (by omega) _ hRB
  show ∃ L' b,((idx H i).bind _)=some (_,b)∧_
  rw [hx,Option.bind_some,hp,Option.bind_some,hown,Option.bind_some]
  cases b
  · exact ⟨L,false,rfl,hQ,by omega⟩
  have hyy:=hy rfl
  rw [if_pos rfl,l9Put_eq (by omega) _ y hPB (by omega),Option.bind_some]
  exact ⟨putL L y,true,rfl,hQ.put hyy,by rw [putL_len]; omega⟩
theorem all_loop {fu:Nat} (hfu:2097200≤fu) (r:Restoration) (N:Network) (H:List Light) (D:List Int) (hN:NetB N) (hH:planOk ⟨N,H⟩=true) (hD:D.length≤100) (hrH:r.Home=H) (w:List Int) (hw:∀ i∈w,0≤i∧i<(H.length:Int)) (hwl:w.length≤12):∀ (fk i:Nat) (ids:List Int) (L:List Light),i≤w.length→w.length - i<fk→PlQ L→L.length≤50 + i→ids.length≤i →
    ∃ ids' z L',spec_l15All_L1 fu r w fk ids i N.Nodes N.Fibers L H D=some (ids',z,N.Nodes,N.Fibers,L',H,D)∧PlQ L'∧L'.length≤L.length + (w.length - i):=by
  intro fk
  induction fk with
  | zero=>intro i _ _ _ h; omega
  | succ fk ih =>
    intro i ids L hi hk hQ hl hids
    rw [spec_l15All_L1]
    by_cases h:i<w.length
    · have hm:=hw _ (List.getElem_mem h)
      obtain ⟨L',b,g1,g2,g3⟩:=restore_ok hfu N L H D hN hH hQ (by omega) hD hm.1 hm.2
      obtain ⟨x,hx,-⟩:=idx_some (l:=H) (i:=w[i]) hm.1 hm.2
      have hwi:=w64_inc h (show (w.length:Int)≤9223372036854775807 by omega)
      have g1':spec_l15Restore fu ({ Plan:=({ Network:=({ Nodes:=N.Nodes,Fibers:=N.Fibers }:Network),Lights:=L }:Plan),Home:=H,Down:=D }:Restoration) w[i]=_:=g1
      rw [if_pos (by simpa using h),idx_in h,Option.bind_some,g1',Option.bind_some,hwi]
      clear hwi
      cases b
      · rw [if_neg Bool.false_ne_true]
        obtain ⟨a1,a2,a3,a4,a5,a6⟩:=ih (i + 1) ids L' h (by omega) g2 (by omega) (by omega)
        exact ⟨a1,a2,a3,a4,a5,by omega⟩
      rw [if_pos rfl,Option.bind_some,hrH,hx,Option.bind_some,app_ok (by rw [List.length_singleton]; omega),Option.bind_some]
      obtain ⟨a1,a2,a3,a4,a5,a6⟩:=ih (i + 1) (ids++[x.Id]) L' h (by omega) g2 (by omega) (by rw [List.length_append,List.length_singleton]; omega)
      exact ⟨a1,a2,a3,a4,a5,by omega⟩
    obtain rfl:i=w.length:=by omega
    rw [if_neg (by simp)]
    exact ⟨_,_,_,rfl,hQ,by omega⟩
theorem waiting_loop {fu:Nat} (r:Restoration) (hH:r.Home.length≤1000) (hL:r.Plan.Lights.length<fu) (hL2:r.Plan.Lights.length≤2097152):∀ (fk i:Nat) (o:List Int),i≤r.Home.length→r.Home.length - i<fk→o.length≤i→(∀ e∈o,0≤e∧e<(r.Home.length:Int)) →
    ∃ o' z,spec_l15Waiting_L1 fu r fk o i=some (o',z)∧o'.length≤r.Home.length∧∀ e∈o',0≤e∧e<(r.Home.length:Int):=by
  intro fk
  induction fk with
  | zero=>intro i _ _ h; omega
  | succ fk ih =>
    intro i o hi hk ho hr
    rw [spec_l15Waiting_L1]
    by_cases h:i<r.Home.length
    · obtain ⟨q,hq⟩:∃ q,spec_l9Find fu r.Plan r.Home[i].Id=some q:=⟨_,l9Find_eq r.Plan _ hL hL2⟩
      rw [if_pos (by simpa using h),idx_in h,Option.bind_some,hq,Option.bind_some,app_ok (by rw [List.length_singleton]; omega),w64_inc h (by omega)]
      by_cases hc:q<0
      · rw [if_pos (by simpa using hc),Option.bind_some]
        refine ih (i + 1) (o++[(i:Int)]) h (by omega) (by simp; omega) fun e he=>?_
        rcases List.mem_append.1 he with he | he
        · exact hr e he
        rw [List.mem_singleton] at he; subst he; omega
      rw [if_neg (by simpa using hc)]
      exact ih (i + 1) o h (by omega) (by omega) hr
    obtain rfl:i=r.Home.length:=by omega
    rw [if_neg (by simp)]
    exact ⟨_,_,rfl,ho,hr⟩
theorem all_ok {fu:Nat} (hfu:2097200≤fu) (N:Network) (L H:List Light) (D:List Int) (hN:NetB N) (hH:planOk ⟨N,H⟩=true) (hQ:PlQ L) (hl:L.length≤40) (hD:D.length≤100):∃ L' ids,spec_l15All fu ⟨⟨N,L⟩,H,D⟩=some (⟨⟨N,L'⟩,H,D⟩,ids)∧PlQ L'∧L'.length≤L.length + 12:=by
  have hPB:=hQ.B hN (show L.length≤100 by omega)
  have h12:H.length≤12:=(planF hH).short
  have hRB:RestB ⟨⟨N,L⟩,H,D⟩:=⟨hPB,⟨by simp only; omega,fun x hx=>by have:=((planF hH).light x hx).short; omega⟩,by simp only; omega⟩
  obtain ⟨w,z,hw,w1,w2⟩:=waiting_loop (fu:=fu) (⟨⟨N,L⟩,H,D⟩:Restoration) (show H.length≤1000 by omega) (show L.length<fu by omega) (show L.length≤2097152 by omega) fu 0 [] (by omega) (show H.length - 0<fu by omega) (by simp) (by simp)
  obtain ⟨ids,z2,L',g1,g2,g3⟩:=all_loop hfu (⟨⟨N,L⟩,H,D⟩:Restoration) N H D hN hH hD rfl w w2 (Nat.le_trans w1 h12) fu 0 [] L (by omega) (by have:w.length≤H.length:=w1; omega) hQ (by omega) (by simp)
  rw [show ((0:Nat):Int)=0 from rfl] at hw g1
  have w1':w.length≤H.length:=w1
  unfold spec_l15All spec_l15Waiting
  rw [l15Own_eq (fu:=fu) (by omega) _ hRB,Option.bind_some,hw,Option.bind_some,Option.bind_some]
  show ∃ L' ids,((spec_l15All_L1 fu (⟨⟨N,L⟩,H,D⟩:Restoration) w fu [] 0 N.Nodes N.Fibers L H D).bind _)=_∧_
  rw [g1]
  exact ⟨L',ids,rfl,g2,by omega⟩
theorem repair_loop {fu:Nat} (r:Restoration) (fs:List Int) (hD:r.Down.length≤1000) (hf:fs.length<fu) (hf2:fs.length≤2097152):∀ (fk i:Nat) (o:List Int),i≤r.Down.length→r.Down.length - i<fk→o.length≤i→∃ z,spec_l15Repair_L1 fu r fs fk i o=some (z,o++(r.Down.drop i).filter fun x=>!fs.any fun y=>y==x):=by
  intro fk
  induction fk with
  | zero=>intro i _ _ h; omega
  | succ fk ih =>
    intro i o hi hk ho
    rw [spec_l15Repair_L1]
    by_cases h:i<r.Down.length
    · rw [if_pos (by simpa using h),idx_in h,Option.bind_some,l1Has_eq fs _ hf hf2,Option.bind_some,w64_inc h (by omega),←List.getElem_cons_drop h,List.filter_cons]
      cases fs.any fun y=>y==r.Down[i]
      · rw [if_pos (by decide),Option.bind_some,app_ok (by rw [List.length_singleton]; omega),Option.bind_some,if_pos (by decide)]
        obtain ⟨z,hz⟩:=ih (i + 1) (o++[r.Down[i]]) h (by omega) (by simp; omega)
        exact ⟨z,by rw [hz,List.append_assoc,List.singleton_append]⟩
      rw [if_neg (by decide),if_neg (by decide)]
      exact ih (i + 1) o h (by omega) (by omega)
    obtain rfl:i=r.Down.length:=by omega
    rw [if_neg (by simp),List.drop_length,List.filter_nil,List.append_nil]
    exact ⟨_,rfl⟩
def repd (r:Restoration) (fs:List Int):Restoration:=⟨r.Plan,r.Home,r.Down.filter fun x=>!fs.any fun y=>y==x⟩
theorem specRepair_eq {fu:Nat} (hfu:2097153≤fu) (r:Restoration) (fs:List Int) (hB:RestB r) (hD:r.Down.length≤1000) (hf:fs.length≤2097152):spec_l15Repair fu r fs=some (repd r fs):=by
  obtain ⟨z,hz⟩:=repair_loop (fu:=fu) r fs hD (by omega) hf fu 0 [] (by omega) (by omega) (by simp)
  rw [show ((0:Nat):Int)=0 from rfl,List.drop_zero,List.nil_append] at hz
  unfold spec_l15Repair
  rw [l15Own_eq hfu r hB,Option.bind_some,hz]
  rfl
theorem l1Put_loop {fu:Nat} (l:List Int) (n:Int) (hl:l.length≤1000000):∀ (fk i:Nat),i≤l.length→l.length - i<fk→∃ k:Nat,spec_l1Put_L1 fu l n fk i=some (k:Int)∧k≤l.length:=by
  intro fk
  induction fk with
  | zero=>intro i _ h; omega
  | succ fk ih =>
    intro i hi hk
    rw [spec_l1Put_L1]
    by_cases h:i<l.length
    · rw [if_pos (by simpa using h),idx_in h,Option.bind_some,Option.bind_some,w64_inc h (by omega)]
      split
      · exact ih (i + 1) h (by omega)
      exact ⟨i,rfl,hi⟩
    rw [if_neg (by simpa using h),Option.bind_some,if_neg Bool.false_ne_true]
    exact ⟨i,rfl,hi⟩
theorem l1Put_ok {fu:Nat} (hfu:2097153≤fu) (l:List Int) (n:Int) (hl:l.length≤1000000):∃ r,spec_l1Put fu l n=some r∧r.length≤l.length + 1:=by
  obtain ⟨k,h1,h2⟩:=l1Put_loop (fu:=fu) l n hl fu 0 (by omega) (by omega)
  rw [show ((0:Nat):Int)=0 from rfl] at h1
  unfold spec_l1Put
  rw [h1,Option.bind_some]
  have hc:∃ c,(if decide ((k:Int)<(l.length:Int))=true then (idx l (k:Int)).bind fun e2=>some (e2==n) else some false)=some c:=by
    by_cases h:k<l.length
    · rw [if_pos (by simpa using h),idx_in h]; exact ⟨_,rfl⟩
    rw [if_neg (by simpa using h)]; exact ⟨_,rfl⟩
  obtain ⟨c,hc⟩:=hc
  rw [hc,Option.bind_some]
  cases c
  · have hs:sub l (k:Int) (l.length:Int)=some (l.drop k):=by
      unfold sub
      rw [if_pos (by omega)]
      simp
    rw [if_neg Bool.false_ne_true,sub_take h2,Option.bind_some,hs,Option.bind_some,app_nil (by rw [List.length_take]; omega),Option.bind_some,app_ok (by rw [List.length_take,List.length_singleton]; omega),Option.bind_some,app_ok (by rw [List.length_append,List.length_take,List.length_singleton,List.length_drop]; omega),Option.bind_some]
    exact ⟨_,rfl,by rw [List.length_append,List.length_append,List.length_take,List.length_singleton,List.length_drop]; omega⟩
  exact ⟨l,rfl,by omega⟩
theorem fail_loop1 {fu:Nat} (hfu:2097153≤fu) (fs:List Int) (hf:fs.length≤1000):∀ (fk i:Nat) (m:List Int),i≤fs.length→fs.length - i<fk→m.length≤1000 + i→∃ z m',spec_l15Fail_L1 fu fs fk i m=some (z,m')∧m'.length≤m.length + (fs.length - i):=by
  intro fk
  induction fk with
  | zero=>intro i _ _ h; omega
  | succ fk ih =>
    intro i m hi hk hm
    rw [spec_l15Fail_L1]
    by_cases h:i<fs.length
    · obtain ⟨r,r1,r2⟩:=l1Put_ok hfu m fs[i] (by omega)
      rw [if_pos (by simpa using h),idx_in h,Option.bind_some,r1,Option.bind_some,w64_inc h (by omega)]
      obtain ⟨z,m',g1,g2⟩:=ih (i + 1) r h (by omega) (by omega)
      exact ⟨z,m',g1,by omega⟩
    obtain rfl:i=fs.length:=by omega
    rw [if_neg (by simp)]
    exact ⟨_,_,rfl,by omega⟩
theorem atId_mid {A B:List Light} {x:Light} (h:∀ a∈A,a.Id≠x.Id):atId (A++x::B) x.Id=A.length:=by
  unfold atId
  refine findIdx_at (by simp) (fun j hj hji=>?_) (fun hj=>?_)
  · rw [List.getElem_append_left hji,beq_eq_false_iff_ne]
    exact h _ (List.getElem_mem _)
  rw [List.getElem_append_right (Nat.le_refl _)]
  simp
theorem fail_loop2 {fu:Nat} (hfu:2097153≤fu) (r:Restoration) (hp:planOk r.Plan=true) (hN:NetB r.Plan.Network) (fs:List Int) (hf:fs.length≤2097152):∀ (fk i:Nat) (lost:List Int) (A:List Light),i≤r.Plan.Lights.length→r.Plan.Lights.length - i<fk→lost.length≤i→A.length≤i→(∀ a∈A,a.Route.Fibers.length≤100)→(∀ a∈A,∀ j,i≤j→j<r.Plan.Lights.length→a.Id<(gd r.Plan.Lights j l0).Id) →
    ∃ z,spec_l15Fail_L2 fu r fs fk lost i r.Plan.Network.Nodes r.Plan.Network.Fibers (A++r.Plan.Lights.drop i)=some (lost++idsL ((r.Plan.Lights.drop i).filter fun x=>meets x.Route.Fibers fs),z,r.Plan.Network.Nodes,r.Plan.Network.Fibers,A++(r.Plan.Lights.drop i).filter fun x=>!meets x.Route.Fibers fs):=by
  have hF:=planF hp
  have h12:=hF.short
  intro fk
  induction fk with
  | zero=>intro i _ _ _ h; omega
  | succ fk ih =>
    intro i lost A hi hk hlo hA hAr hAi
    rw [spec_l15Fail_L2]
    by_cases h:i<r.Plan.Lights.length
    · obtain ⟨x,ex⟩:∃ x,x=r.Plan.Lights[i]:=⟨_,rfl⟩
      have hx:=hF.light x (by rw [ex]; exact List.getElem_mem h)
      have hxr:=hx.short
      have hxi:x=gd r.Plan.Lights i l0:=by rw [gd_in l0 h,ex]
      have hAx:∀ a∈A,a.Id<x.Id:=fun a ha=>by rw [hxi]; exact hAi a ha i (Nat.le_refl _) h
      have hwi:=w64_inc h (show (r.Plan.Lights.length:Int)≤9223372036854775807 by omega)
      rw [if_pos (by simpa using h),idx_in h,←ex,Option.bind_some,uses_eq hfu x.Route fs (by omega) hf,Option.bind_some,hwi,←List.getElem_cons_drop h,←ex,List.filter_cons,List.filter_cons]
      clear hwi
      cases hm:meets x.Route.Fibers fs
      · rw [if_neg Bool.false_ne_true,if_neg Bool.false_ne_true,if_pos (by decide)]
        have:=ih (i + 1) lost (A++[x]) h (by omega) (by omega) (by simp; omega) (fun a ha=>by
          rcases List.mem_append.1 ha with ha | ha
          · exact hAr a ha
          · rw [List.mem_singleton] at ha; subst ha; omega) (fun a ha j hj hj2=>by
          rcases List.mem_append.1 ha with ha | ha
          · exact hAi a ha j (by omega) hj2
          rw [List.mem_singleton] at ha; subst ha
          rw [hxi]
          exact (planI hp).ids i j (by omega) hj2)
        rw [List.append_assoc,List.singleton_append,List.append_assoc,List.singleton_append] at this
        exact this
      have hall:(A++x::r.Plan.Lights.drop (i + 1)).length=A.length + 1 + (r.Plan.Lights.length - (i + 1)):=by rw [List.length_append,List.length_cons,List.length_drop]; omega
      have hPB:PlanB ⟨r.Plan.Network,A++x::r.Plan.Lights.drop (i + 1)⟩:=⟨hN,by simp only; omega,fun y hy=>by
        rcases List.mem_append.1 hy with hy | hy
        · have:=hAr y hy; omega
        rcases List.mem_cons.1 hy with rfl | hy
        · omega
        have:=(hF.light y (List.mem_of_mem_drop hy)).short; omega⟩
      have hhas:((A++x::r.Plan.Lights.drop (i + 1)).any fun y=>y.Id==x.Id)=true:=List.any_eq_true.2 ⟨x,by simp,by simp⟩
      have hat:=atId_mid (A:=A) (B:=r.Plan.Lights.drop (i + 1)) (x:=x) (fun a ha=>by have:=hAx a ha; omega)
      have hfind:spec_l9Find fu ({ Network:=({ Nodes:=r.Plan.Network.Nodes,Fibers:=r.Plan.Network.Fibers }:Network),Lights:=A++x::r.Plan.Lights.drop (i + 1) }:Plan) x.Id=some ((A.length:Nat):Int):=by
        rw [l9Find_eq _ _ (by simp only; omega) (by simp only; omega)]
        simp only
        rw [if_pos hhas,hat]
      have hwo:spec_l9Without fu ({ Network:=({ Nodes:=r.Plan.Network.Nodes,Fibers:=r.Plan.Network.Fibers }:Network),Lights:=A++x::r.Plan.Lights.drop (i + 1) }:Plan) ((A.length:Nat):Int)=some ⟨r.Plan.Network,A++r.Plan.Lights.drop (i + 1)⟩:=by
        have:=l9Without_eq hfu (⟨r.Plan.Network,A++x::r.Plan.Lights.drop (i + 1)⟩:Plan) hPB (i:=A.length) (by simp only; omega)
        rw [show ((⟨r.Plan.Network,A++x::r.Plan.Lights.drop (i + 1)⟩:Plan).Lights.eraseIdx A.length)=A++r.Plan.Lights.drop (i + 1) by
          show (A++x::r.Plan.Lights.drop (i + 1)).eraseIdx A.length=_
          rw [List.eraseIdx_append_of_length_le (Nat.le_refl _),Nat.sub_self]
          rfl] at this
        exact this
      rw [if_pos rfl,app_ok (by rw [List.length_singleton]; omega),Option.bind_some,hfind,Option.bind_some,hwo,Option.bind_some,if_pos rfl,if_neg (by decide)]
      obtain ⟨z,hz⟩:=ih (i + 1) (lost++[x.Id]) A h (by omega) (by simp; omega) (by omega) hAr (fun a ha j hj hj2=>hAi a ha j (by omega) hj2)
      refine ⟨z,?_⟩
      show spec_l15Fail_L2 fu r fs fk (lost++[x.Id]) ((i + 1:Nat):Int) r.Plan.Network.Nodes r.Plan.Network.Fibers (A++r.Plan.Lights.drop (i + 1))=_
      rw [hz,List.append_assoc,List.singleton_append]
      rfl
    obtain rfl:i=r.Plan.Lights.length:=by omega
    rw [if_neg (by simp),List.drop_length,List.filter_nil,List.filter_nil,List.append_nil,show idsL []=[] from rfl,List.append_nil]
    exact ⟨_,rfl⟩
theorem specFail_ok {fu:Nat} (hfu:2097153≤fu) (r:Restoration) (fs:List Int) (hB:RestB r) (hp:planOk r.Plan=true) (hD:r.Down.length≤1000) (hf:fs.length≤1000):∃ D,spec_l15Fail fu r fs=some (⟨⟨r.Plan.Network,r.Plan.Lights.filter fun x=>!meets x.Route.Fibers fs⟩,r.Home,D⟩,idsL (r.Plan.Lights.filter fun x=>meets x.Route.Fibers fs))∧D.length≤r.Down.length + fs.length:=by
  have h12:=(planF hp).short
  obtain ⟨z,m',g1,g2⟩:=fail_loop1 hfu fs hf fu 0 r.Down (by omega) (by omega) (by omega)
  obtain ⟨z2,hz2⟩:=fail_loop2 hfu r hp hB.1.1 fs (by omega) fu 0 [] [] (by omega) (by omega) (by simp) (by simp) (by simp) (by simp)
  rw [show ((0:Nat):Int)=0 from rfl] at g1 hz2
  rw [List.drop_zero,List.nil_append,List.nil_append,List.nil_append] at hz2
  unfold spec_l15Fail
  rw [l15Own_eq hfu r hB,Option.bind_some,g1,Option.bind_some,hz2]
  exact ⟨m',rfl,by omega⟩
structure NetZ (n:Network):Prop where
  n2:n.Nodes.length≤20
  ns:∀ e∈n.Nodes,e.size≤100
  f2:n.Fibers.length≤20
theorem NetD.z {n:Network} (h:NetD n):NetZ n:=⟨h.n2,h.ns,h.f2⟩
theorem NetZ.B {n:Network} (h:NetZ n):NetB n:=⟨⟨by have:=h.n2; omega,fun e he=>by have:=h.ns e he; omega⟩,by have:=h.f2; omega⟩
structure RestD (r:Restoration):Prop where
  net:NetZ r.Plan.Network
  ll:r.Plan.Lights.length≤40
  lr:∀ x∈r.Plan.Lights,x.Route.Fibers.length≤20
  hl:r.Home.length≤40
  hr:∀ x∈r.Home,x.Route.Fibers.length≤20
  down:r.Down.length≤80
theorem RestD.B {r:Restoration} (h:RestD r):RestB r:=⟨⟨h.net.B,by have:=h.ll; omega,fun x hx=>by have:=h.lr x hx; omega⟩,⟨by have:=h.hl; omega,fun x hx=>by have:=h.hr x hx; omega⟩,by have:=h.down; omega⟩
theorem PlanD.rest {p:Plan} (h:PlanD p) {H:List Light} {D:List Int} (hl:H.length≤40) (hr:∀ x∈H,x.Route.Fibers.length≤20) (hD:D.length≤80):RestD ⟨p,H,D⟩:=⟨h.net.z,by have:=h.ls; simp only; omega,h.rs,hl,hr,hD⟩
theorem one_okR {fu:Nat} {c:L1CurP} {k:Int} (hc:Cur c k) (hk:k≤4611686018427387000) (n:Int) (hn:n≤1099511627776):∃ r c',spec_l1Cur_one fu c n=some (r,c')∧Cur c' (k + 2):=by
  unfold spec_l1Cur_one
  obtain ⟨r,c',g1,-,-,g4⟩:=pick_ok (fu:=fu) hc hk n hn
  rw [g1]
  exact ⟨_,_,rfl,g4⟩
theorem some_loop {fu:Nat} (n:Network) (hn:n.Fibers.length≤100):∀ (fk i:Nat) (o:List Int) (b:List By) (a:Int) (s:U64) (k:Int),i≤n.Fibers.length→n.Fibers.length - i<fk→o.length≤i→Cur ⟨b,a,s⟩ (k + 2 * (i:Int))→k≤800000000 →
    ∃ o' z b' a' s',spec_l1Cur_some15_L1 fu n fk o i b a s=some (o',z,b',a',s')∧o'.length≤n.Fibers.length∧Cur ⟨b',a',s'⟩ (k + 2 * (n.Fibers.length:Int)):=by
  intro fk
  induction fk with
  | zero=>intro i _ _ _ _ _ _ h; omega
  | succ fk ih =>
    intro i o b a s k hi hk ho hc hkk
    rw [spec_l1Cur_some15_L1]
    by_cases h:i<n.Fibers.length
    · obtain ⟨q,c1,g1,k1⟩:=one_okR (fu:=fu) hc (by omega) 4 (by decide)
      rw [if_pos (by simpa using h),g1,Option.bind_some,app_ok (by rw [List.length_singleton]; omega),w64_inc h (by omega)]
      have k1':Cur ⟨c1.code,c1.at_,c1.seed⟩ (k + 2 * ((i + 1:Nat):Int)):=k1.mono (by omega)
      cases q
      · rw [if_neg Bool.false_ne_true]
        exact ih (i + 1) o _ _ _ k h (by omega) (by omega) k1' hkk
      rw [if_pos rfl,Option.bind_some]
      exact ih (i + 1) _ _ _ _ k h (by omega) (by simp; omega) k1' hkk
    obtain rfl:i=n.Fibers.length:=by omega
    rw [if_neg (by simp)]
    exact ⟨_,_,_,_,_,rfl,ho,hc⟩
theorem some_ok {fu:Nat} (hfu:2097153≤fu) {c:L1CurP} {k:Int} (hc:Cur c k) (hk:k≤700000000) {n:Network} (hn:n.Fibers.length≤20):∃ l c',spec_l1Cur_some15 fu c n=some (l,c')∧l.length≤21∧Cur c' (k + 50):=by
  unfold spec_l1Cur_some15
  obtain ⟨o,z,b,a,s,g1,g2,k1⟩:=some_loop (fu:=fu) n (by omega) fu 0 [] c.code c.at_ c.seed k (by omega) (by omega) (by simp) (by simpa using hc) (by omega)
  rw [show ((0:Nat):Int)=0 from rfl] at g1
  obtain ⟨q,c2,g3,k2⟩:=one_okR (fu:=fu) k1 (by omega) 40 (by decide)
  obtain ⟨q3,c3,g4,-,-,k3⟩:=pick_ok (fu:=fu) k2 (by omega) 16 (by decide)
  rw [g1,Option.bind_some,g3,Option.bind_some]
  cases q
  · exact ⟨o,_,rfl,by omega,k2.mono (by omega)⟩
  dsimp only
  rw [if_pos rfl,g4,Option.bind_some,app_ok (by rw [List.length_singleton]; omega),Option.bind_some]
  exact ⟨_,_,rfl,by simp; omega,k3.mono (by omega)⟩
theorem specFibers_eq {fu:Nat} (hfu:2097153≤fu) (r:Restoration) (fs:List Int) (hB:RestB r) (hf:fs.length≤2097152):spec_l15Fibers fu r fs=some (rsOk r&&stOk fs r.Plan.Network.Fibers.length):=by
  unfold spec_l15Fibers
  rw [specRest_eq hfu r hB,Option.bind_some]
  cases rsOk r
  · rfl
  rw [if_pos rfl,specSet_eq hfu fs _ hB.1.1.2 hf]
  rfl
theorem RestF.all {fu:Nat} (hfu:2097200≤fu) {N:Network} {L H:List Light} {D:List Int} (hN:NetZ N) (hH:planOk ⟨N,H⟩=true) (hQ:PlQ L) (hl:L.length≤12) (hD:D.length≤80):∃ L' ids,spec_l15All fu ⟨⟨N,L⟩,H,D⟩=some (⟨⟨N,L'⟩,H,D⟩,ids)∧RestD ⟨⟨N,L'⟩,H,D⟩:=by
  obtain ⟨L',ids,g1,g2,g3⟩:=all_ok hfu N L H D hN.B hH hQ (by omega) (by omega)
  have h12:H.length≤12:=(planF hH).short
  exact ⟨L',ids,g1,⟨hN,by simp only; omega,fun x hx=>(g2 x hx).2,by simp only; omega,fun x hx=>by have:=((planF hH).light x hx).short; omega,hD⟩⟩
theorem rest_loop {fu:Nat} (hfu:2097200≤fu):∀ (fk m:Nat) (b:List By) (a:Int) (s:U64) (r:Restoration) (k:Int),m<fk→m≤4→Cur ⟨b,a,s⟩ (k + 100 * (4 - (m:Int)))→k≤600000000→RestD r →
    ∃ z b' a' s' r',spec_l1Cur_restoration_L1 fu fk m b a s r.Plan.Network.Nodes r.Plan.Network.Fibers r.Plan.Lights r.Home r.Down=some (z,b',a',s',r'.Plan.Network.Nodes,r'.Plan.Network.Fibers,r'.Plan.Lights,r'.Home,r'.Down)∧RestD r'∧Cur ⟨b',a',s'⟩ (k + 400):=by
  intro fk
  induction fk with
  | zero=>intro m _ _ _ _ _ h; omega
  | succ fk ih =>
    intro m b a s r k hm hm4 hc hk hr
    rw [spec_l1Cur_restoration_L1]
    by_cases h:0<m
    · have e:w64 ((m:Int) - 1)=((m - 1:Nat):Int):=w64_dec h (by omega)
      obtain ⟨fs,c1,g1,h1,k1⟩:=some_ok (fu:=fu) (by omega) hc (by omega) (n:=r.Plan.Network) hr.net.f2
      have g1':spec_l1Cur_some15 fu ({ code:=b,at_:=a,seed:=s }:L1CurP) ({ Nodes:=r.Plan.Network.Nodes,Fibers:=r.Plan.Network.Fibers }:Network)=_:=g1
      have g2:=specFibers_eq (fu:=fu) (by omega) r fs hr.B (by omega)
      have g2':spec_l15Fibers fu ({ Plan:=({ Network:=({ Nodes:=r.Plan.Network.Nodes,Fibers:=r.Plan.Network.Fibers }:Network),Lights:=r.Plan.Lights }:Plan),Home:=r.Home,Down:=r.Down }:Restoration) fs=_:=g2
      rw [if_pos (by simpa using h),g1',Option.bind_some,g2',Option.bind_some,e]
      clear e
      cases hok:rsOk r&&stOk fs r.Plan.Network.Fibers.length
      · rw [if_pos (by decide)]
        exact ih (m - 1) _ _ _ r k (by omega) (by omega) (k1.mono (by omega)) hk hr
      rw [Bool.and_eq_true] at hok
      have hF:=restF.1 hok.1
      have h12:r.Plan.Lights.length≤12:=(planF hF.plan).short
      have hdl:=stOk_len hF.down
      have hff:=hr.net.f2
      have hsl:=stOk_len hok.2
      obtain ⟨q,c2,g3,k2⟩:=one_okR (fu:=fu) k1 (by omega) 4 (by decide)
      obtain ⟨q2,c3,g4,k3⟩:=one_okR (fu:=fu) k2 (by omega) 2 (by decide)
      have k3':Cur ⟨c3.code,c3.at_,c3.seed⟩ (k + 100 * (4 - ((m - 1:Nat):Int))):=k3.mono (by omega)
      rw [if_neg (by decide),g3,Option.bind_some]
      cases q
      · obtain ⟨D,g5,h5⟩:=specFail_ok (fu:=fu) (by omega) r fs hr.B hF.plan (by omega) (by omega)
        have g5':spec_l15Fail fu ({ Plan:=({ Network:=({ Nodes:=r.Plan.Network.Nodes,Fibers:=r.Plan.Network.Fibers }:Network),Lights:=r.Plan.Lights }:Plan),Home:=r.Home,Down:=r.Down }:Restoration) fs=_:=g5
        have hLq:PlQ (r.Plan.Lights.filter fun x=>!meets x.Route.Fibers fs):=fun x hx=>plQ_of hF.plan x (List.mem_filter.1 hx).1
        have hLl:(r.Plan.Lights.filter fun x=>!meets x.Route.Fibers fs).length≤12:=Nat.le_trans (List.length_filter_le _ _) h12
        have hH12:r.Home.length≤12:=(planF hF.home).short
        rw [if_neg Bool.false_ne_true,g5',Option.bind_some,g4,Option.bind_some]
        cases q2
        · rw [if_neg Bool.false_ne_true]
          exact ih (m - 1) _ _ _ (⟨⟨r.Plan.Network,r.Plan.Lights.filter fun x=>!meets x.Route.Fibers fs⟩,r.Home,D⟩:Restoration) k (by omega) (by omega) k3' hk ⟨hr.net,by simp only; omega,fun x hx=>(hLq x hx).2,hr.hl,hr.hr,by simp only; omega⟩
        obtain ⟨L',ids,g6,h6⟩:=RestF.all hfu (N:=r.Plan.Network) (L:=r.Plan.Lights.filter fun x=>!meets x.Route.Fibers fs) (H:=r.Home) (D:=D) hr.net hF.home hLq hLl (by omega)
        rw [if_pos rfl,g6,Option.bind_some]
        exact ih (m - 1) _ _ _ _ k (by omega) (by omega) k3' hk h6
      have g5:=specRepair_eq (fu:=fu) (by omega) r fs hr.B (by omega) (by omega)
      have g5':spec_l15Repair fu ({ Plan:=({ Network:=({ Nodes:=r.Plan.Network.Nodes,Fibers:=r.Plan.Network.Fibers }:Network),Lights:=r.Plan.Lights }:Plan),Home:=r.Home,Down:=r.Down }:Restoration) fs=_:=g5
      have hDl:(r.Down.filter fun x=>!fs.any fun y=>y==x).length≤r.Down.length:=List.length_filter_le _ _
      rw [if_pos rfl,g5',Option.bind_some,g4,Option.bind_some]
      cases q2
      · rw [if_neg Bool.false_ne_true]
        exact ih (m - 1) _ _ _ (repd r fs) k (by omega) (by omega) k3' hk ⟨hr.net,hr.ll,hr.lr,hr.hl,hr.hr,by show (r.Down.filter _).length≤80; omega⟩
      obtain ⟨L',ids,g6,h6⟩:=RestF.all hfu (N:=r.Plan.Network) (L:=r.Plan.Lights) (H:=r.Home) (D:=r.Down.filter fun x=>!fs.any fun y=>y==x) hr.net hF.home (plQ_of hF.plan) h12 (by omega)
      have g6':spec_l15All fu (repd r fs)=_:=g6
      rw [if_pos rfl,g6',Option.bind_some]
      exact ih (m - 1) _ _ _ _ k (by omega) (by omega) k3' hk h6
    obtain rfl:m=0:=by omega
    rw [if_neg (by simp)]
    exact ⟨_,_,_,_,r,rfl,hr,hc.mono (by omega)⟩
theorem restoration_ok {fu:Nat} (hfu:2097200≤fu) {c:L1CurP} {k:Int} (hc:Cur c k) (hk:k≤500000000):∃ r c',spec_l1Cur_restoration fu c=some (r,c')∧RestD r∧Cur c' (k + 1500):=by
  unfold spec_l1Cur_restoration spec_StartRestoration
  obtain ⟨p,c1,g1,h1,h2,h3,h4,k1⟩:=plan_ok (fu:=fu) (by omega) hc (by omega)
  obtain ⟨m,c2,g2,p0,p1,k2⟩:=pick_ok (fu:=fu) k1 (by omega) 4 (by decide)
  have p2:=p1 (by decide)
  obtain ⟨m',rfl⟩:=Int.eq_ofNat_of_zero_le p0
  have hB:=h1.B
  have hz:RestD zeroR→∃ z b' a' s' r',spec_l1Cur_restoration_L1 fu fu m' c2.code c2.at_ c2.seed ([]:List ByteArray) ([]:List Fiber) ([]:List Light) ([]:List Light) ([]:List Int)=some (z,b',a',s',r'.Plan.Network.Nodes,r'.Plan.Network.Fibers,r'.Plan.Lights,r'.Home,r'.Down)∧RestD r'∧Cur ⟨b',a',s'⟩ (k + 1002 + 400):=fun hz=>rest_loop hfu fu m' c2.code c2.at_ c2.seed zeroR (k + 1002) (by omega) (by omega) (k2.mono (by omega)) (by omega) hz
  rw [g1,Option.bind_some,specPlan_eq (by omega) p hB,Option.bind_some]
  cases hv:planOk p
  · rw [if_pos (by decide),Option.bind_some,g2,Option.bind_some]
    have hbad:=hz ⟨⟨by simp [zeroR],by simp [zeroR],by simp [zeroR]⟩,by simp [zeroR],by simp [zeroR],by simp [zeroR],by simp [zeroR],by simp [zeroR]⟩
    obtain ⟨z,b',a',s',r',g3,h5,k3⟩:=hbad
    simp only
    rw [g3,Option.bind_some]
    exact ⟨r',_,rfl,h5,k3.mono (by omega)⟩
  have e1:=l9Own_eq (fu:=fu) (by omega) p hB
  have e2:=l15Copy_eq (fu:=fu) (by omega) p.Lights hB.2.1 hB.2.2
  rw [if_neg (by decide),e1,Option.bind_some,e2,Option.bind_some,Option.bind_some,g2,Option.bind_some]
  obtain ⟨z,b',a',s',r',g3,h5,k3⟩:=rest_loop hfu fu m' c2.code c2.at_ c2.seed ⟨p,p.Lights,[]⟩ (k + 1002) (by omega) (by omega) (k2.mono (by omega)) (by omega) (h1.rest (by omega) h1.rs (by simp))
  simp only
  rw [g3,Option.bind_some]
  exact ⟨r',_,rfl,h5,k3.mono (by omega)⟩
theorem anyRestoration_ok {fu:Nat} (hfu:2097200≤fu) {c:L1CurP} {k:Int} (hc:Cur c k) (hk:k≤400000000):∃ r c',spec_l1Cur_anyRestoration fu c=some (r,c')∧NetZ r.Plan.Network∧RestB r∧Cur c' (k + 6000):=by
  unfold spec_l1Cur_anyRestoration
  obtain ⟨r,c1,g1,h1,k1⟩:=restoration_ok hfu hc (by omega)
  obtain ⟨q,c2,g2,-,-,k2⟩:=pick_ok (fu:=fu) k1 (by omega) 30 (by decide)
  have hB:=h1.B
  have hd:=h1.down
  rw [g1,Option.bind_some,g2,Option.bind_some]
  dsimp only
  split
  · obtain ⟨q3,c3,g3,-,-,k3⟩:=pick_ok (fu:=fu) k2 (by omega) 16 (by decide)
    rw [g3,Option.bind_some,app_ok (by rw [List.length_singleton]; omega),Option.bind_some]
    exact ⟨_,_,rfl,h1.net,⟨hB.1,hB.2.1,by simp; omega⟩,k3.mono (by omega)⟩
  split
  · obtain ⟨p,c3,g3,h3,k3⟩:=anyPlan_ok (fu:=fu) (by omega) k2 (by omega)
    rw [g3,Option.bind_some]
    exact ⟨_,_,rfl,h3.net.z,⟨h3.B,hB.2⟩,k3.mono (by omega)⟩
  split
  · by_cases h0:0<r.Home.length
    · have hs:sub r.Home 1 (r.Home.length:Int)=some (r.Home.drop 1):=by
        unfold sub
        rw [if_pos (by omega)]
        simp
      rw [if_pos (by simpa using h0),hs,Option.bind_some]
      refine ⟨_,_,rfl,h1.net,⟨hB.1,⟨?_,fun x hx=>hB.2.1.2 x (List.mem_of_mem_drop hx)⟩,hB.2.2⟩,k2.mono (by omega)⟩
      have:=hB.2.1.1
      simp only [List.length_drop]
      omega
    rw [if_neg (by simpa using h0)]
    exact ⟨_,_,rfl,h1.net,hB,k2.mono (by omega)⟩
  split
  · by_cases h0:0<r.Plan.Lights.length
    · obtain ⟨e,he,hem⟩:=idx_some (l:=r.Plan.Lights) (i:=0) (Int.le_refl _) (by omega)
      obtain ⟨q3,c3,g3,-,-,k3⟩:=pick_ok (fu:=fu) k2 (by omega) 3 (by decide)
      rw [if_pos (by simpa using h0),he,Option.bind_some,g3,Option.bind_some,Option.bind_some]
      refine ⟨_,_,rfl,h1.net,⟨⟨hB.1.1,by simp only [List.length_set]; exact hB.1.2.1,fun x hx=>?_⟩,hB.2⟩,k3.mono (by omega)⟩
      rcases List.mem_or_eq_of_mem_set hx with hx | rfl
      · exact hB.1.2.2 x hx
      exact hB.1.2.2 e hem
    rw [if_neg (by simpa using h0)]
    exact ⟨_,_,rfl,h1.net,hB,k2.mono (by omega)⟩
  exact ⟨_,_,rfl,h1.net,hB,k2.mono (by omega)⟩
theorem drawRevert {fu:Nat} (hfu:2097200≤fu) {x:List By} (hc:Cur ⟨x,0,⟨0⟩⟩ 0):∃ r,spec_DrawRevertLights fu x=some r∧RestB r:=by
  unfold spec_DrawRevertLights
  obtain ⟨r,c1,g1,h1,hB,k1⟩:=anyRestoration_ok hfu hc (by omega)
  obtain ⟨q,c2,g2,k2⟩:=one_okR (fu:=fu) k1 (by omega) 2 (by decide)
  rw [g1,Option.bind_some,specRest_eq (by omega) r hB,Option.bind_some]
  cases hv:rsOk r
  · exact ⟨r,rfl,hB⟩
  have hF:=restF.1 hv
  have h12:r.Plan.Lights.length≤12:=(planF hF.plan).short
  have h12':r.Home.length≤12:=(planF hF.home).short
  have hdl:=stOk_len hF.down
  have hff:=h1.f2
  rw [if_pos rfl,g2,Option.bind_some]
  cases q
  · exact ⟨r,rfl,hB⟩
  obtain ⟨L',ids,g3,g4,g5⟩:=all_ok hfu r.Plan.Network r.Plan.Lights r.Home r.Down hB.1.1 hF.home (plQ_of hF.plan) (by omega) (by omega)
  obtain ⟨fs,c3,g6,h6,k3⟩:=some_ok (fu:=fu) (by omega) k2 (by omega) (n:=r.Plan.Network) h1.f2
  have g3':spec_l15All fu r=_:=g3
  have hB2:RestB ⟨⟨r.Plan.Network,L'⟩,r.Home,r.Down⟩:=⟨⟨hB.1.1,by simp only; omega,fun y hy=>by have:=(g4 y hy).2; omega⟩,hB.2⟩
  have g7:=specRepair_eq (fu:=fu) (by omega) _ fs hB2 (show r.Down.length≤1000 by omega) (by omega)
  rw [if_pos rfl,g3',Option.bind_some]
  dsimp only
  rw [g6,Option.bind_some,g7,Option.bind_some]
  exact ⟨_,rfl,⟨hB2.1,hB2.2.1,Nat.le_trans (List.length_filter_le _ _) hB2.2.2⟩⟩
end AT
