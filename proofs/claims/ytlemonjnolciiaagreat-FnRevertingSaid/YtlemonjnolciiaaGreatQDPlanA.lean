/- Restorations, plainly: ends of routes, sets of fibers, validity. -/
import Derived.Test.YtlemonjnolciiaaGreatQRv
import Derived.Test.YtlemonjnolciiaaGreatOk
import Derived.Test.YtlemonjnolciiaaGreatAtL
set_option linter.unusedSimpArgs false
set_option linter.unusedVariables false
namespace AT
def endR (n:Network) (r:Route):Int:=match rnodes n r with | some o=>gl o | none=>0
theorem idx_last {o:List Int} (h:0<o.length) (h2:o.length≤4194304):idx o (w64 ((o.length:Int) - 1))=some (gl o):=by
  rw [show w64 ((o.length:Int) - 1)=((o.length - 1:Nat):Int) by rw [w64_in (by omega) (by omega)]; omega,idx_gd 0 (by omega)]; rfl
theorem specEnd_eq {fu:Nat} (hfu:2097153≤fu) (n:Network) (r:Route) (hB:NetB n) (hr:r.Fibers.length≤2097152) (ho:(rnodes n r).isSome=true):spec_l4End fu n r=some (endR n r):=by
  obtain ⟨o,h⟩:=Option.isSome_iff_exists.1 ho
  obtain ⟨o',hw⟩:=walk_eq hfu n r hB.2 hB.1.1 hr
  have hl:=rnodes_len h
  unfold spec_l4End spec_l4Nodes endR
  rw [hw,h,Option.bind_some,Option.bind_some]
  show ((idx o (w64 ((o.length:Int) - 1))).bind _)=_
  rw [idx_last (by omega) (by omega)]
  rfl
theorem implEnd_eq {fu:Nat} (hfu:2097153≤fu) (n:Network) (r:Route) (hB:NetB n) (hr:r.Fibers.length≤2097152) (ho:(rnodes n r).isSome=true):impl_endOf fu n r=some (endR n r):=by
  obtain ⟨o,h⟩:=Option.isSome_iff_exists.1 ho
  have hl:=rnodes_len h
  unfold impl_endOf endR
  rw [visited_eq hfu n r hB.2 hB.1.1 hr,h,Option.bind_some]
  show ((idx o (w64 ((o.length:Int) - 1))).bind _)=_
  rw [idx_last (by omega) (by omega)]
  rfl
def stBad (l:List Int) (hi:Int) (i:Nat):Bool:=!(decide (0≤gd l i 0)&&decide (gd l i 0≤hi))||(decide (0<i)&&decide (gd l (i - 1) 0≥gd l i 0))
def stOk (l:List Int) (m:Nat):Bool:=!((List.range l.length).any (stBad l ((m:Int) - 1)))
theorem implSet_eq {fu:Nat} (hfu:2097153≤fu) (l:List Int) (m:Nat) (hm:m≤2097152) (hn:l.length≤2097152):impl_isSet fu l (m:Int)=some (stOk l m):=by
  unfold impl_isSet stOk
  rw [scan_all (l:=List.range l.length) (G:=impl_isSet_L1 fu l (m:Int)) (stBad l ((m:Int) - 1)) (fun i=>false) (by simp; omega)
    (fun fk i hk=>by
      have hi':i<l.length:=by simpa using hk
      rw [impl_isSet_L1,if_pos (by simpa using hi'),idx_gd 0 hi',List.getElem_range,w64_in (n:=(m:Int) - 1) (by omega) (by omega)]
      obtain ⟨b1,h1⟩:∃ b,b=(decide (0≤gd l i 0)&&decide (gd l i 0≤(m:Int) - 1)):=⟨_,rfl⟩
      simp only [Option.bind_some,within_eq,stBad,←h1]
      cases b1
      · rfl
      by_cases h0:0<i
      · rw [w64_dec h0 (by omega),idx_gd 0 (show i - 1<l.length by omega)]
        simp [h0]
      simp [h0])
    (fun fk=>by rw [List.length_range,impl_isSet_L1,if_neg (by simp)]) fu (by simp; omega)]
  cases (List.range l.length).any (stBad l ((m:Int) - 1)) <;> rfl
theorem specSet_eq {fu:Nat} (hfu:2097153≤fu) (l:List Int) (m:Nat) (hm:m≤2097152) (hn:l.length≤2097152):spec_l1Rising fu l 0 (w64 ((m:Int) - 1))=some (stOk l m):=by
  rw [w64_in (n:=(m:Int) - 1) (by omega) (by omega)]
  unfold spec_l1Rising stOk
  rw [scan_all (l:=List.range l.length) (G:=spec_l1Rising_L1 fu l 0 ((m:Int) - 1)) (stBad l ((m:Int) - 1)) (fun i=>false) (by simp; omega)
    (fun fk i hk=>by
      have hi':i<l.length:=by simpa using hk
      rw [spec_l1Rising_L1,if_pos (by simpa using hi'),idx_gd 0 hi',List.getElem_range]
      obtain ⟨b1,h1⟩:∃ b,b=(decide (0≤gd l i 0)&&decide (gd l i 0≤(m:Int) - 1)):=⟨_,rfl⟩
      simp only [Option.bind_some,l1In_eq,stBad,←h1]
      cases b1
      · rfl
      by_cases h0:0<i
      · rw [w64_dec h0 (by omega),idx_gd 0 (show i - 1<l.length by omega)]
        simp [h0]
      simp [h0])
    (fun fk=>by rw [List.length_range,spec_l1Rising_L1,if_neg (by simp)]) fu (by simp; omega)]
  cases (List.range l.length).any (stBad l ((m:Int) - 1)) <;> rfl
theorem stOk_iff {l:List Int} {m:Nat}:stOk l m=true↔(∀ x∈l,0≤x∧x<(m:Int))∧l.Pairwise (·<·):=by
  unfold stOk
  rw [Bool.not_eq_true',Bool.eq_false_iff]
  constructor
  · intro h
    have hb:∀ i,i<l.length→stBad l ((m:Int) - 1) i=false:=fun i hi=>by
      rw [Bool.eq_false_iff]; exact fun h7=>h (List.any_eq_true.2 ⟨i,List.mem_range.2 hi,h7⟩)
    have h1:∀ i,i<l.length→(0≤gd l i 0∧gd l i 0<(m:Int))∧(0<i→gd l (i - 1) 0<gd l i 0):=fun i hi=>by
      have:=hb i hi
      unfold stBad at this
      simp only [Bool.or_eq_false_iff,Bool.not_eq_false',Bool.and_eq_true,decide_eq_true_eq,Bool.and_eq_false_iff,decide_eq_false_iff_not] at this
      refine ⟨by omega,fun h0=>?_⟩
      rcases this.2 with h3 | h3
      · exact absurd h0 h3
      omega
    have up:∀ j i,i<j→j<l.length→gd l i 0<gd l j 0:=by
      intro j
      induction j with
      | zero=>intro i h; omega
      | succ j ih =>
        intro i hi hj
        have h2:=(h1 (j + 1) hj).2 (by omega)
        rw [Nat.add_sub_cancel] at h2
        rcases Nat.lt_or_ge i j with h3 | h3
        · have:=ih i h3 (by omega); omega
        obtain rfl:i=j:=by omega
        exact h2
    refine ⟨fun x hx=>?_,List.pairwise_iff_getElem.2 fun i j hi hj hij=>?_⟩
    · obtain ⟨i,hi,rfl⟩:=List.mem_iff_getElem.1 hx
      have:=(h1 i hi).1
      rwa [gd_in 0 hi] at this
    have:=up j i hij hj
    rwa [gd_in 0 hi,gd_in 0 hj] at this
  rintro ⟨h1,h2⟩ h
  obtain ⟨i,hi,hb⟩:=List.any_eq_true.1 h
  have hi':=List.mem_range.1 hi
  have h3:=h1 _ (gd_mem 0 hi')
  unfold stBad at hb
  simp only [Bool.or_eq_true,Bool.not_eq_true',Bool.and_eq_true,decide_eq_true_eq,Bool.and_eq_false_iff,decide_eq_false_iff_not] at hb
  rcases hb with hb | ⟨h0,hb⟩
  · omega
  rw [List.pairwise_iff_getElem] at h2
  have:=h2 (i - 1) i (by omega) hi' (by omega)
  rw [gd_in 0 hi',gd_in 0 (show i - 1<l.length by omega)] at hb
  omega
theorem stOk_len {l:List Int} {m:Nat} (h:stOk l m=true):l.length≤m:=by
  obtain ⟨h1,h2⟩:=stOk_iff.1 h
  refine short_of m l (h2.imp fun h=>?_) h1
  simp only [ne_eq] at *
  omega
def rsBad (r:Restoration) (x:Light):Bool:=(!hasL r.Home x.Id||meets x.Route.Fibers r.Down)||(x.Route.Start != (homeI r.Home x.Id).Route.Start||(endR r.Plan.Network x.Route != endR r.Plan.Network (homeI r.Home x.Id).Route||x.Block.Count != (homeI r.Home x.Id).Block.Count))
def rsOk (r:Restoration):Bool:=planOk r.Plan&&(planOk ⟨r.Plan.Network,r.Home⟩&&(stOk r.Down r.Plan.Network.Fibers.length&&!r.Plan.Lights.any (rsBad r)))
def RestB (r:Restoration):Prop:=PlanB r.Plan∧(r.Home.length≤2097152∧∀ x∈r.Home,x.Route.Fibers.length≤2097152)∧r.Down.length≤2097152
theorem RestB.home {r:Restoration} (h:RestB r):PlanB ⟨r.Plan.Network,r.Home⟩:=⟨h.1.1,h.2.1.1,h.2.1.2⟩
theorem l15Find_eq {fu:Nat} (H:List Light) (id:Int) (h:H.length<fu) (hn:H.length≤2097152):spec_l15Find fu H id=some (if hasL H id=true then ((atId H id:Nat):Int) else -1):=by
  unfold spec_l15Find
  rw [scan_all (l:=H) (G:=spec_l15Find_L1 fu H id) (fun y=>y.Id==id) (fun i=>(i:Int)) (by omega)
    (fun fk i hi=>by
      have h':(i:Int)<(H.length:Int):=by omega
      rw [spec_l15Find_L1]
      simp only [h',decide_true,if_true,idx_in hi,Option.bind_some])
    (fun fk=>by rw [spec_l15Find_L1,if_neg (by simp)]) fu h]
  unfold atId hasL
  cases H.any fun y=>y.Id==id <;> rfl
theorem homeOf_eq {fu:Nat} (r:Restoration) (id:Int) (h:r.Home.length<fu) (hn:r.Home.length≤2097152):impl_homeOf fu r id=some (if hasL r.Home id=true then ((atId r.Home id:Nat):Int) else -1):=by
  unfold impl_homeOf slices_IndexFunc_impl_Light_impl_Light_of_homeOf_c1
  rw [scan_all (l:=r.Home) (G:=slices_IndexFunc_impl_Light_impl_Light_of_homeOf_c1_L1 fu r.Home id) (fun y=>y.Id==id) (fun i=>(i:Int)) (by omega)
    (fun fk i hi=>by
      have h':(i:Int)<(r.Home.length:Int):=by omega
      rw [slices_IndexFunc_impl_Light_impl_Light_of_homeOf_c1_L1]
      simp only [h',decide_true,if_true,idx_in hi,Option.bind_some,impl_homeOf_c1])
    (fun fk=>by rw [slices_IndexFunc_impl_Light_impl_Light_of_homeOf_c1_L1,if_neg (by simp)]) fu h]
  unfold atId hasL
  cases r.Home.any fun y=>y.Id==id <;> rfl
theorem neg1:decide ((-1:Int)<0)=true:=rfl
theorem homeI_F {r:Restoration} (hH:planOk ⟨r.Plan.Network,r.Home⟩=true) {id:Int} (h:hasL r.Home id=true):LightF r.Plan.Network (homeI r.Home id):=(planF hH).light _ (homeI_mem h)
theorem specRest_eq {fu:Nat} (hfu:2097153≤fu) (r:Restoration) (hB:RestB r):spec_l15Good fu r=some (rsOk r):=by
  have hN:=hB.1.1
  unfold spec_l15Good rsOk
  rw [specPlan_eq hfu r.Plan hB.1,Option.bind_some]
  cases hp:planOk r.Plan
  · rfl
  rw [if_neg (by decide),specPlan_eq hfu _ hB.home,Option.bind_some]
  cases hh:planOk ⟨r.Plan.Network,r.Home⟩
  · rfl
  rw [if_neg (by decide),specSet_eq hfu _ _ hN.2 hB.2.2,Option.bind_some]
  cases hs:stOk r.Down r.Plan.Network.Fibers.length
  · rfl
  rw [Option.bind_some,if_neg (by decide)]
  have hF:=planF hp
  rw [scan_all (l:=r.Plan.Lights) (G:=spec_l15Good_L1 fu r) (rsBad r) (fun _=>false) (by have:=hF.short; omega)
    (fun fk i hi=>by
      have h':(i:Int)<(r.Plan.Lights.length:Int):=by omega
      have hx:=hF.light _ (List.getElem_mem hi)
      have hxr:=hx.short
      obtain ⟨x,ex⟩:∃ x,x=r.Plan.Lights[i]:=⟨_,rfl⟩
      rw [←ex] at hx hxr
      rw [spec_l15Good_L1]
      simp only [h',decide_true,if_true,idx_in hi,←ex,Option.bind_some,l15Find_eq r.Home x.Id (show r.Home.length<fu by have:=hB.2.1.1; omega) hB.2.1.1,uses_eq hfu x.Route r.Down (by omega) hB.2.2]
      unfold rsBad
      cases hid:hasL r.Home x.Id
      · simp only [Bool.false_eq_true,if_false,neg1,if_true,Option.bind_some,Bool.not_false,Bool.true_or]
      simp only [if_true,not_neg_nat,Bool.false_eq_true,if_false,Option.bind_some,Bool.not_true,Bool.false_or]
      cases hm:meets x.Route.Fibers r.Down
      · have hy:=homeI_F hh hid
        have hyr:=hy.short
        obtain ⟨o1,ho1⟩:=hx.route
        obtain ⟨o2,ho2⟩:=hy.route
        have e2:idx r.Home ((atId r.Home x.Id:Nat):Int)=some (homeI r.Home x.Id):=idx_gd l0 (atId_lt hid)
        rw [if_neg (by decide),e2,Option.bind_some,specEnd_eq hfu _ x.Route hN (by omega) (by rw [ho1]; rfl),specEnd_eq hfu _ (homeI r.Home x.Id).Route hN (by omega) (by rw [ho2]; rfl)]
        simp only [Option.bind_some]
        cases h1:x.Route.Start != (homeI r.Home x.Id).Route.Start <;> cases h2:endR r.Plan.Network x.Route != endR r.Plan.Network (homeI r.Home x.Id).Route <;> simp
      simp)
    (fun fk=>by rw [spec_l15Good_L1,if_neg (by simp)]) fu (by have:=hF.short; omega)]
  cases r.Plan.Lights.any (rsBad r) <;> rfl
theorem implRest_eq {fu:Nat} (hfu:2097153≤fu) (r:Restoration) (hB:RestB r):impl_IsValidRestoration fu r=some (rsOk r):=by
  have hN:=hB.1.1
  unfold impl_IsValidRestoration rsOk
  rw [implPlan_eq hfu r.Plan hB.1,Option.bind_some]
  cases hp:planOk r.Plan
  · rfl
  rw [if_neg (by decide),implPlan_eq hfu _ hB.home,Option.bind_some]
  cases hh:planOk ⟨r.Plan.Network,r.Home⟩
  · rfl
  rw [if_neg (by decide),implSet_eq hfu _ _ hN.2 hB.2.2,Option.bind_some]
  cases hs:stOk r.Down r.Plan.Network.Fibers.length
  · rfl
  rw [Option.bind_some,if_neg (by decide)]
  have hF:=planF hp
  unfold slices_ContainsFunc_impl_Light_impl_Light_of_IsValidRestoration_c1 slices_IndexFunc_impl_Light_impl_Light_of_IsValidRestoration_c1
  rw [scan_all (l:=r.Plan.Lights) (G:=slices_IndexFunc_impl_Light_impl_Light_of_IsValidRestoration_c1_L1 fu r.Plan.Lights r r.Plan.Network) (rsBad r) (fun i=>(i:Int)) (by have:=hF.short; omega)
    (fun fk i hi=>by
      have h':(i:Int)<(r.Plan.Lights.length:Int):=by omega
      have hx:=hF.light _ (List.getElem_mem hi)
      have hxr:=hx.short
      obtain ⟨x,ex⟩:∃ x,x=r.Plan.Lights[i]:=⟨_,rfl⟩
      rw [←ex] at hx hxr
      obtain ⟨c,hc,hd⟩:=common_ok (fu:=fu) x.Route.Fibers r.Down (by omega) hx.nodup hB.2.2 hfu
      rw [slices_IndexFunc_impl_Light_impl_Light_of_IsValidRestoration_c1_L1]
      simp only [h',decide_true,if_true,idx_in hi,←ex,Option.bind_some,impl_IsValidRestoration_c1,homeOf_eq r x.Id (show r.Home.length<fu by have:=hB.2.1.1; omega) hB.2.1.1,hc,hd]
      unfold rsBad
      cases hid:hasL r.Home x.Id
      · simp only [Bool.false_eq_true,if_false,neg1,if_true,Option.bind_some,Bool.not_false,Bool.true_or]
      simp only [if_true,not_neg_nat,Bool.false_eq_true,if_false,Option.bind_some,Bool.not_true,Bool.false_or]
      cases hm:meets x.Route.Fibers r.Down
      · have hy:=homeI_F hh hid
        have hyr:=hy.short
        obtain ⟨o1,ho1⟩:=hx.route
        obtain ⟨o2,ho2⟩:=hy.route
        have e2:idx r.Home ((atId r.Home x.Id:Nat):Int)=some (homeI r.Home x.Id):=idx_gd l0 (atId_lt hid)
        have q1:((homeI r.Home x.Id).Route.Start != x.Route.Start)=(x.Route.Start != (homeI r.Home x.Id).Route.Start):=by rw [bne,bne,Bool.beq_comm]
        have q2:(endR r.Plan.Network (homeI r.Home x.Id).Route != endR r.Plan.Network x.Route)=(endR r.Plan.Network x.Route != endR r.Plan.Network (homeI r.Home x.Id).Route):=by rw [bne,bne,Bool.beq_comm]
        have q3:((homeI r.Home x.Id).Block.Count != x.Block.Count)=(x.Block.Count != (homeI r.Home x.Id).Block.Count):=by rw [bne,bne,Bool.beq_comm]
        rw [if_neg (by decide),e2,Option.bind_some,implEnd_eq hfu _ x.Route hN (by omega) (by rw [ho1]; rfl),implEnd_eq hfu _ (homeI r.Home x.Id).Route hN (by omega) (by rw [ho2]; rfl)]
        simp only [Option.bind_some,q1,q2,q3]
        cases h1:x.Route.Start != (homeI r.Home x.Id).Route.Start <;> cases h2:endR r.Plan.Network x.Route != endR r.Plan.Network (homeI r.Home x.Id).Route <;> simp
      simp)
    (fun fk=>by rw [slices_IndexFunc_impl_Light_impl_Light_of_IsValidRestoration_c1_L1,if_neg (by simp)]) fu (by have:=hF.short; omega)]
  cases r.Plan.Lights.any (rsBad r) <;> simp [Out.on]
theorem l15Copy_loop {fu:Nat} (L:List Light) (hl:L.length≤2097152) (hr:∀ x∈L,x.Route.Fibers.length≤2097152):∀ (fk i:Nat) (m:List Light),i≤L.length→L.length - i<fk→m.length≤i→∃ z,spec_l15Copy_L1 fu L fk m i=some (m++L.drop i,z):=by
  intro fk
  induction fk with
  | zero=>intro i _ _ h; omega
  | succ fk ih =>
    intro i m hi hk hm
    rw [spec_l15Copy_L1]
    by_cases h:i<L.length
    · have h':(i:Int)<(L.length:Int):=by omega
      simp only [h',decide_true,if_true,idx_in h,Option.bind_some,l9Copy_eq fu _ (hr _ (List.getElem_mem h))]
      rw [app_ok (by simp; omega),Option.bind_some,w64_inc h (by omega)]
      obtain ⟨z,hz⟩:=ih (i + 1) (m++[L[i]]) h (by omega) (by simp; omega)
      refine ⟨z,?_⟩
      rw [hz,List.append_assoc,←List.getElem_cons_drop h]
      rfl
    obtain rfl:i=L.length:=by omega
    rw [if_neg (by simp),List.drop_length,List.append_nil]
    exact ⟨_,rfl⟩
theorem l15Copy_eq {fu:Nat} (hfu:2097153≤fu) (L:List Light) (hl:L.length≤2097152) (hr:∀ x∈L,x.Route.Fibers.length≤2097152):spec_l15Copy fu L=some L:=by
  unfold spec_l15Copy
  obtain ⟨z,hz⟩:=l15Copy_loop (fu:=fu) L hl hr fu 0 [] (by omega) (by omega) (by simp)
  rw [show ((0:Nat):Int)=0 from rfl] at hz
  rw [hz]; rfl
theorem l1Own_eqR (fu:Nat) (l:List Int) (h:l.length≤2097152):spec_l1Own fu l=some l:=by
  unfold spec_l1Own
  rw [app_nil (by omega)]; rfl
theorem l15Own_eq {fu:Nat} (hfu:2097153≤fu) (r:Restoration) (hB:RestB r):spec_l15Own fu r=some r:=by
  unfold spec_l15Own
  rw [l9Own_eq hfu _ hB.1,Option.bind_some,l15Copy_eq hfu _ hB.2.1.1 hB.2.1.2,Option.bind_some,l1Own_eqR fu _ hB.2.2]
  rfl
theorem copyRest_eq {fu:Nat} (hfu:2097153≤fu) (r:Restoration) (hB:RestB r):impl_copyRestoration fu r=some r:=by
  have hz:PlanB ⟨⟨[],[]⟩,r.Home⟩:=⟨⟨⟨by simp,by simp⟩,by simp⟩,hB.2.1.1,hB.2.1.2⟩
  have hd:app ([]:List Int) r.Down=some r.Down:=app_nil (by have:=hB.2.2; omega)
  unfold impl_copyRestoration impl_copyInts
  rw [copyPlan_eq hfu _ hB.1,Option.bind_some,copyPlan_eq hfu _ hz,Option.bind_some,hd]
  rfl
def zeroR:Restoration:=⟨⟨⟨[],[]⟩,[]⟩,[],[]⟩
structure RestF (r:Restoration):Prop where
  plan:planOk r.Plan=true
  home:planOk ⟨r.Plan.Network,r.Home⟩=true
  down:stOk r.Down r.Plan.Network.Fibers.length=true
  each:∀ x∈r.Plan.Lights,rsBad r x=false
theorem restF {r:Restoration}:rsOk r=true↔RestF r:=by
  unfold rsOk
  rw [Bool.and_eq_true,Bool.and_eq_true,Bool.and_eq_true,Bool.not_eq_true']
  constructor
  · rintro ⟨a,b,c,d⟩
    refine ⟨a,b,c,fun x hx=>?_⟩
    rw [Bool.eq_false_iff] at d ⊢
    exact fun h=>d (List.any_eq_true.2 ⟨x,hx,h⟩)
  rintro ⟨a,b,c,d⟩
  refine ⟨a,b,c,?_⟩
  rw [Bool.eq_false_iff]
  intro h
  obtain ⟨x,hx,hc⟩:=List.any_eq_true.1 h
  rw [d x hx] at hc
  cases hc
theorem rsBad_iff {r:Restoration} {x:Light}:rsBad r x=false↔hasL r.Home x.Id=true∧meets x.Route.Fibers r.Down=false∧x.Route.Start=(homeI r.Home x.Id).Route.Start∧endR r.Plan.Network x.Route=endR r.Plan.Network (homeI r.Home x.Id).Route∧x.Block.Count=(homeI r.Home x.Id).Block.Count:=by
  unfold rsBad
  simp only [Bool.or_eq_false_iff,Bool.not_eq_false',bne_eq_false_iff_eq,and_assoc]
theorem RestF.sub {r:Restoration} (h:RestF r):∀ id,hasL r.Plan.Lights id=true→hasL r.Home id=true:=by
  intro id hid
  obtain ⟨x,hx,he⟩:=List.any_eq_true.1 hid
  rw [beq_iff_eq] at he
  rw [←he]
  exact (rsBad_iff.1 (h.each x hx)).1
end AT
namespace AT
theorem isOpen_eq {fu:Nat} (hfu:2097153≤fu) (r:Restoration) (x:Light) {n:Network} (hL:r.Plan.Lights.length≤2097152) (hp:∀ y∈r.Plan.Lights,LightF n y) (hx:LightF n x) (hD:r.Down.length≤2097152):impl_isOpen fu r x=some (!meets x.Route.Fibers r.Down&&freeL r.Plan.Lights x):=by
  have hxr:=hx.short
  obtain ⟨c,hc,hd⟩:=common_ok (fu:=fu) x.Route.Fibers r.Down (by omega) hx.nodup hD hfu
  unfold impl_isOpen slices_ContainsFunc_impl_Light_impl_Light_of_isOpen_c1 slices_IndexFunc_impl_Light_impl_Light_of_isOpen_c1
  rw [hc,Option.bind_some]
  have e:((c.length:Int)==0)=!meets x.Route.Fibers r.Down:=by
    rw [←hd,Bool.eq_iff_iff,beq_iff_eq,Bool.not_eq_true',decide_eq_false_iff_not]
    omega
  rw [e]
  cases meets x.Route.Fibers r.Down
  · rw [if_pos (by decide),scan_all (l:=r.Plan.Lights) (G:=slices_IndexFunc_impl_Light_impl_Light_of_isOpen_c1_L1 fu r.Plan.Lights x) (fun own=>own.Id != x.Id&&coll own x) (fun i=>(i:Int)) (by omega)
      (fun fk i hi=>by
        have h':(i:Int)<(r.Plan.Lights.length:Int):=by omega
        rw [slices_IndexFunc_impl_Light_impl_Light_of_isOpen_c1_L1]
        simp only [h',decide_true,if_true,idx_in hi,Option.bind_some,impl_isOpen_c1,collide_eq hfu (hp _ (List.getElem_mem hi)) hx]
        cases r.Plan.Lights[i].Id != x.Id <;> simp)
      (fun fk=>by rw [slices_IndexFunc_impl_Light_impl_Light_of_isOpen_c1_L1,if_neg (by simp)]) fu (by omega)]
    unfold freeL
    cases r.Plan.Lights.any fun own=>own.Id != x.Id&&coll own x <;> simp [Out.on]
  rfl
theorem same_eq {fu:Nat} (hfu:2097153≤fu) (x y:Light) (hx:x.Route.Fibers.length≤2097152) (hid:x.Id=y.Id):(if (x.Route.Start==y.Route.Start)=true then (slices_Equal_int_int fu x.Route.Fibers y.Route.Fibers).bind fun y4=>if y4=true then some (([x.Block.First,x.Block.Count]:List Int)==([y.Block.First,y.Block.Count]:List Int)) else some false else some false)=some (decide (x=y)):=by
  rw [equalI_eq hfu _ _ hx]
  have e:=light_ext x y
  by_cases h2:x.Route.Start=y.Route.Start <;> by_cases h3:x.Route.Fibers=y.Route.Fibers <;> by_cases h4:x.Block.First=y.Block.First <;> by_cases h5:x.Block.Count=y.Block.Count <;> simp [hid,h2,h3,h4,h5,e]
theorem sameS_eq {fu:Nat} (hfu:2097153≤fu) (x y:Light) (hx:x.Route.Fibers.length≤2097152):spec_l15SameLight fu x y=some (decide (x=y)):=by
  unfold spec_l15SameLight spec_l4Same
  rw [l1Same_eq hfu _ _ hx]
  have e:=light_ext x y
  by_cases h1:x.Id=y.Id <;> by_cases h2:x.Route.Start=y.Route.Start <;> by_cases h3:x.Route.Fibers=y.Route.Fibers <;> by_cases h4:x.Block.First=y.Block.First <;> by_cases h5:x.Block.Count=y.Block.Count <;> simp [h1,h2,h3,h4,h5,e]
theorem gd_idsD {L:List Light} {i:Nat} (h:i<L.length):(idsL L).drop i=(gd L i l0).Id::(idsL L).drop (i + 1):=by
  rw [←List.getElem_cons_drop (as:=idsL L) (h:=by rw [idsL_len]; exact h)]
  congr 1
  rw [gd_idsL h,gd_in 0]
theorem idsL_dropN (L:List Light):(idsL L).drop L.length=[]:=by rw [←idsL_len,List.drop_length]
theorem implRev_loop {fu:Nat} (hfu:2097153≤fu) (r:Restoration) (hB:RestB r) (hh:planOk ⟨r.Plan.Network,r.Home⟩=true) (hs:∀ id,hasL r.Plan.Lights id=true→hasL r.Home id=true) (h12:r.Plan.Lights.length≤12):∀ (fk i:Nat) (s:List Light×List Int),RvI r.Plan.Network r.Down r.Home r.Plan.Lights s→i≤r.Plan.Lights.length→r.Plan.Lights.length - i<fk→s.2.length≤i →
    ∃ z,impl_RevertLights_L1 fu r fk s.2 i s.1=some ((rev r.Down r.Home ((idsL r.Plan.Lights).drop i) s).2,z,(rev r.Down r.Home ((idsL r.Plan.Lights).drop i) s).1):=by
  intro fk
  induction fk with
  | zero=>intro i _ _ _ h; omega
  | succ fk ih =>
    intro i s hI hi hk hsl
    rw [impl_RevertLights_L1]
    by_cases h:i<r.Plan.Lights.length
    · have hlen:=hI.len
      have h':(i:Int)<(r.Plan.Lights.length:Int):=by omega
      have hF:=planF hI.ok
      obtain ⟨x,ex⟩:∃ x,x=gd s.1 i l0:=⟨_,rfl⟩
      have hxm:x∈s.1:=by rw [ex]; exact gd_mem l0 (by omega)
      have hx:=hF.light x hxm
      have hxr:=hx.short
      have hid0:x.Id=(gd r.Plan.Lights i l0).Id:=by rw [ex]; exact hI.id h
      have hL0:hasL r.Plan.Lights x.Id=true:=List.any_eq_true.2 ⟨_,gd_mem l0 h,by rw [hid0]; simp⟩
      have hLs:hasL s.1 x.Id=true:=List.any_eq_true.2 ⟨x,hxm,by simp⟩
      have hH:=hs _ hL0
      have hat:atId s.1 x.Id=i:=by rw [ex]; exact atId_eq (L:=s.1) (fun a b=>(planI hI.ok).ids a b) (by omega)
      have hy:=homeI_F hh hH
      have hyr:=hy.short
      have hyi:=homeI_id hH
      have e2:idx r.Home ((atId r.Home x.Id:Nat):Int)=some (homeI r.Home x.Id):=idx_gd l0 (atId_lt hH)
      have ei:idx s.1 (i:Int)=some x:=by rw [ex]; exact idx_gd l0 (by omega)
      have hho:=homeOf_eq (fu:=fu) (⟨⟨r.Plan.Network,s.1⟩,r.Home,r.Down⟩:Restoration) x.Id (by have:=hB.2.1.1; simp only; omega) hB.2.1.1
      have hop:=isOpen_eq hfu (⟨⟨r.Plan.Network,s.1⟩,r.Home,r.Down⟩:Restoration) (homeI r.Home x.Id) (n:=r.Plan.Network) (show s.1.length≤2097152 by omega) hF.light hy hB.2.2
      rw [gd_idsD h,←hid0]
      simp only [h',decide_true,if_true,ei,Option.bind_some,hho,hH,e2,same_eq hfu x _ (by omega) hyi.symm,hop]
      have hrev:mayRev r.Down r.Home s.1 x.Id=(!decide (x=homeI r.Home x.Id)&&(!meets (homeI r.Home x.Id).Route.Fibers r.Down&&freeL s.1 (homeI r.Home x.Id))):=by
        unfold mayRev
        rw [hLs,hat,←ex,Bool.true_and]
      have hc:(if (!decide (x=homeI r.Home x.Id))=true then some (!meets (homeI r.Home x.Id).Route.Fibers r.Down&&freeL s.1 (homeI r.Home x.Id)) else some false)=some (mayRev r.Down r.Home s.1 x.Id):=by
        rw [hrev]
        cases !decide (x=homeI r.Home x.Id) <;> rfl
      rw [hc,Option.bind_some,w64_inc h (by omega)]
      have hstep:=hI.step (D:=r.Down) (fun y hy=>(planOk_iff.1 hh).2.2.1 y hy) (id:=x.Id) (fun _=>hH)
      show ∃ z,_=some ((rev r.Down r.Home ((idsL r.Plan.Lights).drop (i + 1)) (rev1 r.Down r.Home s x.Id)).2,z,(rev r.Down r.Home ((idsL r.Plan.Lights).drop (i + 1)) (rev1 r.Down r.Home s x.Id)).1)
      cases hm:mayRev r.Down r.Home s.1 x.Id
      · have e1:rev1 r.Down r.Home s x.Id=s:=by unfold rev1; rw [hm]; rfl
        rw [if_neg Bool.false_ne_true,e1]
        exact ih (i + 1) s hI h (by omega) (by omega)
      have e1:rev1 r.Down r.Home s x.Id=(s.1.set i (homeI r.Home x.Id),s.2++[x.Id]):=by unfold rev1; rw [hm,if_pos rfl,hat]
      rw [e1] at hstep ⊢
      have hcp:(⟨x.Id,(homeI r.Home x.Id).Route,(homeI r.Home x.Id).Block⟩:Light)=homeI r.Home x.Id:=by rw [light_ext]; exact ⟨hyi.symm,rfl,rfl,rfl,rfl⟩
      rw [if_pos rfl,copyRoute_eq fu _ (by omega),Option.bind_some,app_ok (by simp; omega),Option.bind_some,Int.toNat_natCast]
      simp only [hcp]
      exact ih (i + 1) _ hstep h (by omega) (by simp; omega)
    obtain rfl:i=r.Plan.Lights.length:=by omega
    rw [if_neg (by simp),idsL_dropN]
    exact ⟨_,rfl⟩
theorem free_eq {L:List Light} (hid:∀ a b,a<b→b<L.length→(gd L a l0).Id<(gd L b l0).Id) {j:Nat} (hj:j<L.length) {x:Light} (hx:x.Id=(gd L j l0).Id):((L.eraseIdx j).all fun y=>!(meets y.Route.Fibers x.Route.Fibers&&!apart (bits y.Block) (bits x.Block)))=freeL L x:=by
  unfold freeL
  rw [Bool.eq_iff_iff,List.all_eq_true,Bool.not_eq_true',Bool.eq_false_iff]
  constructor
  · intro h hc
    obtain ⟨y,hy,hyc⟩:=List.any_eq_true.1 hc
    rw [Bool.and_eq_true,bne_iff_ne] at hyc
    have:=h y ((erase_mem hj hid y).2 ⟨hy,by rw [←hx]; exact hyc.1⟩)
    rw [←coll_apR,hyc.2] at this
    cases this
  intro h y hy
  obtain ⟨h1,h2⟩:=(erase_mem hj hid y).1 hy
  rw [←coll_apR,Bool.not_eq_true',Bool.eq_false_iff]
  intro hc
  refine h (List.any_eq_true.2 ⟨y,h1,?_⟩)
  rw [hc,Bool.and_true,bne_iff_ne,hx]
  exact h2
theorem revC_eq {fu:Nat} (hfu:2097153≤fu) (L:List Light) (y:Light) (D:List Int) (hL:∀ x∈L,x.Route.Fibers.length≤2097152) (hy:y.Route.Fibers.length≤2097152) (hD:D.length≤2097152) {q:Int} (hq:q=if hasL L y.Id=true then ((atId L y.Id:Nat):Int) else -1) :
    (if decide (q<0)=true then some true else (idx L q).bind fun e2=>(spec_l15SameLight fu e2 y).bind fun y3=>if y3=true then some true else (spec_l4Uses fu y.Route D).bind fun y4=>some y4)=some (!hasL L y.Id||(decide (gd L (atId L y.Id) l0=y)||meets y.Route.Fibers D)):=by
  rw [uses_eq hfu y.Route D hy hD]
  cases hid:hasL L y.Id
  · rw [hid] at hq
    subst hq
    rfl
  have hj:=atId_lt hid
  have hq':q=((atId L y.Id:Nat):Int):=by rw [hq,hid]; rfl
  rw [hq',decide_eq_false (by omega),if_neg Bool.false_ne_true,idx_gd l0 hj,Option.bind_some,sameS_eq hfu _ y (hL _ (gd_mem l0 hj)),Option.bind_some]
  cases decide (gd L (atId L y.Id) l0=y) <;> cases meets y.Route.Fibers D <;> rfl
theorem revP_eq {fu:Nat} (hfu:2097153≤fu) {R:Type} (N:Network) (L:List Light) (y:Light) (hp:planOk ⟨N,L⟩=true) (hN:NetB N) (hy:LightF N y) (hid:hasL L y.Id=true) (ids:List Int) (hi:ids.length≤100) {q:Int} (hq:q=if hasL L y.Id=true then ((atId L y.Id:Nat):Int) else -1) (A:List Int→List ByteArray→List Fiber→List Light→Option R) (B:Option R) :
    ((spec_l9Without fu (⟨⟨N.Nodes,N.Fibers⟩,L⟩:Plan) q).bind fun y5=>(spec_l9Along fu y5 y.Route).bind fun y6=>(spec_l8Bits fu y.Block).bind fun y7=>if (band y6 y7==0)=true then (spec_l9Copy fu y).bind fun y8=>(spec_l9Put fu y5 y8).bind fun y9=>(app ids [y.Id]).bind fun l=>A l y9.Network.Nodes y9.Network.Fibers y9.Lights else B)=if freeL L y=true then A (ids++[y.Id]) N.Nodes N.Fibers (L.set (atId L y.Id) y) else B:=by
  have hF:=planF hp
  have h12:L.length≤12:=hF.short
  have hyr:=hy.short
  have hj:=atId_lt hid
  have hjd:=atId_gd hid
  have hidp:∀ a b,a<b→b<L.length→(gd L a l0).Id<(gd L b l0).Id:=fun a b=>(planI hp).ids a b
  have hPB:PlanB ⟨N,L⟩:=⟨hN,by simp only; omega,fun x hx=>by have:=(hF.light x hx).short; omega⟩
  have hb:∀ z∈L.eraseIdx (atId L y.Id),blkOk z.Block=true:=fun z hz=>(hF.light z (List.mem_of_mem_eraseIdx hz)).blk
  have hq':q=((atId L y.Id:Nat):Int):=by rw [hq,hid]; rfl
  have hwo:spec_l9Without fu (⟨⟨N.Nodes,N.Fibers⟩,L⟩:Plan) q=some (⟨N,L.eraseIdx (atId L y.Id)⟩:Plan):=by rw [hq']; exact l9Without_eq hfu ⟨N,L⟩ hPB hj
  have hEB:PlanB ⟨N,L.eraseIdx (atId L y.Id)⟩:=delP_B hPB (atId L y.Id)
  have hal:=l9Along_eq hfu (⟨N,L.eraseIdx (atId L y.Id)⟩:Plan) y.Route hEB.2.1 hb hEB.2.2 (by omega)
  have hap:(band (along (L.eraseIdx (atId L y.Id)) y.Route.Fibers) (bits y.Block)==0)=freeL L y:=by
    rw [←free_eq hidp hj hjd.symm]
    exact along_apart hb y.Route.Fibers (bits_mk hy.blk)
  have hput:spec_l9Put fu (⟨N,L.eraseIdx (atId L y.Id)⟩:Plan) y=some (⟨N,L.set (atId L y.Id) y⟩:Plan):=by
    rw [l9Put_eq hfu _ y hEB (by omega)]
    show some (⟨N,putL (L.eraseIdx (atId L y.Id)) y⟩:Plan)=_
    rw [put_erase hidp hj hjd.symm]
  rw [hwo,Option.bind_some,hal,Option.bind_some,l8Bits_eq hy.blk,Option.bind_some,hap]
  cases freeL L y
  · rfl
  rw [if_pos rfl,if_pos rfl,l9Copy_eq fu y (by omega),Option.bind_some,hput,Option.bind_some,app_ok (by simp; omega),Option.bind_some]
theorem specRev_loop {fu:Nat} (hfu:2097153≤fu) (r:Restoration) (hB:RestB r) (hh:planOk ⟨r.Plan.Network,r.Home⟩=true) (hs:∀ id,hasL r.Plan.Lights id=true→hasL r.Home id=true):∀ (fk i:Nat) (s:List Light×List Int),RvI r.Plan.Network r.Down r.Home r.Plan.Lights s→i≤r.Home.length→r.Home.length - i<fk→s.2.length≤i →
    ∃ z,spec_l15Revert_L1 fu r fk i s.2 r.Plan.Network.Nodes r.Plan.Network.Fibers s.1=some (z,(rev r.Down r.Home ((idsL r.Home).drop i) s).2,r.Plan.Network.Nodes,r.Plan.Network.Fibers,(rev r.Down r.Home ((idsL r.Home).drop i) s).1):=by
  have hHF:=planF hh
  have hHI:=planI hh
  have h12:r.Home.length≤12:=hHF.short
  intro fk
  induction fk with
  | zero=>intro i _ _ _ h; omega
  | succ fk ih =>
    intro i s hI hi hk hsl
    rw [spec_l15Revert_L1]
    by_cases h:i<r.Home.length
    · have hF:=planF hI.ok
      have h12s:s.1.length≤12:=hF.short
      have h':(i:Int)<(r.Home.length:Int):=by omega
      obtain ⟨y,ey⟩:∃ y,y=gd r.Home i l0:=⟨_,rfl⟩
      have hym:y∈r.Home:=by rw [ey]; exact gd_mem l0 h
      have hy:LightF r.Plan.Network y:=hHF.light y hym
      have hyr:=hy.short
      have hat:atId r.Home y.Id=i:=by rw [ey]; exact atId_eq (fun a b=>hHI.ids a b) h
      have hhome:homeI r.Home y.Id=y:=by unfold homeI; rw [hat,ey]
      have ei:idx r.Home (i:Int)=some y:=by rw [ey]; exact idx_gd l0 h
      have hfind:spec_l9Find fu (⟨⟨r.Plan.Network.Nodes,r.Plan.Network.Fibers⟩,s.1⟩:Plan) y.Id=some (if hasL s.1 y.Id=true then ((atId s.1 y.Id:Nat):Int) else -1):=l9Find_eq _ _ (show s.1.length<fu by omega) (show s.1.length≤2097152 by omega)
      obtain ⟨q,hq⟩:∃ q,q=if hasL s.1 y.Id=true then ((atId s.1 y.Id:Nat):Int) else -1:=⟨_,rfl⟩
      rw [←hq] at hfind
      have hwi:=w64_inc h (show (r.Home.length:Int)≤9223372036854775807 by omega)
      rw [gd_idsD h,←ey]
      show ∃ z,_=some (z,(rev r.Down r.Home ((idsL r.Home).drop (i + 1)) (rev1 r.Down r.Home s y.Id)).2,_,_,(rev r.Down r.Home ((idsL r.Home).drop (i + 1)) (rev1 r.Down r.Home s y.Id)).1)
      rw [if_pos (by simpa using h'),ei,Option.bind_some,hfind,Option.bind_some,revC_eq hfu s.1 y r.Down (fun x hx=>by have:=(hF.light x hx).short; omega) (by omega) hB.2.2 hq,Option.bind_some,hwi]
      clear hwi
      have e0:(mayRev r.Down r.Home s.1 y.Id)=(hasL s.1 y.Id&&(!decide (gd s.1 (atId s.1 y.Id) l0=y)&&(!meets y.Route.Fibers r.Down&&freeL s.1 y))):=by unfold mayRev; rw [hhome]
      have e1:rev1 r.Down r.Home s y.Id=if mayRev r.Down r.Home s.1 y.Id=true then (s.1.set (atId s.1 y.Id) y,s.2++[y.Id]) else s:=by unfold rev1; rw [hhome]
      have hw:=hI.step (D:=r.Down) (fun z hz=>(planOk_iff.1 hh).2.2.1 z hz) (id:=y.Id) (fun q=>hs _ q)
      cases hL:hasL s.1 y.Id
      · rw [hL] at e0
        rw [e0] at e1
        rw [e1]
        exact ih (i + 1) s hI h (by omega) (by omega)
      rw [hL] at e0
      cases h1:decide (gd s.1 (atId s.1 y.Id) l0=y)
      · cases h2:meets y.Route.Fibers r.Down
        · rw [h1,h2] at e0
          rw [if_neg (show ¬(!true||(false||false))=true by decide),revP_eq hfu r.Plan.Network s.1 y hI.ok hB.1.1 hy hL s.2 (by omega) hq (fun l a b c=>spec_l15Revert_L1 fu r fk ((i + 1:Nat):Int) l a b c) (spec_l15Revert_L1 fu r fk ((i + 1:Nat):Int) s.2 r.Plan.Network.Nodes r.Plan.Network.Fibers s.1)]
          cases hf:freeL s.1 y
          · rw [hf] at e0
            rw [e0] at e1
            rw [e1]
            exact ih (i + 1) s hI h (by omega) (by omega)
          rw [hf] at e0
          rw [e0] at e1
          rw [e1] at hw ⊢
          exact ih (i + 1) _ hw h (by omega) (by simp; omega)
        rw [h1,h2] at e0
        rw [e0] at e1
        rw [e1]
        exact ih (i + 1) s hI h (by omega) (by omega)
      rw [h1] at e0
      rw [e0] at e1
      rw [e1]
      exact ih (i + 1) s hI h (by omega) (by omega)
    obtain rfl:i=r.Home.length:=by omega
    rw [if_neg (by simp),idsL_dropN]
    exact ⟨_,rfl⟩
def revd (r:Restoration):List Light×List Int:=rev r.Down r.Home (idsL r.Plan.Lights) (r.Plan.Lights,[])
theorem RestF.start {r:Restoration} (h:RestF r):RvI r.Plan.Network r.Down r.Home r.Plan.Lights (r.Plan.Lights,[]):=⟨h.plan,rfl,fun _ _ _=>rfl,fun _ _ hn=>by simp at hn⟩
theorem RestF.rvI {r:Restoration} (h:RestF r):RvI r.Plan.Network r.Down r.Home r.Plan.Lights (revd r):=RvI.all (fun y hy=>(planOk_iff.1 h.home).2.2.1 y hy) h.sub _ h.start
theorem implRevert_eq {fu:Nat} (hfu:2097153≤fu) (r:Restoration) (hB:RestB r):impl_RevertLights fu r=some (if rsOk r=true then (⟨⟨r.Plan.Network,(revd r).1⟩,r.Home,r.Down⟩,(revd r).2,true) else (zeroR,[],false)):=by
  unfold impl_RevertLights
  rw [implRest_eq hfu r hB,Option.bind_some]
  cases hr:rsOk r
  · rfl
  have hF:=restF.1 hr
  have h12:r.Plan.Lights.length≤12:=(planF hF.plan).short
  obtain ⟨z,hz⟩:=implRev_loop hfu r hB hF.home hF.sub h12 fu 0 (r.Plan.Lights,[]) hF.start (by omega) (by omega) (by simp)
  rw [show ((0:Nat):Int)=0 from rfl,List.drop_zero] at hz
  rw [if_neg (by decide),copyRest_eq hfu r hB,Option.bind_some,hz]
  rfl
theorem specRevert_eq {fu:Nat} (hfu:2097153≤fu) (r:Restoration) (hB:RestB r):spec_RevertLights fu r=some (if rsOk r=true then (⟨⟨r.Plan.Network,(revd r).1⟩,r.Home,r.Down⟩,(revd r).2,true) else (zeroR,[],false)):=by
  unfold spec_RevertLights
  rw [specRest_eq hfu r hB,Option.bind_some]
  cases hr:rsOk r
  · rfl
  have hF:=restF.1 hr
  have h12:r.Home.length≤12:=(planF hF.home).short
  obtain ⟨z,hz⟩:=specRev_loop hfu r hB hF.home hF.sub fu 0 (r.Plan.Lights,[]) hF.start (by omega) (by omega) (by simp)
  have hov:=rev_over (D:=r.Down) (idsL_rise ((planOk_iff.1 hF.home).2.2.2.imp fun h=>h.1)) (idsL_rise ((planOk_iff.1 hF.plan).2.2.2.imp fun h=>h.1)) hF.sub []
  rw [show ((0:Nat):Int)=0 from rfl,List.drop_zero,hov] at hz
  unfold spec_l15Revert
  rw [if_neg (by decide),l15Own_eq hfu r hB,Option.bind_some,hz]
  rfl
theorem revd_ok {r:Restoration} (h:RestF r):RestF ⟨⟨r.Plan.Network,(revd r).1⟩,r.Home,r.Down⟩:=by
  have hI:=h.rvI
  refine ⟨hI.ok,h.home,h.down,fun x hx=>?_⟩
  obtain ⟨i,hi,rfl⟩:=List.mem_iff_getElem.1 (show x∈(revd r).1 from hx)
  have hi':i<r.Plan.Lights.length:=by rw [←hI.len]; exact hi
  have hold:=rsBad_iff.1 (h.each _ (gd_mem l0 hi'))
  rw [←gd_in l0 hi]
  by_cases hm:(gd r.Plan.Lights i l0).Id∈(revd r).2
  · obtain ⟨h1,h2⟩:=hI.new i hi' hm
    have hid:=hI.id hi'
    refine rsBad_iff.2 ⟨by rw [hid]; exact hold.1,h2,?_⟩
    rw [hid,←h1]
    exact ⟨rfl,rfl,rfl⟩
  rw [hI.old i hi' hm]
  exact rsBad_iff.2 hold
theorem revd_len {r:Restoration} (h:RestF r):(revd r).2.length≤12:=by
  have h12:r.Plan.Lights.length≤12:=(planF h.plan).short
  have:=rev_len (D:=r.Down) (H:=r.Home) (idsL r.Plan.Lights) (r.Plan.Lights,[])
  rw [idsL_len] at this
  simp only [List.length_nil] at this
  unfold revd
  omega
end AT
namespace AT
def rt0:Route:=⟨0,[]⟩
def FibIn (n:Network) (fs:List Int):Prop:=∀ x∈fs,0≤x∧x<(n.Fibers.length:Int)
structure RtB (n:Network) (r:Route):Prop where
  short:r.Fibers.length≤7
  fib:FibIn n r.Fibers
  lo:0≤r.Start
  hi:r.Start<(n.Nodes.length:Int)
def lenR (F:List Fiber):List Int→Int
  | []=>0
  | i::l=>(gd F i.toNat f0).Length + lenR F l
theorem fib_idx {n:Network} {i:Int} (h:0≤i∧i<(n.Fibers.length:Int)):idx n.Fibers i=some (gd n.Fibers i.toNat f0)∧gd n.Fibers i.toNat f0∈n.Fibers:=by
  have:=idx_gd (l:=n.Fibers) (i:=i.toNat) f0 (by omega)
  rw [Int.toNat_of_nonneg h.1] at this
  exact ⟨this,gd_mem f0 (by omega)⟩
theorem lenR_in {n:Network} (hn:NetF n):∀ {fs:List Int},FibIn n fs→0≤lenR n.Fibers fs∧lenR n.Fibers fs≤5000 * (fs.length:Int)
  | [],_=>by simp [lenR]
  | i::l,h=>by
    have h1:=lenR_in hn (fs:=l) fun x hx=>h x (List.mem_cons_of_mem _ hx)
    have h2:=hn.each _ (fib_idx (h i (by simp))).2
    simp only [lenR,List.length_cons]
    omega
theorem l4Length_loop {fu:Nat} {n:Network} (hn:NetF n) (r:Route) (hf:FibIn n r.Fibers) (hl:r.Fibers.length≤100):∀ (fk i:Nat) (s:Int),i≤r.Fibers.length→r.Fibers.length - i<fk→0≤s→s≤5000 * (i:Int)→∃ z,spec_l4Length_L1 fu n r fk s i=some (s + lenR n.Fibers (r.Fibers.drop i),z):=by
  intro fk
  induction fk with
  | zero=>intro i _ _ h; omega
  | succ fk ih =>
    intro i s hi hk h0 h1
    rw [spec_l4Length_L1]
    by_cases h:i<r.Fibers.length
    · obtain ⟨e1,e2⟩:=fib_idx (hf _ (List.getElem_mem h))
      have h2:=hn.each _ e2
      rw [if_pos (by simpa using h),idx_in h,Option.bind_some,e1,Option.bind_some,w64_inc h (by omega),w64_in (by omega) (by omega),←List.getElem_cons_drop h,lenR]
      obtain ⟨z,hz⟩:=ih (i + 1) (s + (gd n.Fibers r.Fibers[i].toNat f0).Length) h (by omega) (by omega) (by omega)
      exact ⟨z,by rw [hz]; congr 2; omega⟩
    obtain rfl:i=r.Fibers.length:=by omega
    rw [if_neg (by simp),List.drop_length,lenR,Int.add_zero]
    exact ⟨_,rfl⟩
theorem l4Length_eq {fu:Nat} (hfu:2097153≤fu) {n:Network} (hn:NetF n) (r:Route) (hf:FibIn n r.Fibers) (hl:r.Fibers.length≤100):spec_l4Length fu n r=some (lenR n.Fibers r.Fibers):=by
  obtain ⟨z,hz⟩:=l4Length_loop (fu:=fu) hn r hf hl fu 0 0 (by omega) (by omega) (by omega) (by omega)
  rw [show ((0:Nat):Int)=0 from rfl,List.drop_zero,Int.zero_add] at hz
  unfold spec_l4Length
  rw [hz]; rfl
theorem sign_eq (fu:Nat) (x:Int):spec_l4Sign fu x=some (cmpI x 0):=by
  unfold spec_l4Sign cmpI
  by_cases h:x<0
  · simp [h]
  by_cases h2:x > 0 <;> simp [h,h2]
theorem cmpI_sub (a b:Int):cmpI (a - b) 0=cmpI a b:=by
  unfold cmpI
  by_cases h:a<b
  · rw [if_pos (by omega),if_pos h]
  rw [if_neg (by omega),if_neg h]
  by_cases h2:a > b
  · rw [if_pos (by omega),if_pos h2]
  rw [if_neg (by omega),if_neg h2]
def cmpL:List Int→List Int→Int
  | [],[]=>0
  | [],_::_=>-1
  | _::_,[]=>1
  | a::x,b::y=>if a=b then cmpL x y else cmpI a b
def cmpR (F:List Fiber) (a b:Route):Int:=or4 (cmpI (lenR F a.Fibers) (lenR F b.Fibers)) (cmpI (a.Fibers.length:Int) (b.Fibers.length:Int)) (cmpL a.Fibers b.Fibers) (cmpI a.Start b.Start)
theorem or4_1 {a b c d:Int} (h:a≠0):or4 a b c d=a:=by unfold or4; rw [if_pos h]
theorem or4_2 {a b c d:Int} (h:a=0) (h2:b≠0):or4 a b c d=b:=by unfold or4; rw [if_neg (by simpa using h),if_pos h2]
theorem or4_3 {a b c d:Int} (h:a=0) (h2:b=0) (h3:c≠0):or4 a b c d=c:=by unfold or4; rw [if_neg (by simpa using h),if_neg (by simpa using h2),if_pos h3]
theorem or4_4 {a b c d:Int} (h:a=0) (h2:b=0) (h3:c=0):or4 a b c d=d:=by
  unfold or4
  rw [if_neg (by simpa using h),if_neg (by simpa using h2),if_neg (by simpa using h3)]
  by_cases h4:d=0
  · rw [if_neg (by simpa using h4),h4]
  rw [if_pos h4]
theorem l4Compare_loop {fu:Nat} {n:Network} (hn:NetF n) (a b:Route) (ha:FibIn n a.Fibers) (hb:FibIn n b.Fibers) (hl:a.Fibers.length≤100) (he:b.Fibers.length=a.Fibers.length):∀ (fk i:Nat),i≤a.Fibers.length→a.Fibers.length - i<fk →
    spec_l4Compare_L1 fu a b fk i=some (if cmpL (a.Fibers.drop i) (b.Fibers.drop i)=0 then .next (a.Fibers.length:Int) else .ret (cmpL (a.Fibers.drop i) (b.Fibers.drop i))):=by
  have hff:=hn.fib
  intro fk
  induction fk with
  | zero=>intro i _ h; omega
  | succ fk ih =>
    intro i hi hk
    rw [spec_l4Compare_L1]
    by_cases h:i<a.Fibers.length
    · have h2:i<b.Fibers.length:=by omega
      have b1:=ha _ (List.getElem_mem h)
      have b2:=hb _ (List.getElem_mem h2)
      rw [if_pos (by simpa using h),idx_in h,idx_in h2,←List.getElem_cons_drop h,←List.getElem_cons_drop h2,cmpL]
      simp only [Option.bind_some]
      by_cases hc:a.Fibers[i]=b.Fibers[i]
      · rw [if_pos hc,hc,bne_self_eq_false,if_neg Bool.false_ne_true,w64_inc h (by omega)]
        exact ih (i + 1) h (by omega)
      have hne:cmpI a.Fibers[i] b.Fibers[i]≠0:=fun e=>hc ((cmpI_zero _ _).1 e)
      rw [if_neg hc,if_neg hne,if_pos (by rw [bne_iff_ne]; exact hc),sign_eq,Option.bind_some,w64_in (by omega) (by omega),cmpI_sub]
    obtain rfl:i=a.Fibers.length:=by omega
    have e2:b.Fibers.drop a.Fibers.length=[]:=by rw [←he,List.drop_length]
    rw [if_neg (by simp),List.drop_length,e2]
    rfl
theorem l4Compare_eq {fu:Nat} (hfu:2097153≤fu) {n:Network} (hn:NetF n) {a b:Route} (ha:RtB n a) (hb:RtB n b):spec_l4Compare fu n a b=some (cmpR n.Fibers a b):=by
  have a1:=ha.short
  have b1:=hb.short
  have a2:=lenR_in hn ha.fib
  have b2:=lenR_in hn hb.fib
  have hm:=hn.hi
  have s1:=ha.lo
  have s2:=ha.hi
  have s3:=hb.lo
  have s4:=hb.hi
  unfold spec_l4Compare cmpR
  rw [l4Length_eq hfu hn a ha.fib (by omega),l4Length_eq hfu hn b hb.fib (by omega)]
  simp only [Option.bind_some]
  rw [w64_in (n:=lenR n.Fibers a.Fibers - lenR n.Fibers b.Fibers) (by omega) (by omega),w64_in (n:=(a.Fibers.length:Int) - (b.Fibers.length:Int)) (by omega) (by omega),w64_in (n:=a.Start - b.Start) (by omega) (by omega),sign_eq,sign_eq,sign_eq,cmpI_sub,cmpI_sub,cmpI_sub]
  by_cases h1:lenR n.Fibers a.Fibers=lenR n.Fibers b.Fibers
  · have z1:=(cmpI_zero _ _).2 h1
    rw [if_neg (by rw [bne_iff_ne]; omega)]
    by_cases h2:a.Fibers.length=b.Fibers.length
    · have z2:=(cmpI_zero (a.Fibers.length:Int) (b.Fibers.length:Int)).2 (by omega)
      have hl:=l4Compare_loop (fu:=fu) hn a b ha.fib hb.fib (by omega) h2.symm fu 0 (by omega) (by omega)
      rw [show ((0:Nat):Int)=0 from rfl,List.drop_zero,List.drop_zero] at hl
      rw [if_neg (by rw [bne_iff_ne]; omega),hl]
      by_cases h3:cmpL a.Fibers b.Fibers=0
      · rw [if_pos h3,Option.bind_some,or4_4 z1 z2 h3]
        rfl
      rw [if_neg h3,or4_3 z1 z2 h3]; rfl
    have z2:cmpI (a.Fibers.length:Int) (b.Fibers.length:Int)≠0:=fun e=>h2 (by have:=(cmpI_zero _ _).1 e; omega)
    rw [if_pos (by rw [bne_iff_ne]; omega),or4_2 z1 z2]; rfl
  have z1:cmpI (lenR n.Fibers a.Fibers) (lenR n.Fibers b.Fibers)≠0:=fun e=>h1 ((cmpI_zero _ _).1 e)
  rw [if_pos (by rw [bne_iff_ne]; omega),or4_1 z1]; rfl
def insN (F:List Fiber) (l:List Route) (r:Route):Nat→Nat
  | 0=>0
  | i + 1=>if cmpR F r (gd l i rt0)<0 then insN F l r i else i + 1
theorem insN_le (F:List Fiber) (l:List Route) (r:Route):∀ i,insN F l r i≤i
  | 0=>Nat.le_refl 0
  | i + 1=>by
    unfold insN
    split
    · have:=insN_le F l r i; omega
    exact Nat.le_refl _
def insR (F:List Fiber) (l:List Route) (r:Route):List Route:=l.take (insN F l r l.length)++r::l.drop (insN F l r l.length)
theorem insR_len (F:List Fiber) (l:List Route) (r:Route):(insR F l r).length=l.length + 1:=by
  have:=insN_le F l r l.length
  unfold insR
  rw [List.length_append,List.length_cons,List.length_take,List.length_drop]
  omega
theorem insR_perm (F:List Fiber) (l:List Route) (r:Route):(insR F l r).Perm (r::l):=by
  unfold insR
  refine List.perm_middle.trans ?_
  rw [List.take_append_drop]
theorem put_loop {fu:Nat} (hfu:2097153≤fu) {n:Network} (hn:NetF n) (to:Int) (l:List Route) (r:Route) (hl:l.length≤1000) (hL:∀ a∈l,RtB n a) (hr:RtB n r):∀ (fk i:Nat),i≤l.length→i<fk→spec_l4Search_put_L1 fu ⟨n,to,l⟩ r fk i=some ((insN n.Fibers l r i:Nat):Int):=by
  intro fk
  induction fk with
  | zero=>intro i _ h; omega
  | succ fk ih =>
    intro i hi hk
    rw [spec_l4Search_put_L1]
    cases i with
    | zero =>
      rw [if_neg (by simp),Option.bind_some,if_neg Bool.false_ne_true]
      rfl
    | succ i =>
      have hi':i<l.length:=by omega
      have e1:w64 (((i + 1:Nat):Int) - 1)=(i:Int):=by rw [w64_in (by omega) (by omega)]; omega
      have e2:idx (⟨n,to,l⟩:L4SearchP).list (i:Int)=some (gd l i rt0):=idx_gd rt0 hi'
      rw [if_pos (by simp),e1,e2,Option.bind_some,l4Compare_eq hfu hn hr (hL _ (gd_mem rt0 hi')),insN]
      simp only [Option.bind_some,decide_eq_true_eq]
      by_cases hc:cmpR n.Fibers r (gd l i rt0)<0
      · rw [if_pos hc,if_pos hc]
        exact ih i (by omega) (by omega)
      rw [if_neg hc,if_neg hc]
theorem put_eq {fu:Nat} (hfu:2097153≤fu) {n:Network} (hn:NetF n) (to:Int) (l:List Route) (r:Route) (hl:l.length≤1000) (hL:∀ a∈l,RtB n a) (hr:RtB n r):spec_l4Search_put fu ⟨n,to,l⟩ r=some ⟨n,to,insR n.Fibers l r⟩:=by
  have hle:=insN_le n.Fibers l r l.length
  unfold spec_l4Search_put
  rw [put_loop hfu hn to l r hl hL hr fu l.length (Nat.le_refl _) (by omega),Option.bind_some]
  show ((sub l 0 ((insN n.Fibers l r l.length:Nat):Int)).bind _)=_
  rw [sub_take hle,Option.bind_some]
  have hs:sub l ((insN n.Fibers l r l.length:Nat):Int) (l.length:Int)=some (l.drop (insN n.Fibers l r l.length)):=by
    unfold sub
    rw [if_pos (by omega)]
    simp
  show ((sub l ((insN n.Fibers l r l.length:Nat):Int) (l.length:Int)).bind _)=_
  rw [hs,Option.bind_some,app_nil (by rw [List.length_take]; omega),Option.bind_some,app_ok (by rw [List.length_take,List.length_singleton]; omega),Option.bind_some,app_ok (by rw [List.length_append,List.length_take,List.length_singleton,List.length_drop]; omega),Option.bind_some,List.append_assoc,List.singleton_append]
  rfl
def pth (F:List Fiber) (to:Int):Nat→List Int→Int→List Int→List (List Int)
  | 0,_,_,_=>[]
  | k + 1,seen,v,fs=>if v=to then [fs] else (List.range F.length).flatMap fun i=>if 0≤oth (gd F i f0) v∧(seen.any fun x=>x==oth (gd F i f0) v)=false then pth F to k (seen++[oth (gd F i f0) v]) (oth (gd F i f0) v) (fs++[(i:Int)]) else []
theorem pth_ne {F:List Fiber} {to:Int} {k:Nat} {seen:List Int} {v:Int} {fs:List Int} (h:¬v=to):pth F to (k + 1) seen v fs=(List.range F.length).flatMap fun i=>if 0≤oth (gd F i f0) v∧(seen.any fun x=>x==oth (gd F i f0) v)=false then pth F to k (seen++[oth (gd F i f0) v]) (oth (gd F i f0) v) (fs++[(i:Int)]) else []:=by rw [pth,if_neg h]
def putAll (F:List Fiber) (s:Int) (l:List Route) (ps:List (List Int)):List Route:=ps.foldl (fun l p=>if l.length≤200 then insR F l ⟨s,p⟩ else l) l
theorem putAll_app (F:List Fiber) (s:Int) (l:List Route) (p q:List (List Int)):putAll F s l (p++q)=putAll F s (putAll F s l p) q:=List.foldl_append
theorem putAll_full {F:List Fiber} {s:Int} {l:List Route} (h:200<l.length):∀ ps,putAll F s l ps=l
  | []=>rfl
  | p::ps=>by
    show putAll F s (if l.length≤200 then _ else l) ps=l
    rw [if_neg (by omega)]
    exact putAll_full h ps
theorem putAll_B {n:Network} {s:Int}:∀ (ps:List (List Int)) {l:List Route},(∀ p∈ps,RtB n ⟨s,p⟩)→(∀ a∈l,RtB n a)→l.length≤201→(∀ a∈putAll n.Fibers s l ps,RtB n a)∧(putAll n.Fibers s l ps).length≤201
  | [],l,_,hl,hn=>⟨hl,hn⟩
  | p::ps,l,hp,hl,hn=>by
    show (∀ a∈putAll n.Fibers s (if l.length≤200 then insR n.Fibers l ⟨s,p⟩ else l) ps,RtB n a)∧_
    by_cases h:l.length≤200
    · have:=putAll_B ps (l:=insR n.Fibers l ⟨s,p⟩) (fun q hq=>hp q (List.mem_cons_of_mem _ hq)) (fun a ha=>by
        rcases List.mem_cons.1 ((insR_perm n.Fibers l ⟨s,p⟩).mem_iff.1 ha) with e | e
        · rw [e]; exact hp p (by simp)
        exact hl a e) (by rw [insR_len]; omega)
      rw [if_pos h]
      show _∧(putAll n.Fibers s (if l.length≤200 then insR n.Fibers l ⟨s,p⟩ else l) ps).length≤201
      rw [if_pos h]
      exact this
    have:=putAll_B ps (l:=l) (fun q hq=>hp q (List.mem_cons_of_mem _ hq)) hl hn
    rw [if_neg h]
    show _∧(putAll n.Fibers s (if l.length≤200 then insR n.Fibers l ⟨s,p⟩ else l) ps).length≤201
    rw [if_neg h]
    exact this
theorem pth_B {n:Network} {to:Int}:∀ (k:Nat) {seen:List Int} {v:Int} {fs:List Int},FibIn n fs→∀ p∈pth n.Fibers to k seen v fs,FibIn n p∧p.length + 1≤fs.length + k
  | 0,seen,v,fs,_,p,h=>by simp [pth] at h
  | k + 1,seen,v,fs,hf,p,h=>by
    unfold pth at h
    split at h
    · rw [List.mem_singleton] at h
      subst h
      exact ⟨hf,by omega⟩
    obtain ⟨i,hi,h1⟩:=List.mem_flatMap.1 h
    have hi':=List.mem_range.1 hi
    split at h1
    · obtain ⟨g1,g2⟩:=pth_B k (fun x hx=>by
        rcases List.mem_append.1 hx with hx | hx
        · exact hf x hx
        rw [List.mem_singleton] at hx; subst hx; omega) p h1
      rw [List.length_append,List.length_singleton] at g2
      exact ⟨g1,by omega⟩
    simp at h1
theorem ext_loop {fu:Nat} (hfu:2097153≤fu) {n:Network} (hn:NetF n) (to:Int) (r:Route) (seen:List Int) (rec_:L4SearchP→Route→List Int→Option L4SearchP) (v:Int) (k:Nat) (hs:seen.length≤1000) (hr:r.Fibers.length≤1000)
    (hB:∀ i,i<n.Fibers.length→∀ p∈(if 0≤oth (gd n.Fibers i f0) v∧(seen.any fun x=>x==oth (gd n.Fibers i f0) v)=false then pth n.Fibers to k (seen++[oth (gd n.Fibers i f0) v]) (oth (gd n.Fibers i f0) v) (r.Fibers++[(i:Int)]) else []),RtB n ⟨r.Start,p⟩)
    (hrec:∀ i l,i<n.Fibers.length→0≤oth (gd n.Fibers i f0) v→(seen.any fun x=>x==oth (gd n.Fibers i f0) v)=false→l.length≤200→(∀ a∈l,RtB n a)→rec_ ⟨n,to,l⟩ ⟨r.Start,r.Fibers++[(i:Int)]⟩ (seen++[oth (gd n.Fibers i f0) v])=some ⟨n,to,putAll n.Fibers r.Start l (pth n.Fibers to k (seen++[oth (gd n.Fibers i f0) v]) (oth (gd n.Fibers i f0) v) (r.Fibers++[(i:Int)]))⟩) :
    ∀ (fk i:Nat) (l:List Route),i≤n.Fibers.length→n.Fibers.length - i<fk→(∀ a∈l,RtB n a)→l.length≤201 →
    ∃ z,spec_l4Search_extend_L1 fu r seen rec_ v fk i n.Nodes n.Fibers to l=some (z,n.Nodes,n.Fibers,to,putAll n.Fibers r.Start l (((List.range n.Fibers.length).drop i).flatMap fun i=>if 0≤oth (gd n.Fibers i f0) v∧(seen.any fun x=>x==oth (gd n.Fibers i f0) v)=false then pth n.Fibers to k (seen++[oth (gd n.Fibers i f0) v]) (oth (gd n.Fibers i f0) v) (r.Fibers++[(i:Int)]) else [])):=by
  have hff:=hn.fib
  intro fk
  induction fk with
  | zero=>intro i _ _ h; omega
  | succ fk ih =>
    intro i l hi hk hL hl
    rw [spec_l4Search_extend_L1]
    by_cases h:i<n.Fibers.length
    · by_cases h2:l.length≤200
      · have hoth:spec_l2Other fu (⟨n.Nodes,n.Fibers⟩:Network) (i:Int) v=some (oth (gd n.Fibers i f0) v):=l2Other_eq fu n i v h
        have hdr:(List.range n.Fibers.length).drop i=i::(List.range n.Fibers.length).drop (i + 1):=by
          rw [←List.getElem_cons_drop (as:=List.range n.Fibers.length) (i:=i) (h:=by simpa using h),List.getElem_range]
        have hwi:=w64_inc h (show (n.Fibers.length:Int)≤9223372036854775807 by omega)
        rw [if_pos (by simpa using h),decide_eq_true (by omega),Option.bind_some,if_pos rfl,hoth,Option.bind_some,hdr,List.flatMap_cons,putAll_app,hwi]
        clear hwi
        have hBi:=hB i h
        have hri:=hrec i l h
        obtain ⟨y,hy⟩:∃ y,y=oth (gd n.Fibers i f0) v:=⟨_,rfl⟩
        rw [←hy] at hBi hri ⊢
        by_cases h3:0≤y
        · cases h4:seen.any fun x=>x==y
          · rw [h4] at hBi
            rw [if_pos ⟨h3,rfl⟩] at hBi
            rw [if_pos (by simpa using h3),l1Has_eq seen y (by omega) (by omega),h4,Option.bind_some,Option.bind_some,if_pos (by decide),if_pos ⟨h3,rfl⟩,l1Own_eqR fu r.Fibers (by omega),Option.bind_some,app_ok (by rw [List.length_singleton]; omega),Option.bind_some,l1Own_eqR fu seen (by omega),Option.bind_some,app_ok (by rw [List.length_singleton]; omega),Option.bind_some]
            have:=hri h3 h4 h2 hL
            have this':rec_ ({ n:=({ Nodes:=n.Nodes,Fibers:=n.Fibers }:Network),to:=to,list:=l }:L4SearchP) ({ Start:=r.Start,Fibers:=r.Fibers++[(i:Int)] }:Route) (seen++[y])=_:=this
            rw [this',Option.bind_some]
            obtain ⟨g1,g2⟩:=putAll_B _ hBi hL hl
            exact ih (i + 1) _ h (by omega) g1 g2
          rw [if_pos (by simpa using h3),l1Has_eq seen y (by omega) (by omega),h4,Option.bind_some,Option.bind_some,if_neg (by decide),if_neg (fun c=>by cases c.2)]
          exact ih (i + 1) l h (by omega) hL hl
        rw [if_neg (by simpa using h3),Option.bind_some,if_neg Bool.false_ne_true,if_neg fun c=>h3 c.1]
        exact ih (i + 1) l h (by omega) hL hl
      rw [if_pos (by simpa using h),decide_eq_false (by omega),Option.bind_some,if_neg Bool.false_ne_true,putAll_full (by omega)]
      exact ⟨_,rfl⟩
    obtain rfl:i=n.Fibers.length:=by omega
    have e:(List.range n.Fibers.length).drop n.Fibers.length=[]:=by rw [List.drop_eq_nil_iff]; simp
    rw [if_neg (by simp),Option.bind_some,if_neg Bool.false_ne_true,e]
    exact ⟨_,rfl⟩
theorem ext_eq {n:Network} (hn:NetF n) (to:Int):∀ (k:Nat) {fu:Nat},2097153 + k≤fu→∀ (l:List Route) (r:Route) (seen:List Int),seen.length + k=n.Nodes.length + 1→1≤k→seen.Nodup→(∀ x∈seen,0≤x∧x<(n.Nodes.length:Int))→r.Fibers.length + 1=seen.length→FibIn n r.Fibers→0≤r.Start→r.Start<(n.Nodes.length:Int)→l.length≤200→(∀ a∈l,RtB n a) →
    spec_l4Search_extend fu ⟨n,to,l⟩ r seen=some ⟨n,to,putAll n.Fibers r.Start l (pth n.Fibers to k seen (gl seen) r.Fibers)⟩:=by
  have hm:=hn.hi
  have hff:=hn.fib
  intro k
  induction k with
  | zero=>intro fu _ _ _ _ _ h; omega
  | succ k ih =>
    intro fu hfu l r seen hsl _ hnd hin hrf hfi hs0 hs1 hl hL
    obtain ⟨fu',rfl⟩:∃ f,fu=f + 1:=⟨fu - 1,by omega⟩
    have hfu':2097153 + k≤fu':=by omega
    rw [spec_l4Search_extend]
    unfold spec_l4Search_extend_B
    have hlast:idx seen (w64 ((seen.length:Int) - 1))=some (gl seen):=idx_last (by omega) (by omega)
    have hpB:=fun p hp=>pth_B (to:=to) (k + 1) (seen:=seen) (v:=gl seen) hfi p hp
    rw [hlast,Option.bind_some]
    by_cases hv:gl seen=to
    · have e1:(gl seen==to)=true:=by rw [beq_iff_eq]; exact hv
      have hpe:pth n.Fibers to (k + 1) seen (gl seen) r.Fibers=[r.Fibers]:=by rw [pth,if_pos hv]
      rw [e1,if_pos rfl,put_eq (by omega) hn to l r (by omega) hL ⟨by omega,hfi,hs0,hs1⟩,hpe]
      show some _=some (⟨n,to,if l.length≤200 then insR n.Fibers l r else l⟩:L4SearchP)
      rw [if_pos hl]
    have e1:(gl seen==to)=false:=by rw [beq_eq_false_iff_ne]; exact hv
    have hpe:=pth_ne (F:=n.Fibers) (k:=k) (seen:=seen) (fs:=r.Fibers) hv
    rw [hpe] at hpB
    obtain ⟨z,hz⟩:=ext_loop (fu:=fu') (by omega) hn to r seen (fun x1 r' seen=>spec_l4Search_extend fu' x1 r' seen) (gl seen) k (by omega) (by omega)
      (fun i hi p hp=>by
        obtain ⟨g1,g2⟩:=hpB p (List.mem_flatMap.2 ⟨i,List.mem_range.2 hi,hp⟩)
        exact ⟨by simp only; omega,g1,hs0,hs1⟩)
      (fun i l' hi h0 hns hl' hL'=>by
        have hfm:gd n.Fibers i f0∈n.Fibers:=gd_mem f0 hi
        have hev:=hn.each _ hfm
        have hom:=oth_mem h0
        have hnot:oth (gd n.Fibers i f0) (gl seen)∉seen:=fun hm=>by
          rw [Bool.eq_false_iff] at hns
          exact hns (List.any_eq_true.2 ⟨_,hm,by simp⟩)
        have hnd':(seen++[oth (gd n.Fibers i f0) (gl seen)]).Nodup:=List.nodup_append.2 ⟨hnd,by simp,fun a ha b hb=>by rw [List.mem_singleton] at hb; subst hb; exact fun e=>hnot (e▸ha)⟩
        have hin':∀ x∈seen++[oth (gd n.Fibers i f0) (gl seen)],0≤x∧x<(n.Nodes.length:Int):=fun x hx=>by
          rcases List.mem_append.1 hx with hx | hx
          · exact hin x hx
          rw [List.mem_singleton] at hx
          subst hx
          omega
        have hsh:=short_of _ _ hnd' hin'
        rw [List.length_append,List.length_singleton] at hsh
        have:=ih hfu' l' (⟨r.Start,r.Fibers++[(i:Int)]⟩:Route) (seen++[oth (gd n.Fibers i f0) (gl seen)]) (by rw [List.length_append,List.length_singleton]; omega) (by omega) hnd' hin' (by simp only [List.length_append,List.length_singleton]; omega) (fun x hx=>by
          rcases List.mem_append.1 hx with hx | hx
          · exact hfi x hx
          rw [List.mem_singleton] at hx; subst hx; omega) hs0 hs1 hl' hL'
        rw [gl_snoc] at this
        exact this) fu' 0 l (by omega) (by omega) hL (by omega)
    rw [show ((0:Nat):Int)=0 from rfl,List.drop_zero] at hz
    rw [e1,if_neg Bool.false_ne_true,hpe]
    have hz':spec_l4Search_extend_L1 fu' r seen (fun x1 r' seen=>spec_l4Search_extend fu' x1 r' seen) (gl seen) fu' 0 (⟨n,to,l⟩:L4SearchP).n.Nodes (⟨n,to,l⟩:L4SearchP).n.Fibers (⟨n,to,l⟩:L4SearchP).to (⟨n,to,l⟩:L4SearchP).list=_:=hz
    rw [hz',Option.bind_some]
def rts (n:Network) (s t:Int):List Route:=putAll n.Fibers s [] (pth n.Fibers t n.Nodes.length [s] s [])
theorem rts_B {n:Network} (hn:NetF n) {s:Int} (h0:0≤s) (h1:s<(n.Nodes.length:Int)) (t:Int):(∀ a∈rts n s t,RtB n a)∧(rts n s t).length≤201:=by
  have hm:=hn.hi
  refine putAll_B _ (fun p hp=>?_) (by simp) (by simp)
  obtain ⟨g1,g2⟩:=pth_B _ (fun x hx=>by simp at hx) p hp
  simp only [List.length_nil] at g2
  exact ⟨by simp only; omega,g1,h0,h1⟩
theorem l4All_eq {fu:Nat} (hfu:2097200≤fu) {n:Network} (hn:NetF n) (s t:Int) (h0:0≤s) (h1:s<(n.Nodes.length:Int)):spec_l4All fu n s t=some (if (rts n s t).length≤200 then (rts n s t,true) else ([],false)):=by
  have hm:=hn.hi
  have hlo:=hn.lo
  have hB:=rts_B hn h0 h1 t
  unfold spec_l4All
  rw [ext_eq hn t n.Nodes.length (by omega) [] ⟨s,[]⟩ [s] (by simp; omega) (by omega) (by simp) (by simpa using ⟨h0,h1⟩) (by simp) (fun x hx=>by simp at hx) h0 h1 (by simp) (by simp),Option.bind_some]
  show (if decide (((rts n s t).length:Int) > 200)=true then _ else (app ([]:List Route) (rts n s t)).bind _)=_
  by_cases h:(rts n s t).length≤200
  · rw [if_neg (by simp; omega),app_nil (by omega),if_pos h]; rfl
  rw [if_pos (by simp; omega),if_neg h]
def pairOk (n:Network) (s t:Int):Bool:=netOk n&&(decide (0≤s∧s<(n.Nodes.length:Int))&&(decide (0≤t∧t<(n.Nodes.length:Int))&&s != t))
theorem l4Pair_eq {fu:Nat} (hfu:2097153≤fu) (n:Network) (s t:Int) (hB:NetB n):spec_l4Pair fu n s t=some (pairOk n s t):=by
  have hm:=hB.1.1
  unfold spec_l4Pair pairOk
  rw [specNet_eq hfu n hB,Option.bind_some]
  cases hn:netOk n
  · rfl
  have e:∀ x:Int,(decide (0≤x)&&decide (x≤w64 ((n.Nodes.length:Int) - 1)))=decide (0≤x∧x<(n.Nodes.length:Int)):=fun x=>by
    rw [w64_in (n:=(n.Nodes.length:Int) - 1) (by omega) (by omega),Bool.eq_iff_iff]
    simp only [Bool.and_eq_true,decide_eq_true_eq]
    omega
  simp only [l1In_eq,e,Option.bind_some,if_true]
  cases decide (0≤s∧s<(n.Nodes.length:Int)) <;> cases decide (0≤t∧t<(n.Nodes.length:Int)) <;> rfl
theorem specRoutes_eq {fu:Nat} (hfu:2097200≤fu) (n:Network) (s t:Int) (hB:NetB n):spec_AllRoutes fu n s t=some (if pairOk n s t=true∧(rts n s t).length≤200 then (rts n s t,true) else ([],false)):=by
  unfold spec_AllRoutes
  rw [l4Pair_eq (by omega) n s t hB,Option.bind_some]
  cases hp:pairOk n s t
  · rfl
  have hp':=hp
  unfold pairOk at hp'
  simp only [Bool.and_eq_true,decide_eq_true_eq] at hp'
  rw [if_neg (by decide),l4All_eq hfu (netF hp'.1) s t hp'.2.1.1 hp'.2.1.2,Option.bind_some]
  by_cases h:(rts n s t).length≤200
  · rw [if_pos h,if_pos ⟨rfl,h⟩]
  rw [if_neg h,if_neg fun c=>h c.2]
end AT
namespace AT
structure Cur (c:L1CurP) (k:Int):Prop where
  by_:∀ e∈c.code,0≤e.n∧e.n≤255
  len:c.code.length≤65536
  lo:0≤c.at_
  hi:c.at_≤k
theorem and255 (q:Int):0≤andu64 q 255∧andu64 q 255≤255:=by
  unfold andu64
  have h:(BitVec.ofInt 64 q &&& BitVec.ofInt 64 255).toNat≤255:=by
    rw [BitVec.toNat_and]
    exact Nat.le_trans Nat.and_le_right (by decide)
  unfold wu64
  omega
theorem next_ok {fu:Nat} {c:L1CurP} {k:Int} (hc:Cur c k) (hk:k≤4611686018427387904):∃ r c',spec_l1Cur_next fu c=some (r,c')∧0≤r∧r≤255∧Cur c' (k + 1):=by
  have h0:=hc.lo
  have h1:=hc.hi
  have hl:=hc.len
  have e1:w64 (c.at_ + 1)=c.at_ + 1:=w64_in (by omega) (by omega)
  unfold spec_l1Cur_next
  have hsh:∀ x:Int,shrk 64 x 40=some (x.fdiv (2 ^ (min (40:Int).toNat 64))):=fun x=>by unfold shrk; rw [if_neg (by omega)]
  simp only [e1,hsh,Option.bind_some]
  have hcur:∀ s,Cur ⟨c.code,c.at_ + 1,s⟩ (k + 1):=fun s=>⟨hc.by_,hc.len,by simp only; omega,by simp only; omega⟩
  have ha:∀ q:Int,0≤w64 (andu64 q 255)∧w64 (andu64 q 255)≤255:=fun q=>by
    have:=and255 q
    rw [w64_in (by omega) (by omega)]; exact this
  by_cases h:c.at_<c.code.length
  · simp only [h,decide_true,if_true]
    obtain ⟨e,he,hm⟩:=idx_some (l:=c.code) (i:=c.at_) h0 h
    have hb:=hc.by_ e hm
    have e2:w64 e.n=e.n:=w64_in (by omega) (by omega)
    simp only [he,Option.bind_some,e2]
    split
    · exact ⟨_,_,rfl,hb.1,hb.2,hcur _⟩
    exact ⟨_,_,rfl,(ha _).1,(ha _).2,hcur _⟩
  simp only [h,decide_false,Bool.false_eq_true,if_false]
  split
  · exact ⟨_,_,rfl,by omega,by omega,hcur _⟩
  exact ⟨_,_,rfl,(ha _).1,(ha _).2,hcur _⟩
theorem Cur.mono {c:L1CurP} {k k':Int} (hc:Cur c k) (h:k≤k'):Cur c k':=⟨hc.by_,hc.len,hc.lo,Int.le_trans hc.hi h⟩
theorem pick_ok {fu:Nat} {c:L1CurP} {k:Int} (hc:Cur c k) (hk:k≤4611686018427387000) (n:Int) (hn:n≤1099511627776):∃ r c',spec_l1Cur_pick fu c n=some (r,c')∧0≤r∧(1≤n→r<n)∧Cur c' (k + 2):=by
  unfold spec_l1Cur_pick
  by_cases h:n≤1
  · simp only [h,decide_true,if_true]
    exact ⟨_,_,rfl,by omega,by omega,hc.mono (by omega)⟩
  simp only [h,decide_false,Bool.false_eq_true,if_false]
  obtain ⟨r,c',g1,g2,g3,g4⟩:=next_ok (fu:=fu) hc (by omega)
  simp only [g1,Option.bind_some]
  have hr:∀ x:Int,0≤x→∃ q,rem x n=some q∧0≤q∧q<n:=fun x hx=>by
    unfold rem
    rw [if_neg (by omega),Int.tmod_eq_emod_of_nonneg hx]
    exact ⟨_,rfl,Int.emod_nonneg _ (by omega),Int.emod_lt_of_pos _ (by omega)⟩
  by_cases h2:n > 200
  · simp only [h2,decide_true,if_true]
    obtain ⟨r2,c2,q1,q2,q3,q4⟩:=next_ok (fu:=fu) g4 (by omega)
    simp only [q1,Option.bind_some]
    rw [w64_in (n:=r * 256) (by omega) (by omega),w64_in (by omega) (by omega)]
    obtain ⟨q,p1,p2,p3⟩:=hr (r * 256 + r2) (by omega)
    rw [p1]
    exact ⟨_,_,rfl,p2,fun _=>p3,q4.mono (by omega)⟩
  simp only [h2,decide_false,Bool.false_eq_true,if_false]
  obtain ⟨q,p1,p2,p3⟩:=hr r g2
  rw [p1]
  exact ⟨_,_,rfl,p2,fun _=>p3,g4.mono (by omega)⟩
theorem among_ok {fu:Nat} {c:L1CurP} {k:Int} (hc:Cur c k) (hk:k≤4611686018427387000) (l:List Int) (h1:1≤l.length) (hn:l.length≤1099511627776):∃ r c',spec_l1Cur_among fu c l=some (r,c')∧r∈l∧Cur c' (k + 2):=by
  unfold spec_l1Cur_among
  obtain ⟨r,c',g1,g2,g3,g4⟩:=pick_ok (fu:=fu) hc hk (l.length:Int) (by omega)
  obtain ⟨e,he,hm⟩:=idx_some (l:=l) (i:=r) g2 (g3 (by omega))
  simp only [g1,Option.bind_some,he]
  exact ⟨_,_,rfl,hm,g4⟩
theorem start_cur {code:List By} (h:∀ e∈code,0≤e.n∧e.n≤255) (hl:code.length≤65536):Cur ⟨code,0,⟨0⟩⟩ 0:=⟨h,hl,Int.le_refl _,Int.le_refl _⟩
end AT
namespace AT
structure NetD (n:Network):Prop where
  n1:1≤n.Nodes.length
  n2:n.Nodes.length≤20
  ns:∀ e∈n.Nodes,e.size≤100
  f2:n.Fibers.length≤20
theorem NetD.B {n:Network} (h:NetD n):NetB n:=⟨⟨by have:=h.n2; omega,fun e he=>by have:=h.ns e he; omega⟩,by have:=h.f2; omega⟩
theorem rem_ok {a n:Int} (ha:0≤a) (hn:0<n):∃ q,rem a n=some q∧0≤q∧q<n:=by
  unfold rem
  rw [if_neg (by omega),Int.tmod_eq_emod_of_nonneg ha]
  exact ⟨_,rfl,Int.emod_nonneg _ (by omega),Int.emod_lt_of_pos _ hn⟩
theorem app1 {α:Type} {l:List α} {x:α} (h:l.length≤1000000):app l [x]=some (l++[x]):=app_ok (by simp; omega)
theorem least_ex (fu:Nat) (a b:Int):∃ r,spec_l1Least fu a b=some r∧(r=a∨r=b):=by
  unfold spec_l1Least; split <;> exact ⟨_,rfl,by simp⟩
theorem most_ex (fu:Nat) (a b:Int):∃ r,spec_l1Most fu a b=some r∧(r=a∨r=b):=by
  unfold spec_l1Most; split <;> exact ⟨_,rfl,by simp⟩
theorem l2Put_loop {fu:Nat} (l:List Fiber) (f:Fiber) (hl:l.length≤1000000):∀ (fk i:Nat),i≤l.length→l.length - i<fk→∃ j:Nat,spec_l2Put_L1 fu l f fk i=some (j:Int)∧j≤l.length:=by
  intro fk
  induction fk with
  | zero=>intro i _ h; omega
  | succ fk ih =>
    intro i hi hf
    rw [spec_l2Put_L1]
    by_cases h:i<l.length
    · have hlt:((i:Int)<(l.length:Int))=True:=by simp; omega
      simp only [hlt,decide_true,if_true,idx_in h,Option.bind_some,l2Before_eq,w64_inc h (show (l.length:Int)≤9223372036854775807 by omega)]
      split
      · exact ih (i + 1) h (by omega)
      exact ⟨i,rfl,hi⟩
    have hlt:((i:Int)<(l.length:Int))=False:=by simp; omega
    simp only [hlt,decide_false,Bool.false_eq_true,if_false,Option.bind_some]
    exact ⟨i,rfl,hi⟩
theorem l2Put_ok {fu:Nat} (hfu:2097153≤fu) (l:List Fiber) (f:Fiber) (hl:l.length≤1000000):∃ r,spec_l2Put fu l f=some r∧r.length=l.length + 1:=by
  unfold spec_l2Put
  obtain ⟨j,h1,h2⟩:=l2Put_loop (fu:=fu) l f hl fu 0 (by omega) (by omega)
  have hs:sub l (j:Int) (l.length:Int)=some (l.drop j):=by
    unfold sub
    rw [if_pos (by omega)]
    simp
  rw [show ((0:Nat):Int)=0 from rfl] at h1
  rw [h1,Option.bind_some,sub_take h2,Option.bind_some,hs,Option.bind_some,app_nil (by rw [List.length_take]; omega),Option.bind_some,app_ok (by rw [List.length_take,List.length_singleton]; omega),Option.bind_some,app_ok (by rw [List.length_append,List.length_take,List.length_singleton,List.length_drop]; omega),Option.bind_some]
  refine ⟨_,rfl,?_⟩
  simp only [List.length_append,List.length_take,List.length_singleton,List.length_drop]
  omega
theorem net_loop1 {fu:Nat} (hfu:2097153≤fu) (y:Int×L1CurP) (K:Nat) (hK:w64 (2 + y.1)=(K:Int)) (h2:2≤K) (h6:K≤6):∀ (fk i:Nat) (m:List By) (m2:Int) (m3:U64) (l:List Fiber) (k B:Int),Cur ⟨m,m2,m3⟩ k→k≤B + 10 * (i:Int)→B≤1000000000→l.length≤i→i≤K→K - i<fk →
    ∃ i' m' a' s' l',spec_l1Cur_network_L1 fu y fk i m m2 m3 l=some (i',m',a',s',l')∧l'.length≤K∧Cur ⟨m',a',s'⟩ (B + 10 * (K:Int)):=by
  intro fk
  induction fk with
  | zero=>intro i _ _ _ _ _ _ _ _ _ _ _ h; omega
  | succ fk ih =>
    intro i m m2 m3 l k B hc hk hB hl hi hf
    rw [spec_l1Cur_network_L1,hK]
    by_cases h:i<K
    · have hlt:((i:Int)<(K:Int))=True:=by simp; omega
      have e:w64 ((i:Int) + 1)=((i + 1:Nat):Int):=w64_inc h (by omega)
      obtain ⟨q,hq,q0,q1⟩:=rem_ok (a:=((i + 1:Nat):Int)) (n:=(K:Int)) (by omega) (by omega)
      obtain ⟨r1,c1,g1,-,-,k1⟩:=pick_ok (fu:=fu) hc (by omega) 10 (by decide)
      simp only [hlt,decide_true,if_true,e,hq,Option.bind_some,spec_l1Cur_one,g1]
      have k1':Cur ⟨c1.code,c1.at_,c1.seed⟩ (k + 2):=k1
      split
      · exact ih (i + 1) _ _ _ _ k B hc (by omega) hB (by omega) h (by omega)
      split
      · exact ih (i + 1) _ _ _ _ (k + 2) B k1' (by omega) hB (by omega) h (by omega)
      obtain ⟨r3,g3,-⟩:=least_ex fu (i:Int) q
      obtain ⟨r4,g4,-⟩:=most_ex fu (i:Int) q
      obtain ⟨r5,c5,g5,-,-,k5⟩:=pick_ok (fu:=fu) k1 (by omega) 8 (by decide)
      obtain ⟨r6,c6,g6,-,k6⟩:=among_ok (fu:=fu) k5 (by omega) [0,0,0,1,2] (by decide) (by decide)
      obtain ⟨r7,g7,h7⟩:=l2Put_ok hfu l ({ A:=r3,B:=r4,Length:=w64 (100 * (w64 (1 + r5))),Risk:=r6 }:Fiber) (by omega)
      simp only [g3,g4,g5,g6,g7,Option.bind_some]
      exact ih (i + 1) _ _ _ _ (k + 2 + 2 + 2) B k6 (by omega) hB (by omega) h (by omega)
    obtain rfl:i=K:=by omega
    have hlt:((i:Int)<(i:Int))=False:=by simp
    simp only [hlt,decide_false,Bool.false_eq_true,if_false]
    exact ⟨_,_,_,_,_,rfl,hl,hc.mono (by omega)⟩
theorem net_loop2 {fu:Nat} (hfu:2097153≤fu) (y:Int×L1CurP) (K:Nat) (hK:w64 (2 + y.1)=(K:Int)) (h2:2≤K) (h6:K≤6):∀ (fk n:Nat) (l:List Fiber) (m:List By) (m2:Int) (m3:U64) (k B:Int),Cur ⟨m,m2,m3⟩ k→k≤B - 10 * (n:Int)→B≤1000000000→l.length + n≤9→n<fk →
    ∃ i' l' m' a' s',spec_l1Cur_network_L2 fu y fk (n:Int) l m m2 m3=some (i',l',m',a',s')∧l'.length≤9∧l.length≤l'.length∧Cur ⟨m',a',s'⟩ B:=by
  intro fk
  induction fk with
  | zero=>intro n _ _ _ _ _ _ _ _ _ _ h; omega
  | succ fk ih =>
    intro n l m m2 m3 k B hc hk hB hl hf
    rw [spec_l1Cur_network_L2,hK]
    by_cases h:0<n
    · have hlt:((n:Int) > 0)=True:=by simp; omega
      have e:w64 ((n:Int) - 1)=((n - 1:Nat):Int):=w64_dec h (by omega)
      obtain ⟨r1,c1,g1,-,-,k1⟩:=pick_ok (fu:=fu) hc (by omega) (K:Int) (by omega)
      obtain ⟨r2,c2,g2,-,-,k2⟩:=pick_ok (fu:=fu) k1 (by omega) (K:Int) (by omega)
      simp only [hlt,decide_true,if_true,e,g1,g2,Option.bind_some]
      split
      · obtain ⟨r3,g3,-⟩:=least_ex fu r1 r2
        obtain ⟨r4,g4,-⟩:=most_ex fu r1 r2
        obtain ⟨r5,c5,g5,-,-,k5⟩:=pick_ok (fu:=fu) k2 (by omega) 8 (by decide)
        obtain ⟨r6,c6,g6,-,k6⟩:=among_ok (fu:=fu) k5 (by omega) [0,0,0,1,2] (by decide) (by decide)
        obtain ⟨r7,g7,h7⟩:=l2Put_ok hfu l ({ A:=r3,B:=r4,Length:=w64 (100 * (w64 (1 + r5))),Risk:=r6 }:Fiber) (by omega)
        simp only [g3,g4,g5,g6,g7,Option.bind_some]
        obtain ⟨i',l',m',a',s',q1,q2,q3,q4⟩:=ih (n - 1) r7 _ _ _ (k + 2 + 2 + 2 + 2) B k6 (by omega) hB (by omega) (by omega)
        exact ⟨i',l',m',a',s',q1,q2,by omega,q4⟩
      exact ih (n - 1) _ _ _ _ (k + 2 + 2) B k2 (by omega) hB (by omega) (by omega)
    obtain rfl:n=0:=by omega
    rw [if_neg (by simp)]
    exact ⟨_,_,_,_,_,rfl,by omega,Nat.le_refl _,hc.mono (by omega)⟩
theorem network_ok {fu:Nat} (hfu:2097153≤fu) {c:L1CurP} {k:Int} (hc:Cur c k) (hk:k≤900000000):∃ r c',spec_l1Cur_network fu c=some (r,c')∧NetD r∧r.Nodes.length≤6∧r.Fibers.length≤9∧Cur c' (k + 200):=by
  unfold spec_l1Cur_network
  obtain ⟨r1,c1,g1,p0,p1,k1⟩:=pick_ok (fu:=fu) hc (by omega) 5 (by decide)
  have p2:=p1 (by decide)
  have hK:w64 (2 + r1)=(((2 + r1).toNat:Nat):Int):=by rw [w64_in (by omega) (by omega)]; omega
  have hK2:2≤(2 + r1).toNat:=by omega
  have hK6:(2 + r1).toNat≤6:=by omega
  obtain ⟨i2,m2,a2,s2,l2,g2,h2,k2⟩:=net_loop1 hfu (r1,c1) (2 + r1).toNat hK hK2 hK6 fu 0 c1.code c1.at_ c1.seed [] (k + 2) (k + 2) k1 (by omega) (by omega) (by simp) (by omega) (by omega)
  obtain ⟨r3,c3,g3,q0,q1,k3⟩:=pick_ok (fu:=fu) k2 (by omega) 4 (by decide)
  have q2:=q1 (by decide)
  obtain ⟨i4,l4,m4,a4,s4,g4,h4,-,k4⟩:=net_loop2 hfu (r1,c1) (2 + r1).toNat hK hK2 hK6 fu r3.toNat l2 c3.code c3.at_ c3.seed (k + 2 + 10 * ((2 + r1).toNat:Int) + 2) (k + 200) k3 (by omega) (by omega) (by omega) (by omega)
  rw [Int.ofNat_zero] at g2
  rw [Int.toNat_of_nonneg q0] at g4
  simp only [g1,Option.bind_some,hK]
  rw [sub_take (by simp; omega)]
  simp only [g2,g3,g4,Option.bind_some]
  refine ⟨_,_,rfl,⟨by simp; omega,by simp; omega,fun e he=>?_,by simp only; omega⟩,by simp; omega,h4,k4⟩
  have he':=List.mem_of_mem_take he
  simp only [List.mem_cons,List.not_mem_nil,or_false] at he'
  rcases he' with rfl | rfl | rfl | rfl | rfl | rfl <;> decide
theorem linked_ok {fu:Nat} (hfu:2097153≤fu) {c:L1CurP} {k:Int} (hc:Cur c k) (hk:k≤900000000):∃ r c',spec_l1Cur_linked fu c=some (r,c')∧NetD r∧1≤r.Fibers.length∧Cur c' (k + 200):=by
  unfold spec_l1Cur_linked
  obtain ⟨r,c',g1,h1,h2,h3,k1⟩:=network_ok hfu hc hk
  simp only [g1,Option.bind_some]
  split
  · rename_i h
    have h0:r.Fibers.length=0:=by simpa using h
    rw [app1 (by omega)]
    exact ⟨_,_,rfl,⟨h1.n1,h1.n2,h1.ns,by simp; omega⟩,by simp,k1⟩
  rename_i h
  have h0:r.Fibers.length≠0:=by simpa using h
  exact ⟨_,_,rfl,h1,by omega,k1⟩
theorem route_loop2 {fu:Nat} (hfu:2097153≤fu) (n:Network) (y:Int×L1CurP) (seen:List Int) (hn:n.Fibers.length≤1000000) (h1:1≤seen.length) (h2:seen.length≤1000000):∀ (fk i:Nat) (o:List Int),i≤n.Fibers.length→n.Fibers.length - i<fk→o.length≤i→(∀ e∈o,0≤e∧e<(n.Fibers.length:Int)) →
    ∃ l i',spec_l1Cur_route_L2 fu n y seen fk o i=some (l,i')∧l.length≤n.Fibers.length∧∀ e∈l,0≤e∧e<(n.Fibers.length:Int):=by
  intro fk
  induction fk with
  | zero=>intro i _ _ h; omega
  | succ fk ih =>
    intro i o hi hf ho hr
    rw [spec_l1Cur_route_L2]
    by_cases h:i<n.Fibers.length
    · have hlt:((i:Int)<(n.Fibers.length:Int))=True:=by simp; omega
      have e1:w64 ((seen.length:Int) - 1)=((seen.length - 1:Nat):Int):=by rw [w64_in (by omega) (by omega)]; omega
      have hh:∀ v,spec_l1Has fu seen v=some (seen.any fun x=>x==v):=fun v=>l1Has_eq seen v (by omega) (by omega)
      have ha:app o [(i:Int)]=some (o++[(i:Int)]):=app1 (by omega)
      simp only [hlt,decide_true,if_true,e1,idx_in (show seen.length - 1<seen.length by omega),Option.bind_some,l2Other_eq fu n i _ h,hh,ha,w64_inc h (show (n.Fibers.length:Int)≤9223372036854775807 by omega)]
      have two:∀ b:Bool,∃ l i',(if b=true then spec_l1Cur_route_L2 fu n y seen fk (o++[(i:Int)]) ((i + 1:Nat):Int) else spec_l1Cur_route_L2 fu n y seen fk o ((i + 1:Nat):Int))=some (l,i')∧l.length≤n.Fibers.length∧∀ e∈l,0≤e∧e<(n.Fibers.length:Int):=by
        intro b
        cases b
        · exact ih (i + 1) o h (by omega) (by omega) hr
        refine ih (i + 1) _ h (by omega) (by simp; omega) fun e he=>?_
        rcases List.mem_append.1 he with he | he
        · exact hr e he
        simp only [List.mem_singleton] at he
        omega
      split
      · exact two _
      exact two false
    obtain rfl:i=n.Fibers.length:=by omega
    rw [if_neg (by simp)]
    exact ⟨_,_,rfl,ho,hr⟩
theorem route_loop1 {fu:Nat} (hfu:2097153≤fu) (n:Network) (y:Int×L1CurP) (hn:n.Fibers.length≤1000):∀ (fk m:Nat) (seen l:List Int) (b:List By) (a:Int) (s:U64) (k B:Int),Cur ⟨b,a,s⟩ k→k≤B - 2 * (m:Int)→B≤1000000000→1≤seen.length→seen.length + m≤1000→l.length + m≤4→(∀ e∈l,0≤e∧e<(n.Fibers.length:Int))→m<fk →
    ∃ s2 m2 l' b' a' s',spec_l1Cur_route_L1 fu n y fk seen (m:Int) l b a s=some (s2,m2,l',b',a',s')∧l'.length≤4∧(∀ e∈l',0≤e∧e<(n.Fibers.length:Int))∧Cur ⟨b',a',s'⟩ B:=by
  intro fk
  induction fk with
  | zero=>intro m _ _ _ _ _ _ _ _ _ _ _ _ _ _ h; omega
  | succ fk ih =>
    intro m seen l b a s k B hc hk hB hs1 hs2 hl hr hf
    rw [spec_l1Cur_route_L1]
    by_cases h:0<m
    · have hlt:((m:Int) > 0)=True:=by simp; omega
      have e:w64 ((m:Int) - 1)=((m - 1:Nat):Int):=w64_dec h (by omega)
      obtain ⟨z,zi,g1,z1,z2⟩:=route_loop2 hfu n y seen (by omega) hs1 (by omega) fu 0 [] (by omega) (by omega) (by simp) (by simp)
      rw [Int.ofNat_zero] at g1
      have e1:w64 ((seen.length:Int) - 1)=((seen.length - 1:Nat):Int):=by rw [w64_in (by omega) (by omega)]; omega
      simp only [hlt,decide_true,if_true,e,g1,Option.bind_some]
      by_cases hz:z.length=0
      · have hz':((z.length:Int)==0)=true:=by simp [hz]
        simp only [hz',if_true]
        exact ⟨_,_,_,_,_,_,rfl,by omega,hr,hc.mono (by omega)⟩
      have hz':((z.length:Int)==0)=false:=by simpa using hz
      obtain ⟨r1,c1,g2,p0,p1,k1⟩:=pick_ok (fu:=fu) hc (by omega) (z.length:Int) (by omega)
      obtain ⟨x,hx,hxm⟩:=idx_some (l:=z) (i:=r1) p0 (p1 (by omega))
      obtain ⟨x0,x1⟩:=z2 x hxm
      have hxn:x=((x.toNat:Nat):Int):=by omega
      have ho:∀ v,spec_l2Other fu n x v=some (oth (gd n.Fibers x.toNat f0) v):=fun v=>by
        have:=l2Other_eq fu n x.toNat v (by omega)
        rwa [←hxn] at this
      simp only [hz',Bool.false_eq_true,if_false,g2,Option.bind_some,hx,e1,idx_in (show seen.length - 1<seen.length by omega),ho,app1 (show l.length≤1000000 by omega),app1 (show seen.length≤1000000 by omega)]
      refine ih (m - 1) _ _ _ _ _ (k + 2) B k1 (by omega) hB (by simp) (by simp; omega) (by simp; omega) (fun q hq=>?_) (by omega)
      rcases List.mem_append.1 hq with hq | hq
      · exact hr q hq
      simp only [List.mem_singleton] at hq
      omega
    obtain rfl:m=0:=by omega
    rw [if_neg (by simp)]
    exact ⟨_,_,_,_,_,_,rfl,by omega,hr,hc.mono (by omega)⟩
theorem route_ok {fu:Nat} (hfu:2097153≤fu) {c:L1CurP} {k:Int} (hc:Cur c k) (hk:k≤900000000) {n:Network} (hn:n.Fibers.length≤1000) (hm:n.Nodes.length≤1000):∃ r c',spec_l1Cur_route fu c n=some (r,c')∧r.Fibers.length≤4∧(∀ e∈r.Fibers,0≤e∧e<(n.Fibers.length:Int))∧Cur c' (k + 20):=by
  unfold spec_l1Cur_route
  obtain ⟨r1,c1,g1,-,-,k1⟩:=pick_ok (fu:=fu) hc (by omega) (n.Nodes.length:Int) (by omega)
  obtain ⟨r2,c2,g2,p0,p1,k2⟩:=pick_ok (fu:=fu) k1 (by omega) 4 (by decide)
  have p2:=p1 (by decide)
  have e:w64 (1 + r2)=(((1 + r2).toNat:Nat):Int):=by rw [w64_in (by omega) (by omega)]; omega
  obtain ⟨s3,m3,l3,b3,a3,t3,g3,h3,h4,k3⟩:=route_loop1 hfu n (r1,c1) hn fu (1 + r2).toNat [r1] [] c2.code c2.at_ c2.seed (k + 2 + 2) (k + 20) k2 (by omega) (by omega) (by simp) (by simp; omega) (by simp; omega) (by simp) (by omega)
  simp only [g1,g2,Option.bind_some,e,g3]
  exact ⟨_,_,rfl,h3,h4,k3⟩
theorem routed_ok {fu:Nat} (hfu:2097153≤fu) {c:L1CurP} {k:Int} (hc:Cur c k) (hk:k≤900000000) {n:Network} (h1:1≤n.Fibers.length) (hn:n.Fibers.length≤1000) (hm:n.Nodes.length≤1000):∃ r c',spec_l1Cur_routed fu c n=some (r,c')∧1≤r.Fibers.length∧r.Fibers.length≤4∧(∀ e∈r.Fibers,0≤e∧e<(n.Fibers.length:Int))∧Cur c' (k + 20):=by
  unfold spec_l1Cur_routed
  obtain ⟨r,c',g1,h2,h3,k1⟩:=route_ok hfu hc hk hn hm
  simp only [g1,Option.bind_some]
  split
  · obtain ⟨e,he,-⟩:=idx_some (l:=n.Fibers) (i:=0) (Int.le_refl _) (by omega)
    rw [he]
    exact ⟨_,_,rfl,by simp,by simp,by simp; omega,k1⟩
  rename_i h
  have h0:r.Fibers.length≠0:=by simpa using h
  exact ⟨_,_,rfl,by omega,h2,h3,k1⟩
theorem anyRoute_ok {fu:Nat} (hfu:2097153≤fu) {c:L1CurP} {k:Int} (hc:Cur c k) (hk:k≤900000000) {n:Network} (hn:n.Fibers.length≤1000) (hm:n.Nodes.length≤1000):∃ r c',spec_l1Cur_anyRoute fu c n=some (r,c')∧r.Fibers.length≤5∧Cur c' (k + 30):=by
  unfold spec_l1Cur_anyRoute
  obtain ⟨r,c1,g1,h1,-,k1⟩:=route_ok hfu hc hk hn hm
  obtain ⟨r2,c2,g2,-,-,k2⟩:=pick_ok (fu:=fu) k1 (by omega) 16 (by decide)
  obtain ⟨r3,c3,g3,-,-,k3⟩:=pick_ok (fu:=fu) k2 (by omega) 8 (by decide)
  simp only [g1,g2,g3,Option.bind_some,app1 (show r.Fibers.length≤1000000 by omega)]
  split
  · exact ⟨_,_,rfl,by simp only; omega,k3.mono (by omega)⟩
  split
  · exact ⟨_,_,rfl,by simp; omega,k3.mono (by omega)⟩
  split
  · exact ⟨_,_,rfl,by simp,k2.mono (by omega)⟩
  split
  · split
    · rename_i h
      have h0:(1:Int)<r.Fibers.length:=by simpa using h
      have e1:w64 ((r.Fibers.length:Int) - 1)=((r.Fibers.length - 1:Nat):Int):=by rw [w64_in (by omega) (by omega)]; omega
      simp only [e1,idx_in (show r.Fibers.length - 1<r.Fibers.length by omega),Option.bind_some,app1 (show r.Fibers.length≤1000000 by omega)]
      exact ⟨_,_,rfl,by simp; omega,k2.mono (by omega)⟩
    exact ⟨_,_,rfl,by omega,k2.mono (by omega)⟩
  exact ⟨_,_,rfl,by omega,k2.mono (by omega)⟩
theorem block_ok {fu:Nat} {c:L1CurP} {k:Int} (hc:Cur c k) (hk:k≤900000000):∃ r c',spec_l1Cur_block fu c=some (r,c')∧Cur c' (k + 10):=by
  unfold spec_l1Cur_block spec_l1Cur_one
  obtain ⟨r1,c1,g1,-,-,k1⟩:=pick_ok (fu:=fu) hc (by omega) 12 (by decide)
  obtain ⟨r2,c2,g2,-,-,k2⟩:=pick_ok (fu:=fu) k1 (by omega) 26 (by decide)
  obtain ⟨r3,c3,g3,-,-,k3⟩:=pick_ok (fu:=fu) k2 (by omega) 27 (by decide)
  obtain ⟨r4,c4,g4,p0,p1,k4⟩:=pick_ok (fu:=fu) k1 (by omega) 6 (by decide)
  have p2:=p1 (by decide)
  obtain ⟨r5,c5,g5,-,-,k5⟩:=pick_ok (fu:=fu) k4 (by omega) (w64 ((w64 (24 - (w64 (1 + r4)))) + 1)) (by
    rw [w64_in (n:=1 + r4) (by omega) (by omega),w64_in (n:=24 - (1 + r4)) (by omega) (by omega),w64_in (by omega) (by omega)]; omega)
  simp only [g1,g2,g3,g4,g5,Option.bind_some]
  split
  · exact ⟨_,_,rfl,k3.mono (by omega)⟩
  exact ⟨_,_,rfl,k5.mono (by omega)⟩
theorem of_ok {fu:Nat} {c:L1CurP} {k:Int} (hc:Cur c k) (hk:k≤4611686018427387000) (l:List ByteArray) (h1:1≤l.length) (hn:l.length≤1099511627776):∃ r c',spec_l1Cur_of fu c l=some (r,c')∧r∈l∧Cur c' (k + 2):=by
  unfold spec_l1Cur_of
  obtain ⟨r,c',g1,g2,g3,g4⟩:=pick_ok (fu:=fu) hc hk (l.length:Int) (by omega)
  obtain ⟨e,he,hm⟩:=idx_some (l:=l) (i:=r) g2 (g3 (by omega))
  simp only [g1,Option.bind_some,he]
  exact ⟨_,_,rfl,hm,g4⟩
theorem anyNet_loop {fu:Nat}:∀ (fk:Nat) (l:List Fiber) (b:List By) (a:Int) (s:U64) (k B:Int),Cur ⟨b,a,s⟩ k→k≤B + 2 * (l.length:Int)→B≤1000000000→1≤l.length→l.length≤15→15 - l.length<fk →
    ∃ l' b' a' s',spec_l1Cur_anyNetwork_L1 fu fk l b a s=some (l',b',a',s')∧l'.length≤15∧Cur ⟨b',a',s'⟩ (B + 50):=by
  intro fk
  induction fk with
  | zero=>intro l _ _ _ _ _ _ _ _ _ _ h; omega
  | succ fk ih =>
    intro l b a s k B hc hk hB h1 h2 hf
    rw [spec_l1Cur_anyNetwork_L1]
    obtain ⟨r1,c1,g1,p0,p1,k1⟩:=pick_ok (fu:=fu) hc (by omega) 2 (by decide)
    have p2:=p1 (by decide)
    have e:w64 (14 + r1)=14 + r1:=w64_in (by omega) (by omega)
    have e1:w64 ((l.length:Int) - 1)=((l.length - 1:Nat):Int):=by rw [w64_in (by omega) (by omega)]; omega
    simp only [g1,Option.bind_some,e,e1,idx_in (show l.length - 1<l.length by omega),app1 (show l.length≤1000000 by omega)]
    split
    · rename_i h
      have h':(l.length:Int)<14 + r1:=by simpa using h
      exact ih _ _ _ _ (k + 2) B k1 (by simp; omega) hB (by simp) (by simp; omega) (by simp; omega)
    exact ⟨_,_,_,_,rfl,h2,k1.mono (by omega)⟩
theorem anyNetwork_ok {fu:Nat} (hfu:2097153≤fu) {c:L1CurP} {k:Int} (hc:Cur c k) (hk:k≤800000000):∃ r c',spec_l1Cur_anyNetwork fu c=some (r,c')∧NetD r∧Cur c' (k + 500):=by
  unfold spec_l1Cur_anyNetwork
  obtain ⟨n,c1,g1,h1,h2,h3,k1⟩:=network_ok hfu hc (by omega)
  simp only [g1,Option.bind_some]
  by_cases h:n.Fibers.length=0
  · have h':((n.Fibers.length:Int)==0)=true:=by simp [h]
    simp only [h',if_true]
    exact ⟨_,_,rfl,h1,k1.mono (by omega)⟩
  have h':((n.Fibers.length:Int)==0)=false:=by simpa using h
  obtain ⟨r2,c2,g2,p0,p1,k2⟩:=pick_ok (fu:=fu) k1 (by omega) (n.Fibers.length:Int) (by omega)
  have p2:=p1 (by omega)
  obtain ⟨e,he,-⟩:=idx_some (l:=n.Fibers) (i:=r2) p0 p2
  obtain ⟨r3,c3,g3,-,-,k3⟩:=pick_ok (fu:=fu) k2 (by omega) 24 (by decide)
  obtain ⟨r4,c4,g4,m4,k4⟩:=of_ok (fu:=fu) k3 (by omega) [(⟨#[98]⟩:ByteArray),ByteArray.empty,(⟨#[65]⟩:ByteArray),(⟨#[97,98,99,100,101,102,103,104]⟩:ByteArray),(⟨#[97,98,99,100,101,102,103,104,105]⟩:ByteArray),(⟨#[120,49]⟩:ByteArray)] (by simp) (by simp)
  obtain ⟨r5,c5,g5,-,-,k5⟩:=pick_ok (fu:=fu) k3 (by omega) 8 (by decide)
  obtain ⟨r6,c6,g6,-,-,k6⟩:=pick_ok (fu:=fu) k3 (by omega) 10 (by decide)
  obtain ⟨r7,c7,g7,-,k7⟩:=among_ok (fu:=fu) k3 (by omega) [0,1,5000,5001] (by decide) (by decide)
  obtain ⟨r8,c8,g8,-,k8⟩:=among_ok (fu:=fu) k3 (by omega) [(-1),9,10] (by decide) (by decide)
  obtain ⟨e0,he0,-⟩:=idx_some (l:=n.Fibers) (i:=0) (Int.le_refl _) (by omega)
  obtain ⟨v0,hv0,-⟩:=idx_some (l:=n.Nodes) (i:=0) (Int.le_refl _) (by have:=h1.n1; omega)
  obtain ⟨l9,b9,a9,s9,g9,h9,k9⟩:=anyNet_loop (fu:=fu) fu n.Fibers c3.code c3.at_ c3.seed (k + 200 + 2 + 2) (k + 204) k3 (by omega) (by omega) (by omega) (by omega) (by omega)
  have hfs:∀ f:Fiber,NetD ⟨n.Nodes,n.Fibers.set r2.toNat f⟩:=fun f=>⟨h1.n1,h1.n2,h1.ns,by simp only [List.length_set]; exact h1.f2⟩
  have ha:=app1 (x:=e0) (show n.Fibers.length≤1000000 by omega)
  obtain ⟨e9,he9,-⟩:=idx_some (l:=n.Fibers++[e0]) (i:=r2) p0 (by simp; omega)
  have hn4:app n.Nodes [(⟨#[112]⟩:ByteArray),(⟨#[113]⟩:ByteArray),(⟨#[114]⟩:ByteArray),(⟨#[115]⟩:ByteArray)]=some (n.Nodes++[(⟨#[112]⟩:ByteArray),(⟨#[113]⟩:ByteArray),(⟨#[114]⟩:ByteArray),(⟨#[115]⟩:ByteArray)]):=app_ok (by simp; omega)
  simp only [h',Bool.false_eq_true,if_false,g2,g3,g4,g5,g6,g7,g8,g9,he,he0,hv0,ha,he9,hn4,Option.bind_some]
  split
  · refine ⟨_,_,rfl,⟨by simp only [List.length_set]; exact h1.n1,by simp only [List.length_set]; exact h1.n2,fun z hz=>?_,by simp only [List.length_set]; exact h1.f2⟩,k4.mono (by omega)⟩
    rcases List.mem_or_eq_of_mem_set hz with hz | rfl
    · exact h1.ns z hz
    simp only [List.mem_cons,List.not_mem_nil,or_false] at m4
    rcases m4 with rfl | rfl | rfl | rfl | rfl | rfl <;> decide
  split
  · exact ⟨_,_,rfl,hfs _,k5.mono (by omega)⟩
  split
  · exact ⟨_,_,rfl,hfs _,k6.mono (by omega)⟩
  split
  · exact ⟨_,_,rfl,hfs _,k7.mono (by omega)⟩
  split
  · exact ⟨_,_,rfl,hfs _,k8.mono (by omega)⟩
  split
  · exact ⟨_,_,rfl,⟨h1.n1,h1.n2,h1.ns,by simp; omega⟩,k3.mono (by omega)⟩
  split
  · exact ⟨_,_,rfl,⟨h1.n1,h1.n2,h1.ns,by simp only; omega⟩,k9.mono (by omega)⟩
  split
  · refine ⟨_,_,rfl,⟨by simp,by simp; omega,fun z hz=>?_,by simp only [List.length_set]; exact h1.f2⟩,k3.mono (by omega)⟩
    rcases List.mem_append.1 hz with hz | hz
    · exact h1.ns z hz
    simp only [List.mem_cons,List.not_mem_nil,or_false] at hz
    rcases hz with rfl | rfl | rfl | rfl <;> decide
  exact ⟨_,_,rfl,hfs _,k3.mono (by omega)⟩
end AT
namespace AT
structure PlanD (p:Plan):Prop where
  net:NetD p.Network
  ls:p.Lights.length≤20
  rs:∀ x∈p.Lights,x.Route.Fibers.length≤20
theorem PlanD.B {p:Plan} (h:PlanD p):PlanB p:=⟨h.net.B,by have:=h.ls; omega,fun x hx=>by have:=h.rs x hx; omega⟩
theorem l4Own_eq (fu:Nat) (r:Route) (h:r.Fibers.length≤2097152):spec_l4Own fu r=some r:=by
  unfold spec_l4Own spec_l1Own
  rw [app_nil (by omega)]
  rfl
theorem plan_loop {fu:Nat} (hfu:2097153≤fu) (ns:List ByteArray) (fs:List Fiber) (hn:NetD ⟨ns,fs⟩) (h1:1≤fs.length):∀ (fk n:Nat) (L:List Light) (b:List By) (a:Int) (s:U64) (k B:Int),Cur ⟨b,a,s⟩ k→k≤B - 50 * (n:Int)→B≤800000000→L.length + n≤8→(∀ y∈L,blkOk y.Block=true)→(∀ y∈L,y.Route.Fibers.length≤4)→n<fk →
    ∃ n' L' b' a' s',spec_l1Cur_plan_L1 fu fk (n:Int) ns fs L b a s=some (n',ns,fs,L',b',a',s')∧L'.length≤8∧(∀ y∈L',y.Route.Fibers.length≤4)∧Cur ⟨b',a',s'⟩ B:=by
  intro fk
  induction fk with
  | zero=>intro n _ _ _ _ _ _ _ _ _ _ _ _ h; omega
  | succ fk ih =>
    intro n L b a s k B hc hk hB hl hb hr hf
    rw [spec_l1Cur_plan_L1]
    have f2:=hn.f2
    have n2:=hn.n2
    simp only at f2 n2
    by_cases h:0<n
    · have hlt:((n:Int) > 0)=True:=eq_true (by omega)
      have e:w64 ((n:Int) - 1)=((n - 1:Nat):Int):=w64_dec h (by omega)
      obtain ⟨r3,c3,g3,q1,q2,q3,k3⟩:=routed_ok hfu hc (by omega) (n:=⟨ns,fs⟩) h1 (by simp only; omega) (by simp only; omega)
      obtain ⟨r4,c4,g4,p0,p1,k4⟩:=pick_ok (fu:=fu) k3 (by omega) 5 (by decide)
      have p2:=p1 (by decide)
      have e4:w64 (1 + r4)=1 + r4:=w64_in (by omega) (by omega)
      have hal:=l9Along_eq hfu (⟨⟨ns,fs⟩,L⟩:Plan) r3 (by simp only; omega) hb (fun x hx=>by have:=hr x hx; omega) (by omega)
      have hfi:=fun m=>l8Fits_eq hfu m (1 + r4) (by omega) (by omega)
      simp only [hlt,decide_true,if_true,e,g3,g4,Option.bind_some,hal,e4,hfi]
      obtain ⟨F,hF⟩:∃ F,F=fits (along L r3.Fibers) (1 + r4):=⟨_,rfl⟩
      simp only [←hF]
      have hm:∀ t∈F,blkOk ⟨t,1 + r4⟩=true:=fun t ht=>by
        rw [hF,fits_mem (by omega) (by omega)] at ht
        unfold blkOk
        simp only [Bool.and_eq_true,decide_eq_true_eq]
        omega
      by_cases hz:F.length=0
      · have hz':((F.length:Int) > 0)=False:=eq_false (by omega)
        simp only [hz',decide_false,Bool.false_eq_true,if_false]
        exact ih (n - 1) L _ _ _ (k + 20 + 2) B k4 (by omega) hB (by omega) hb hr (by omega)
      have hz':((F.length:Int) > 0)=True:=eq_true (by omega)
      obtain ⟨e0,he0,hm0⟩:=idx_some (l:=F) (i:=0) (Int.le_refl _) (by omega)
      obtain ⟨r5,c5,g5,-,-,k5⟩:=pick_ok (fu:=fu) k4 (by omega) 2 (by decide)
      have hFl:F.length≤25:=by rw [hF]; exact fits_len _ _
      obtain ⟨r6,c6,g6,p6,p7,k6⟩:=pick_ok (fu:=fu) k5 (by omega) (F.length:Int) (by omega)
      obtain ⟨e1,he1,hm1⟩:=idx_some (l:=F) (i:=r6) p6 (p7 (by omega))
      obtain ⟨r7,c7,g7,-,-,k7⟩:=pick_ok (fu:=fu) k6 (by omega) 3 (by decide)
      obtain ⟨r8,c8,g8,-,-,k8⟩:=pick_ok (fu:=fu) k5 (by omega) 3 (by decide)
      have hput:∀ x:Light,x.Route=r3→spec_l9Put fu (⟨⟨ns,fs⟩,L⟩:Plan) x=some (addP ⟨⟨ns,fs⟩,L⟩ x):=fun x hx=>l9Put_eq hfu _ x ⟨hn.B,by simp only; omega,fun y hy=>by have:=hr y hy; omega⟩ (by rw [hx]; omega)
      simp only [hz',decide_true,if_true,he0,spec_l1Cur_one,g5,g6,he1,g7,g8,Option.bind_some]
      have step:∀ (x:Light) (c:L1CurP) (k':Int),x.Route=r3→blkOk x.Block=true→Cur c k'→k'≤k + 30→∃ n' L' b' a' s',((spec_l9Put fu (⟨⟨ns,fs⟩,L⟩:Plan) x).bind fun y=>spec_l1Cur_plan_L1 fu fk ((n - 1:Nat):Int) y.Network.Nodes y.Network.Fibers y.Lights c.code c.at_ c.seed)=some (n',ns,fs,L',b',a',s')∧L'.length≤8∧(∀ y∈L',y.Route.Fibers.length≤4)∧Cur ⟨b',a',s'⟩ B:=by
        intro x c k' hx hb' hc' hk'
        rw [hput x hx,Option.bind_some]
        refine ih (n - 1) (putL L x) _ _ _ k' B hc' (by omega) hB (by rw [putL_len]; omega) (fun y hy=>?_) (fun y hy=>?_) (by omega)
        · rcases putL_mem.1 hy with rfl | hy
          · exact hb'
          exact hb y hy
        rcases putL_mem.1 hy with rfl | hy
        · rw [hx]; omega
        exact hr y hy
      split
      · exact step _ c7 _ rfl (hm _ hm1) k7 (by omega)
      exact step _ c8 _ rfl (hm _ hm0) k8 (by omega)
    obtain rfl:n=0:=by omega
    rw [if_neg (by simp)]
    exact ⟨_,_,_,_,_,rfl,by omega,hr,hc.mono (by omega)⟩
theorem plan_ok {fu:Nat} (hfu:2097153≤fu) {c:L1CurP} {k:Int} (hc:Cur c k) (hk:k≤700000000):∃ r c',spec_l1Cur_plan fu c=some (r,c')∧PlanD r∧r.Lights.length≤8∧1≤r.Network.Fibers.length∧(∀ x∈r.Lights,x.Route.Fibers.length≤4)∧Cur c' (k + 1000):=by
  unfold spec_l1Cur_plan
  obtain ⟨n,c1,g1,h1,h2,k1⟩:=linked_ok hfu hc (by omega)
  obtain ⟨r2,c2,g2,p0,p1,k2⟩:=pick_ok (fu:=fu) k1 (by omega) 9 (by decide)
  have p2:=p1 (by decide)
  obtain ⟨n',L',b',a',s',g3,h3,h4,k3⟩:=plan_loop hfu n.Nodes n.Fibers h1 h2 fu r2.toNat [] c2.code c2.at_ c2.seed (k + 200 + 2) (k + 1000) k2 (by omega) (by omega) (by simp; omega) (by simp) (by simp) (by omega)
  rw [Int.toNat_of_nonneg p0] at g3
  simp only [g1,g2,g3,Option.bind_some]
  exact ⟨_,_,rfl,⟨h1,by simp only; omega,fun x hx=>by have:=h4 x hx; omega⟩,h3,h2,h4,k3⟩
theorem anyPlan_loop {fu:Nat} (y:Plan×L1CurP) (h1:1≤y.1.Network.Fibers.length):∀ (fk n:Nat) (L:List Light) (b:List By) (a:Int) (s:U64) (k B:Int),Cur ⟨b,a,s⟩ k→k≤B + 2 * (n:Int)→B≤800000000→n≤14→L.length≤13→(∀ y∈L,y.Route.Fibers.length≤20)→15 - n<fk →
    ∃ n' L' b' a' s',spec_l1Cur_anyPlan_L1 fu y fk (n:Int) L b a s=some (n',L',b',a',s')∧L'.length≤13∧(∀ y∈L',y.Route.Fibers.length≤20)∧Cur ⟨b',a',s'⟩ (B + 60):=by
  intro fk
  induction fk with
  | zero=>intro n _ _ _ _ _ _ _ _ _ _ _ _ h; omega
  | succ fk ih =>
    intro n L b a s k B hc hk hB hn hl hr hf
    rw [spec_l1Cur_anyPlan_L1]
    obtain ⟨r1,c1,g1,p0,p1,k1⟩:=pick_ok (fu:=fu) hc (by omega) 2 (by decide)
    have p2:=p1 (by decide)
    have e:w64 (12 + r1)=12 + r1:=w64_in (by omega) (by omega)
    have e1:w64 ((n:Int) + 1)=((n + 1:Nat):Int):=by rw [w64_in (by omega) (by omega)]; omega
    obtain ⟨e0,he0,-⟩:=idx_some (l:=y.1.Network.Fibers) (i:=0) (Int.le_refl _) (by omega)
    have ha:∀ x:Light,app L [x]=some (L++[x]):=fun x=>app1 (by omega)
    simp only [g1,Option.bind_some,e,e1,he0,ha]
    split
    · rename_i h
      have h':(L.length:Int)<12 + r1:=by simpa using h
      split
      · rename_i h3
        have h3':(n:Int)<14:=by simpa using h3
        refine ih (n + 1) _ _ _ _ (k + 2) B k1 (by omega) hB (by omega) (by simp; omega) (fun x hx=>?_) (by omega)
        rcases List.mem_append.1 hx with hx | hx
        · exact hr x hx
        simp only [List.mem_singleton] at hx; subst hx; simp
      exact ⟨_,_,_,_,_,rfl,hl,hr,k1.mono (by omega)⟩
    exact ⟨_,_,_,_,_,rfl,hl,hr,k1.mono (by omega)⟩
theorem anyPlan_ok {fu:Nat} (hfu:2097153≤fu) {c:L1CurP} {k:Int} (hc:Cur c k) (hk:k≤600000000):∃ r c',spec_l1Cur_anyPlan fu c=some (r,c')∧PlanD r∧Cur c' (k + 3000):=by
  unfold spec_l1Cur_anyPlan
  obtain ⟨p,c1,g1,h1,h2,h3,h4,k1⟩:=plan_ok hfu hc (by omega)
  simp only [g1,Option.bind_some]
  by_cases h:p.Lights.length=0
  · have h':((p.Lights.length:Int)==0)=true:=by simp [h]
    simp only [h',if_true]
    exact ⟨_,_,rfl,h1,k1.mono (by omega)⟩
  have h':((p.Lights.length:Int)==0)=false:=by simpa using h
  obtain ⟨r2,c2,g2,p0,p1,k2⟩:=pick_ok (fu:=fu) k1 (by omega) (p.Lights.length:Int) (by omega)
  have p2:=p1 (by omega)
  obtain ⟨e,he,hem⟩:=idx_some (l:=p.Lights) (i:=r2) p0 p2
  obtain ⟨r3,c3,g3,-,-,k3⟩:=pick_ok (fu:=fu) k2 (by omega) 24 (by decide)
  obtain ⟨r4,c4,g4,-,k4⟩:=among_ok (fu:=fu) k3 (by omega) [0,999,1000,1,4] (by decide) (by decide)
  obtain ⟨r5,c5,g5,k5⟩:=block_ok (fu:=fu) k3 (by omega)
  obtain ⟨r6,c6,g6,h6,k6⟩:=anyRoute_ok hfu k3 (by omega) (n:=p.Network) (by have:=h1.net.f2; omega) (by have:=h1.net.n2; omega)
  obtain ⟨r7,c7,g7,h7,k7⟩:=anyNetwork_ok hfu k3 (by omega)
  obtain ⟨n8,L8,b8,a8,s8,g8,l8,m8,k8⟩:=anyPlan_loop (fu:=fu) (p,c1) h3 fu 0 p.Lights c3.code c3.at_ c3.seed (k + 1000 + 2 + 2) (k + 1010) k3 (by omega) (by omega) (by omega) (by omega) (fun x hx=>by have:=h4 x hx; omega) (by omega)
  rw [Int.ofNat_zero] at g8
  have hr:=h4 e hem
  have hset:∀ (x:Light),x.Route.Fibers.length≤5→PlanD ⟨p.Network,p.Lights.set r2.toNat x⟩:=fun x hx=>⟨h1.net,by simp only [List.length_set]; omega,fun y hy=>by
    rcases List.mem_or_eq_of_mem_set hy with hy | rfl
    · have:=h4 y hy; omega
    omega⟩
  have ha:app p.Lights [e]=some (p.Lights++[e]):=app1 (by omega)
  obtain ⟨e9,he9,-⟩:=idx_some (l:=p.Lights++[e]) (i:=r2) p0 (by simp; omega)
  simp only [h',Bool.false_eq_true,if_false,g2,g3,g4,g5,g6,g7,g8,he,ha,he9,Option.bind_some]
  split
  · exact ⟨_,_,rfl,hset _ (by simp only; omega),k4.mono (by omega)⟩
  split
  · exact ⟨_,_,rfl,hset _ (by simp only; omega),k5.mono (by omega)⟩
  split
  · exact ⟨_,_,rfl,hset _ (by simp only; omega),k6.mono (by omega)⟩
  split
  · refine ⟨_,_,rfl,⟨h1.net,by simp; omega,fun y hy=>?_⟩,k3.mono (by omega)⟩
    rcases List.mem_or_eq_of_mem_set hy with hy | rfl
    · rcases List.mem_append.1 hy with hy | hy
      · have:=h4 y hy; omega
      simp only [List.mem_singleton] at hy; subst hy; omega
    omega
  split
  · exact ⟨_,_,rfl,⟨h7,by simp only [List.length_set]; omega,(hset e (by omega)).rs⟩,k7.mono (by omega)⟩
  split
  · exact ⟨_,_,rfl,⟨h1.net,by simp only; omega,m8⟩,k8.mono (by omega)⟩
  exact ⟨_,_,rfl,hset _ (by omega),k3.mono (by omega)⟩
end AT
