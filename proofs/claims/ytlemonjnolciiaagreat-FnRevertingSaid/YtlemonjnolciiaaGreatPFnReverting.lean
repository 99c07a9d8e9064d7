/- FnReverting, plainly. -/
import Derived.Test.YtlemonjnolciiaaGreatQDPlanA
import Derived.Test.YtlemonjnolciiaaGreatQDRest
set_option linter.unusedSimpArgs false
set_option linter.unusedVariables false
namespace AT
theorem vInts_eq {fu:Nat} (hfu:2097153≤fu) (l:List Int) (h:l.length≤2097152):laws_vInts fu l l=some true:=by
  unfold laws_vInts
  have h1:((l.length:Int) != (l.length:Int))=false:=by simp
  rw [h1,if_neg Bool.false_ne_true,eq_all0 l (laws_vInts_L1 fu l l) h (fun fk i=>by rw [laws_vInts_L1]) fu (by omega)]
  rfl
theorem vLights_eq {fu:Nat} (hfu:2097153≤fu) (x:Light) (h:x.Route.Fibers.length≤2097152):laws_vLights fu x x=some true:=by
  unfold laws_vLights laws_vRoutes
  rw [vInts_eq hfu _ h]
  simp
theorem vHas_eq {fu:Nat} (l:List Int) (v:Int) (h:l.length<fu) (hn:l.length≤2097152):laws_vHas fu l v=some (l.any fun x=>x==v):=by
  unfold laws_vHas
  rw [scan_all (l:=l) (G:=laws_vHas_L1 fu l v) (fun x=>x==v) (fun i=>true) (by omega)
    (fun fk i hi=>by rw [laws_vHas_L1,if_pos (by simpa using hi),idx_in hi]; rfl)
    (fun fk=>by rw [laws_vHas_L1,if_neg (by simp)]) fu h]
  cases l.any (fun x=>x==v) <;> rfl
theorem vLights_some {fu:Nat} (hfu:2097153≤fu) (a b:Light) (ha:a.Route.Fibers.length≤2097152):∃ c,laws_vLights fu a b=some c:=by
  unfold laws_vLights laws_vRoutes laws_vInts
  by_cases h:a.Route.Fibers.length=b.Route.Fibers.length
  · have h1:((a.Route.Fibers.length:Int) != (b.Route.Fibers.length:Int))=false:=by rw [h]; simp
    have hl:=scan_all (l:=List.range a.Route.Fibers.length) (G:=laws_vInts_L1 fu a.Route.Fibers b.Route.Fibers) (fun i=>gd a.Route.Fibers i 0 != gd b.Route.Fibers i 0) (fun _=>false) (by simp; omega)
      (fun fk i hi=>by
        have hi':i<a.Route.Fibers.length:=by simpa using hi
        have h':(i:Int)<(a.Route.Fibers.length:Int):=by omega
        rw [laws_vInts_L1,List.getElem_range]
        simp only [h',decide_true,if_true,idx_gd 0 hi',idx_gd 0 (show i<b.Route.Fibers.length by omega),Option.bind_some])
      (fun fk=>by rw [List.length_range,laws_vInts_L1,if_neg (by simp)]) fu (by simp; omega)
    rw [h1,if_neg Bool.false_ne_true,hl]
    cases (List.range a.Route.Fibers.length).any (fun i=>gd a.Route.Fibers i 0 != gd b.Route.Fibers i 0) <;> cases a.Id==b.Id <;> cases ([a.Block.First,a.Block.Count]:List Int)==([b.Block.First,b.Block.Count]:List Int) <;> cases a.Route.Start==b.Route.Start <;> exact ⟨_,rfl⟩
  have h1:((a.Route.Fibers.length:Int) != (b.Route.Fibers.length:Int))=true:=by simp; omega
  rw [h1,if_pos rfl]
  cases a.Id==b.Id <;> cases ([a.Block.First,a.Block.Count]:List Int)==([b.Block.First,b.Block.Count]:List Int) <;> cases a.Route.Start==b.Route.Start <;> exact ⟨_,rfl⟩
theorem home_loop {fu:Nat} (hfu:2097153≤fu) (r:Restoration) (hl:r.Home.length≤1000) (x:Light) (hx:x.Route.Fibers.length≤2097152):∀ (fk i:Nat) (b:Bool),i≤r.Home.length→r.Home.length - i<fk→(b=true∨x∈r.Home.drop i)→∃ z,laws_FnReverting_L2 fu r x fk b i=some (true,z):=by
  intro fk
  induction fk with
  | zero=>intro i _ _ h; omega
  | succ fk ih =>
    intro i b hi hk hb
    rw [laws_FnReverting_L2]
    by_cases h:i<r.Home.length
    · have hwi:=w64_inc h (show (r.Home.length:Int)≤9223372036854775807 by omega)
      rw [if_pos (by simpa using h),idx_in h]
      cases b
      · rw [←List.getElem_cons_drop h,List.mem_cons] at hb
        obtain ⟨c,hc⟩:=vLights_some hfu x r.Home[i] hx
        rw [if_neg Bool.false_ne_true,Option.bind_some,hc,Option.bind_some,Option.bind_some,hwi]
        clear hwi
        refine ih (i + 1) c h (by omega) ?_
        rcases hb with hb | hb | hb
        · cases hb
        · left
          rw [←hb,vLights_eq hfu x hx] at hc
          injection hc with hc
          exact hc.symm
        exact .inr hb
      rw [if_pos rfl,Option.bind_some,hwi]
      clear hwi
      exact ih (i + 1) true h (by omega) (.inl rfl)
    obtain rfl:i=r.Home.length:=by omega
    rw [if_neg (by simp)]
    rcases hb with rfl | hb
    · exact ⟨_,rfl⟩
    rw [List.drop_length] at hb
    cases hb
theorem rev_law {fu:Nat} (hfu:2097153≤fu) (r:Restoration) (hF:RestF r) (y:Restoration×List Int×Bool) (hy:y=(⟨⟨r.Plan.Network,(revd r).1⟩,r.Home,r.Down⟩,(revd r).2,true)):∀ (fk i:Nat),i≤r.Plan.Lights.length→r.Plan.Lights.length - i<fk→∃ z,laws_FnReverting_L1 fu r y fk i r.Plan.Lights=some (.next z):=by
  have hI:=hF.rvI
  have h12:r.Plan.Lights.length≤12:=(planF hF.plan).short
  have h12h:r.Home.length≤12:=(planF hF.home).short
  have hlen:=hI.len
  have hil:=revd_len hF
  have hLF:=planF hI.ok
  have e1:y.1.Plan.Lights=(revd r).1:=by rw [hy]
  have e2:y.2.1=(revd r).2:=by rw [hy]
  intro fk
  induction fk with
  | zero=>intro i _ h; omega
  | succ fk ih =>
    intro i hi hk
    rw [laws_FnReverting_L1,e1,e2]
    by_cases h:i<r.Plan.Lights.length
    · have h2:i<(revd r).1.length:=by omega
      have hid:=hI.id h
      obtain ⟨x,ex⟩:∃ x,x=gd (revd r).1 i l0:=⟨_,rfl⟩
      have hx:=(hLF.light x (by rw [ex]; exact gd_mem l0 h2)).short
      have hwi:=w64_inc h (show (r.Plan.Lights.length:Int)≤9223372036854775807 by omega)
      rw [if_pos (by simpa using h2),idx_gd l0 h2,←ex,Option.bind_some,vHas_eq _ _ (by omega) (by omega),Option.bind_some,hwi]
      clear hwi
      cases hh:(revd r).2.any fun z=>z==x.Id
      · have hn:(gd r.Plan.Lights i l0).Id∉(revd r).2:=fun hm=>by
          rw [Bool.eq_false_iff] at hh
          exact hh (List.any_eq_true.2 ⟨_,hm,by rw [ex,hid]; simp⟩)
        have he:=hI.old i h hn
        rw [if_pos (by decide),idx_gd l0 h,Option.bind_some,←he,←ex,vLights_eq hfu x (by omega),Option.bind_some,if_neg (by decide)]
        exact ih (i + 1) h (by omega)
      obtain ⟨z,hz,hzz⟩:=List.any_eq_true.1 hh
      rw [beq_iff_eq] at hzz
      have hm:(gd r.Plan.Lights i l0).Id∈(revd r).2:=by rw [←hid,←ex,←hzz]; exact hz
      obtain ⟨a1,a2⟩:=hI.new i h hm
      have hin:hasL r.Home (gd r.Plan.Lights i l0).Id=true:=hF.sub _ (List.any_eq_true.2 ⟨_,gd_mem l0 h,by simp⟩)
      have hmem:x∈r.Home:=by rw [ex,a1]; exact homeI_mem hin
      obtain ⟨z2,hz2⟩:=home_loop hfu r (by omega) x (by omega) fu 0 false (by omega) (by omega) (.inr (by rw [List.drop_zero]; exact hmem))
      rw [show ((0:Nat):Int)=0 from rfl] at hz2
      rw [if_neg (by decide),hz2,Option.bind_some]
      dsimp only
      rw [if_neg (by decide)]
      exact ih (i + 1) h (by omega)
    obtain rfl:i=r.Plan.Lights.length:=by omega
    rw [if_neg (by simp; omega)]
    exact ⟨_,rfl⟩
theorem FnReverting_true (x0:List By) (o0:ok_ByS x0):∃ fu,laws_FnReverting fu x0=some true:=by
  obtain ⟨fu,hfu4⟩:∃ fu,2097200≤fu:=⟨2097200,Nat.le_refl _⟩
  have hfu:2097153≤fu:=by omega
  refine ⟨fu,?_⟩
  unfold laws_FnReverting laws_vBig
  by_cases hb:(x0.length:Int) > 65536
  · simp only [hb,decide_true,Option.bind_some,if_true]
  simp only [hb,decide_false,Option.bind_some,Bool.false_eq_true,if_false]
  have hc:Cur ⟨x0,0,⟨0⟩⟩ 0:=start_cur o0.1 (by omega)
  obtain ⟨r,g1,hB⟩:=drawRevert hfu4 hc
  rw [g1,Option.bind_some,implRevert_eq hfu r hB,Option.bind_some,specRevert_eq hfu r hB,Option.bind_some]
  cases hv:rsOk r
  · have hn:=vInts_eq hfu [] (by simp)
    simp only [Bool.false_eq_true,if_false,bne_self_eq_false,hn,Option.bind_some,Bool.not_true,Bool.not_false,if_true,beq_self_eq_true]
  have hF:=restF.1 hv
  have hF2:=revd_ok hF
  have hil:=revd_len hF
  have hlen:=hF.rvI.len
  have h12:r.Plan.Lights.length≤12:=(planF hF.plan).short
  have hB2:RestB ⟨⟨r.Plan.Network,(revd r).1⟩,r.Home,r.Down⟩:=⟨⟨hB.1.1,by simp only; omega,fun x hx=>by have:=((planF hF.rvI.ok).light x hx).short; omega⟩,hB.2⟩
  have hv2:=restF.2 hF2
  have hn:=vInts_eq hfu (revd r).2 (by omega)
  obtain ⟨z,hz⟩:=rev_law hfu r hF _ rfl fu 0 (by omega) (by omega)
  rw [show ((0:Nat):Int)=0 from rfl] at hz
  rw [if_pos rfl]
  have hc1:(if (true != true)=true then some true else (laws_vInts fu (revd r).2 (revd r).2).bind fun y5=>if (!y5)=true then some true else some (!true))=some false:=by
    rw [hn]; rfl
  dsimp only
  rw [hc1,Option.bind_some,if_neg Bool.false_ne_true,implRest_eq hfu _ hB2,hv2,Option.bind_some,if_neg (by decide),hlen,bne_self_eq_false,Option.bind_some,if_neg Bool.false_ne_true,hz]
  rfl
end AT
