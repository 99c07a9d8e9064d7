/- FnSafeOrder, plainly. -/
import Derived.Test.YtlemonjnolciiaaGreatQDPlan
import Derived.Test.YtlemonjnolciiaaGreatP1
set_option linter.unusedSimpArgs false
set_option linter.unusedVariables false
namespace AT
theorem gie {fu:Nat} {c:L1CurP} {k:Int} (hc:Cur c k) (hk:k≤4611686018427387000) (n:Int) (hn:n≤1099511627776):∃ r c',u3 fu c n=some (r,c')∧Cur c' (k + 2):=by
 unfold u3
 obtain ⟨r,c',g1,-,-,g4⟩:=vr (fu:=fu) hc hk n hn
 rw [g1]
 exact ⟨_,_,rfl,g4⟩
theorem gkM {r:Plan} (hB:yS r) (i j:Nat) {x y:Light} (hx:x.Route.Fibers.length≤2097152) (hy:y.Route.Fibers.length≤2097152):yS { Network:=r.Network,Lights:=(r.Lights.set i x).set j y }:=by
 refine ⟨hB.1,by simp only [List.length_set]; exact hB.2.1,fun z hz=>?_⟩
 rcases List.mem_or_eq_of_mem_set hz with hz | rfl
 rcases List.mem_or_eq_of_mem_set hz with hz | rfl
 exact hB.2.2 z hz
 exact hx
 exact hy
theorem gkz {fu:Nat} (hfu:2097153≤fu) {x:List By} (hc:Cur ⟨x,0,⟨0⟩⟩ 0):∃ p q,yE fu x=some (p,q)∧yS p∧yS q:=by
 unfold yE xV zj
 obtain ⟨p,c1,g1,h1,k1⟩:=ghA hfu hc (by omega)
 simp only [g1,Option.bind_some,yP hfu p h1.B]
 cases hp:vm p
 obtain ⟨q,c2,g2,h2,-⟩:=ggu hfu k1 (by omega)
 simp only [Bool.not_false,if_true,g2,Option.bind_some]
 exact ⟨_,_,rfl,h1.B,h2.B⟩
 obtain ⟨b,c2,g2,k2⟩:=gie (fu:=fu) k1 (by omega) 16 (by decide)
 simp only [Bool.not_true,Bool.false_eq_true,if_false,g2,Option.bind_some]
 cases b
 obtain ⟨l,c3,g3,h3,h4,k3⟩:=ghC hfu k2 (by omega) h1
 have hA:gdM l:=⟨by omega,fun a ha=>by have:=h4 a ha; omega⟩
 have hok:=gfy l p hp h1.B hA.2
 simp only [g3,Option.bind_some,giw hfu p l hA hp h1.B,Bool.false_eq_true,if_false]
 generalize (acts l p).1=r at hok
 have hrB:=hok.2.1
 by_cases hl:(r.Lights.length:Int) > 1
 obtain ⟨b4,c4,g4,k4⟩:=gie (fu:=fu) k3 (by omega) 3 (by decide)
 simp only [hl,decide_true,if_true,g4,Option.bind_some]
 cases b4
 exact ⟨_,_,rfl,h1.B,hrB⟩
 have e0:idx r.Lights 0=some (gd r.Lights 0 l0):=vW l0 (show 0<r.Lights.length by omega)
 have e1:idx r.Lights 1=some (gd r.Lights 1 l0):=vW l0 (show 1<r.Lights.length by omega)
 have e2:∀ z,idx (r.Lights.set (0:Int).toNat z) 1=some (gd (r.Lights.set (0:Int).toNat z) 1 l0):=fun z=>vW l0 (show 1<(r.Lights.set (0:Int).toNat z).length by rw [List.length_set]; omega)
 have m0:=hrB.2.2 _ (gav (l:=r.Lights) l0 (show 0<r.Lights.length by omega))
 have m1:=hrB.2.2 _ (gav (l:=r.Lights) l0 (show 1<r.Lights.length by omega))
 have hB2:=gkM hrB (0:Int).toNat (1:Int).toNat (x:={ Id:=(gd r.Lights 0 l0).Id,Route:=(gd r.Lights 0 l0).Route,Block:=(gd r.Lights 1 l0).Block }) (y:={ Id:=(gd r.Lights 1 l0).Id,Route:=(gd r.Lights 1 l0).Route,Block:=(gd r.Lights 0 l0).Block }) m0 m1
 simp only [e0,e1,e2,Option.bind_some,gd8 hfu r hrB,yP hfu _ hB2,if_true]
 split
 exact ⟨_,_,rfl,h1.B,hB2⟩
 exact ⟨_,_,rfl,h1.B,hrB⟩
 simp only [hl,decide_false,Bool.false_eq_true,if_false,Option.bind_some]
 exact ⟨_,_,rfl,h1.B,hrB⟩
 obtain ⟨q,c3,g3,h3,-⟩:=ggu hfu k2 (by omega)
 simp only [if_true,g3,Option.bind_some]
 exact ⟨_,_,rfl,h1.B,h3.B⟩
theorem giK {fu:Nat} (hfu:2097153≤fu) (x0 x1:Plan) (hp:yS x0) (hq:yS x1):∃ L ok,xu fu x0 x1=some (L,ok)∧xx fu x0 x1=some (L,ok)∧(ok=true→vm x0=true∧vm x1=true∧gb3 x0.Network x1.Network=true∧L=dif x0 x1∧L.length≤8∧gdM L):=by
 unfold xu xx
 rw [yP hfu x0 hp,gaC hfu x0 hp,yP hfu x1 hq,gaC hfu x1 hq,geR hfu x0 x1 hp.1,gd1 hfu _ _ hp.1]
 simp only [Option.bind_some]
 cases h0:vm x0
 exact ⟨_,_,rfl,rfl,fun h=>by cases h⟩
 cases h1:vm x1
 exact ⟨_,_,rfl,rfl,fun h=>by cases h⟩
 cases h2:gb3 x0.Network x1.Network
 exact ⟨_,_,rfl,rfl,fun h=>by cases h⟩
 have s0:=(ghe h0).short
 have s1:=(ghe h1).short
 simp only [Bool.not_true,Bool.false_eq_true,if_false,Option.bind_some,ggq hfu x0 x1 hp hq s0 s1]
 have g1:=gdo x0.Lights (fun x=>!has_ x1 x.Id) (fun x=>(⟨2,x⟩:Action)) (ve fu x0 x1) hp.2.1
   (fun fk i o h ho=>by
     have h':(i:Int)<(x0.Lights.length:Int):=by omega
     obtain ⟨y,-,y2,y3,-⟩:=gdn hfu x1 x0.Lights[i].Id hq.2.1
     have ha:app o [(⟨2,x0.Lights[i]⟩:Action)]=some (o++[(⟨2,x0.Lights[i]⟩:Action)]):=zz (by rw [List.length_singleton]; omega)
     rw [ve]
     simp only [h',decide_true,if_true,xa h,Option.bind_some,y2,y3,ha])
   (fun fk o=>by rw [ve,if_neg (by simp)]) fu 0 [] (by omega) (by omega) (by simp; omega)
 rw [show ((0:Nat):Int)=0 from rfl,List.nil_append,List.drop_zero] at g1
 obtain ⟨z,g2⟩:=gi4 hfu x0 x1 hp hq s1 fu 0 [] [] (by omega) (by omega) (by simp) (by simp)
 rw [show ((0:Nat):Int)=0 from rfl,List.nil_append,List.nil_append,List.drop_zero] at g2
 have lr:(remL x0 x1).length≤12:=by unfold remL; rw [List.length_map]; exact Nat.le_trans (List.length_filter_le _ _) s0
 have lm:(movL x0 x1 x1.Lights).length≤12:=by unfold movL; rw [List.length_map]; exact Nat.le_trans (List.length_filter_le _ _) s1
 have la:(addL x0 x1 x1.Lights).length≤12:=by unfold addL; rw [List.length_map]; exact Nat.le_trans (List.length_filter_le _ _) s1
 have g3:uU fu [(x0.Lights.filter fun x=>!has_ x1 x.Id).map (fun x=>(⟨2,x⟩:Action)),movL x0 x1 x1.Lights,addL x0 x1 x1.Lights]=some (remL x0 x1++(movL x0 x1 x1.Lights++addL x0 x1 x1.Lights)):=by
   rw [giM hfu _ (by simp) (fun x hx=>by
     simp only [List.mem_cons,List.not_mem_nil,or_false] at hx
     rcases hx with rfl | rfl | rfl
     · have:((x0.Lights.filter fun x=>!has_ x1 x.Id).map (fun x=>(⟨2,x⟩:Action))).length≤12:=lr
       omega
     · omega
     · omega)]
   simp [remL]
 have hlen:(remL x0 x1++(movL x0 x1 x1.Lights++addL x0 x1 x1.Lights)).length≤36:=by rw [List.length_append,List.length_append]; omega
 have hA:gdM (remL x0 x1++(movL x0 x1 x1.Lights++addL x0 x1 x1.Lights)):=⟨by omega,fun a ha=>by
   rcases gjA ha with h | h
   · exact hp.2.2 _ h
   · exact hq.2.2 _ h⟩
 rw [g1]
 simp only [Option.bind_some,g2,g3,geV hfu _ hA]
 by_cases h8:((remL x0 x1++(movL x0 x1 x1.Lights++addL x0 x1 x1.Lights)).length:Int) > 8
 simp only [h8,decide_true,if_true]
 exact ⟨_,_,rfl,rfl,fun h=>by cases h⟩
 simp only [h8,decide_false,Bool.false_eq_true,if_false]
 exact ⟨_,_,rfl,rfl,fun _=>⟨trivial,trivial,trivial,rfl,by omega,hA⟩⟩
theorem geD {fu:Nat} (hfu:2097153≤fu) (a b:Network) (ha:NetB a) (h:gb3 a b=true):yQ fu a b=some true:=by
 have h1:=ha.1.1
 have h2:=ha.2
 unfold gb3 at h
 simp only [Bool.and_eq_true,decide_eq_true_eq,Bool.not_eq_true'] at h
 obtain ⟨e1,e2,e3,e4⟩:=h
 unfold yQ
 rw [gfZ,gfZ,decide_eq_true e1,decide_eq_true e2]
 rw [xb (l:=List.range a.Nodes.length) (G:=vh fu a b) (gcG a b) (fun _=>false) (by simp; omega)
     (fun fk i hi=>by
       have hi':i<a.Nodes.length:=by simpa using hi
       have h':(i:Int)<(a.Nodes.length:Int):=by omega
       rw [vh,List.getElem_range]
       simp only [h',decide_true,if_true,vW nm0 hi',vW nm0 (show i<b.Nodes.length by omega),Option.bind_some,gcG]
       rfl)
     (fun fk=>by rw [List.length_range,vh,if_neg (by simp)]) fu (by simp; omega)]
 rw [xb (l:=List.range a.Fibers.length) (G:=vg fu a b) (gfq a b) (fun _=>false) (by simp; omega)
       (fun fk i hi=>by
         have hi':i<a.Fibers.length:=by simpa using hi
         have h':(i:Int)<(a.Fibers.length:Int):=by omega
         rw [vg,List.getElem_range]
         simp only [h',decide_true,if_true,vW f0 hi',vW f0 (show i<b.Fibers.length by omega),Option.bind_some,gfq]
         rfl)
       (fun fk=>by rw [List.length_range,vg,if_neg (by simp)]) fu (by simp; omega)]
 rw [e3,e4]
 rfl
theorem ggm {fu:Nat} (hfu:2097153≤fu) (p q:Plan) (hp:yS p) (hn:gb3 p.Network q.Network=true) (hl:p.Lights=q.Lights):z9 fu p q=some true:=by
 have h:=ggl hfu p hp
 unfold z9 at h ⊢
 rw [geD hfu _ _ hp.1 hn]
 rw [gcC hfu _ hp.1] at h
 have e:∀ fk i,vZ fu p q fk i=vZ fu p p fk i:=by
   intro fk
   induction fk with
   | zero=>intro i; rfl
   | succ fk ih =>
     intro i
     rw [vZ,vZ,←hl]
     simp only [ih]
 rw [e,←hl]
 exact h
theorem ghg {fu:Nat} (L:List Action) (hL:L.length≤8) (is:List Nat) (his:is.length≤8) (hm:∀ i∈is,i<L.length) (b:Bool) (y2:List Int×Bool×List Bool) (h2:y2.1=ordI is):∀ (fk i:Nat) (o:List Action),i≤is.length→is.length - i<fk→o.length≤i →
    ∃ z,xt fu (L,b) y2 fk o (i:Int)=some (o++pick L (is.drop i),z):=by
 intro fk
 induction fk with
 | zero=>intro i o _ h; omega
 | succ fk ih =>
   intro i o hi hk ho
   rw [xt,h2,gcv]
   by_cases h:i<is.length
   · have hmi:is[i]<L.length:=hm _ (List.getElem_mem h)
     have hx:idx (ordI is) (i:Int)=some ((is[i]:Nat):Int):=by
       rw [xa (show i<(ordI is).length by rw [gcv]; exact h)]
       simp [ordI]
     have hn9:(is.length:Int)≤9223372036854775807:=by omega
     rw [if_pos (by simpa using h),hx,Option.bind_some,vW a0 hmi,Option.bind_some,zz (by rw [List.length_singleton]; omega),Option.bind_some,xo h hn9]
     obtain ⟨z,hz⟩:=ih (i + 1) (o++[gd L is[i] a0]) h (by omega) (by simp; omega)
     refine ⟨z,?_⟩
     rw [hz,←List.getElem_cons_drop h]
     simp only [pick,List.map_cons,List.append_assoc,List.singleton_append]
   · obtain rfl:i=is.length:=by omega
     rw [if_neg (by simp),List.drop_length]
     exact ⟨_,by rw [show pick L []=[] from rfl,List.append_nil]⟩
theorem gi6 {n:Nat} (hn:n≤8):SfS n [] 0∧ggi n [] (List.replicate (2 ^ n) false):=by
 have h:=geY hn
 refine ⟨⟨by omega,.nil,fun i=>by simp⟩,⟨List.length_replicate,fun v hv=>?_⟩⟩
 rw [gd,List.getElem?_replicate,if_pos hv]
 rfl
theorem gd4 (x0:List By) (o0:gjW x0):∃ fu,z5 fu x0=some true:=by
 obtain ⟨fu,hfu4⟩:∃ fu,2097200≤fu:=⟨2097200,Nat.le_refl _⟩
 have hfu:2097153≤fu:=by omega
 refine ⟨fu,?_⟩
 unfold z5 gdj
 by_cases hb:(x0.length:Int) > 65536
 simp only [hb,decide_true,Option.bind_some,if_true]
 simp only [hb,decide_false,Option.bind_some,Bool.false_eq_true,if_false]
 have hc:Cur ⟨x0,0,⟨0⟩⟩ 0:=ghN o0.1 (by omega)
 obtain ⟨p,q,g1,hp,hq⟩:=gkz hfu hc
 obtain ⟨L,ok,g2,g3,g4⟩:=giK hfu p q hp hq
 rw [g1,Option.bind_some]
 unfold gaI gaH
 rw [g2,g3]
 simp only [Option.bind_some]
 cases ok
 rfl
 obtain ⟨hpo,hqo,hns,hLd,h8,hA⟩:=g4 rfl
 have hpow:=geY h8
 obtain ⟨hS,hR⟩:=gi6 h8
 have h9:9 ^ L.length≤9 ^ 8:=Nat.pow_le_pow_right (by omega) h8
 obtain ⟨is,ok,dead',failed',r1,r2,-,-,hg⟩:=gkN hA h8 (B:=9 ^ 8) (by decide) L.length fu p [] 0 [] (List.replicate (2 ^ L.length) false) (by omega) hpo hp hS (by simp) hR (by simpa using h9)
 have hw:w64 (((2 ^ L.length:Nat):Int) - 1)=((2 ^ L.length - 1 - 0:Nat):Int):=by
   rw [vV (by omega) (by omega)]; omega
 have hmk:mk (false:Bool) ((2 ^ L.length:Nat):Int)=some (List.replicate (2 ^ L.length) false):=by
   unfold mk
   rw [if_pos ⟨by omega,by omega⟩,Int.toNat_natCast]
 have hwu:=wuS (n:=L.length) (by omega)
 have r2':uS fu ({ list:=L,failed:=List.replicate (2 ^ L.length) false }:L20SearchP) p ([]:List Int) 0=_:=r2
 simp only [Bool.not_true,Bool.false_eq_true,if_false,hwu,gjM h8,Option.bind_some,hw,hmk,r1,r2']
 clear hw hwu
 cases ok
 rfl
 have hG:=hg rfl
 have hlen:is.length=L.length∧(acts (pick L is) p).1.Lights=q.Lights:=by
   subst hLd
   have:=gla hpo hqo hp hA hG
   exact ⟨this.2,this.1⟩
 obtain ⟨z,hz⟩:=ghg (fu:=fu) L h8 is (by omega) (fun i hi=>(hG.mem i).1 (by simpa using hi)) true (ordI ([]++is),true,failed') rfl fu 0 [] (by omega) (by omega) (by simp)
 rw [show ((0:Nat):Int)=0 from rfl] at hz
 simp only [if_true,Bool.not_true,Bool.false_eq_true,if_false,hz,Option.bind_some,bne_self_eq_false]
 have hpl:(pick L is).length≤8:=by rw [gdg]; omega
 have hA2:gdM (pick L is):=⟨by omega,fun a ha=>by
   obtain ⟨i,hi,rfl⟩:=List.mem_map.1 ha
   exact hA.2 _ (gav a0 ((hG.mem i).1 (by simpa using hi)))⟩
 have hok:=gfy (pick L is) p hpo hp hA2.2
 have hae:(acts (pick L is) p).2=(pick L is).length:=by rw [gdg]; exact hG.acts
 have happ:za fu p (pick L is)=some ((acts (pick L is) p).1,((pick L is).length:Int),true):=by
   unfold za
   have n8:¬((pick L is).length:Int) > 8:=by omega
   rw [gaC hfu p hp,hpo]
   simp only [Option.bind_some,Bool.not_true,Bool.false_eq_true,if_false,n8,decide_false,ghz hfu p _ hA2 hpo hp,hae,Int.lt_irrefl]
 have hlL:(((pick L is).length:Nat):Int)=(L.length:Int):=by rw [gdg]; omega
 simp only [happ,Option.bind_some,if_true,beq_self_eq_true,hlL,ggm hfu _ q hok.2.1 (by rw [hok.2.2.1]; exact hns) hlen.2]
end AT
