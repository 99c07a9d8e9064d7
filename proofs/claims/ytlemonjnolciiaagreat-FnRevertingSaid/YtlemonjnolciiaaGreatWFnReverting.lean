/- The Go functions do what is told of them, by program (gen.py). -/
import Derived.Test.YtlemonjnolciiaaGreatWFnReverting5
set_option linter.unusedVariables false
set_option linter.unusedSimpArgs false
set_option maxRecDepth 100000
set_option maxHeartbeats 1000000
namespace AT
open Go Go.RowKit Go.Proofs
variable {fu:Nat} {w0:World}
theorem impl_RevertLights_ok {S:Nat→Prop} {v0_:Value} {r':Restoration} {r:Restoration×List Int×Bool} (h0:VR w0 S v0_ r') (hF:impl_RevertLights fu r'=some r) :
    Calls Tryz.prog 22 [v0_].toArray w0 fun e w'=>∃ v,e=.returned v∧(Below w0.heap.size w0 w'∧∃ u0 u1 u2,v=.tuple #[u0,u1,u2]∧VR w' (St ⟨w0,[]⟩ S [] [] [] true) u0 r.1∧VR w' (St ⟨w0,[]⟩ S [] [] [] true) u1 r.2.1∧VR w' (St ⟨w0,[]⟩ S [] [] [] true) u2 r.2.2):=by
 obtain ⟨A,c,A2,c2,A3,c3,A4,c4,A5,c5,rfl,hl,hl2,hl3,hl4,hl5⟩:=Restoration_open h0
 have H:=Mem.start ⟨w0,[]⟩ S
 have H:=H.pA hl
 have H:=H.pA hl2
 have H:=H.pA hl3
 have H:=H.pA hl4
 have H:=H.pA hl5
 refine en Tryz.func22 fun a hf=>?_
 rw [impl_RevertLights] at hF
 refine bx hf H fun b' a w hf H=>?_
 refine aL hf H TF.zv60 fun b2 a w hf H=>?_
 refine pz 2 hf fun a hf=>?_
 refine wl_end (then_n (sq (sq (reg (lN 1 hf H TF.la60 fun a hf=>?_)))))
 obtain ⟨y,hy,hF⟩:=bs_ hF
 refine oc hf TF.cl25 (impl_IsValidRestoration_ok (S:=TT) (Restoration_mkv (x:=r') (H.rt 4 rfl) (H.rt 3 rfl) (H.rt 2 rfl) (H.rt 1 rfl) (H.rt 0 rfl)) hy) fun v w a hp hf=>?_
 obtain ⟨hb,hp⟩:=hp
 obtain rfl:=VR_bool hp
 have H:=H.keep hb
 refine pz 1 hf fun a hf=>?_
 refine wl_end (then_n (ib hF hf (fun hc hF=>?_) fun hc hF=>?_))
 ·refine sq (reg (oq hf (rq_build hf (cs:=[(.slice none 0 0),(.slice none 0 0),(.slice none 0 0),(.slice none 0 0),(.slice none 0 0)]) rfl (fun w=>by kernel_rfl)) fun a hf=>?_))
  refine sB 0 hf H TF.sz60 fun w H=>?_
  refine pz 2 hf fun a hf=>?_
  refine wl_end (then_n (wp_ret (then_r (?_))))
  have H:=H.pushNil (ByteArray) true
  have H:=H.pushNil (Fiber) true
  have H:=H.pushNil (Light) true
  have H:=H.pushNil (Light) true
  have H:=H.pushNil (Int) true
  have H:=H.pushNil (Int) true
  obtain rfl:=oi hF
  refine ret_3 hf rfl (rv_cellN hf H 0 TF.la60 rfl rfl rfl) (rv_tmp hf rfl) (rv_tmp hf rfl) ?_
  exact ⟨_,rfl,H.bel,_,_,_,rfl,(Restoration_mkv (x:=({ Plan:=({ Network:=({ Nodes:=[],Fibers:=[] }:Network),Lights:=[] }:Plan),Home:=[],Down:=[] }:Restoration)) (rep_end (α:=List ByteArray) (H.get 5 rfl)) (rep_end (α:=List Fiber) (H.get 4 rfl)) (rep_end (α:=List Light) (H.get 3 rfl)) (rep_end (α:=List Light) (H.get 2 rfl)) (rep_end (α:=List Int) (H.get 1 rfl))),(mk_list (rep_end (α:=List Int) (H.get 0 rfl))),mk_bool⟩
 refine wp_skip (then_n (sq (reg (lN 1 hf H TF.la60 fun a hf=>?_))))
 obtain ⟨y2,hy2,hF⟩:=bs_ hF
 refine oc hf TF.cl88 (impl_copyRestoration_ok (S:=TT) (Restoration_mkv (x:=r') (H.rt 4 rfl) (H.rt 3 rfl) (H.rt 2 rfl) (H.rt 1 rfl) (H.rt 0 rfl)) hy2) fun v2 w a hp2 hf=>?_
 obtain ⟨hb2,F,hp3,hN⟩:=hp2
 obtain ⟨A6,c6,F2,A7,c7,F3,A8,c8,F4,A9,c9,F5,A10,c10,F6,rfl,rfl,hl6,hl7,hl8,hl9,hl10⟩:=Restoration_vo hp3
 have H:=H.addOwn hb2 (X:=[(⟨F2,MP.own F2 [(.slice A6 y2.Plan.Network.Nodes.length c6)] (y2.Plan.Network.Nodes:List ByteArray)⟩:DI),(⟨F3,MP.own F3 [(.slice A7 y2.Plan.Network.Fibers.length c7)] (y2.Plan.Network.Fibers:List Fiber)⟩:DI),(⟨F4,MP.own F4 [(.slice A8 y2.Plan.Lights.length c8)] (y2.Plan.Lights:List Light)⟩:DI),(⟨F5,MP.own F5 [(.slice A9 y2.Home.length c9)] (y2.Home:List Light)⟩:DI),(⟨F6,MP.own F6 [(.slice A10 y2.Down.length c10)] (y2.Down:List Int)⟩:DI)]) (by simpa using hN.1) (ps1 hl6 (ps1 hl7 (ps1 hl8 (ps1 hl9 (ps1 hl10 ps0))))) (by simpa using hN.2)
 have H:=H.lend 0 rfl
 have H:=H.lend 1 rfl
 have H:=H.lend 2 rfl
 have H:=H.lend 3 rfl
 have H:=H.lend 4 rfl
 have H:=H.frontD 2 rfl
 obtain ⟨Fs,E,H,-⟩:=H.thaw rfl
 have H:=H.pA hl
 have H:=H.pA hl2
 have H:=H.pA hl3
 have H:=H.pA hl4
 have H:=H.pA hl5
 have H:=H.lend 0 rfl
 have H:=H.lend 1 rfl
 have H:=H.lend 2 rfl
 have H:=H.lend 3 rfl
 have H:=H.rowSh 0 rfl
 refine wl0 rfl (bl hf H 3 ([]:List Int) [] el0 fun A11 a w hf H=>?_)
 refine aL hf H TF.zv60 fun b3 a w hf H=>?_
 refine sB 0 hf H TF.sz60 fun w H=>?_
 refine pz 1 hf fun a hf=>?_
 refine we (sqz (pz 2 hf fun a hf=>?_))
 refine lB 0 hf H TF.ls28 fun a hf=>?_
 refine pz 2 hf fun a hf=>?_
 refine wl_end (then_n ?_)
 obtain ⟨out',hB1,hF⟩:=bs_ hF
 have hf:=hf.pn [2,5,6,20,21,22]
 have H:=H.frontR 1 rfl
 have H:=H.lm 3 3 15 4 15
 refine loopC (fun (s:List Int×Int×List Light) (a:Act) (w:World)=>match s with | (ids,i,m)=>∃ (A12:Option Addr) (c11:Nat) (E2:Go.TypeId) (A13:Option Addr) (c12:Nat) (E3:Go.TypeId),Fr a 86 [(2,(.pointer (some ⟨b2,0,none⟩))),(5,(.pointer (some ⟨b3,0,none⟩))),(6,(.slice A12 ids.length c11)),(20,(.slice A13 m.length c12)),(21,(.int .i64 (y2.Plan.Lights.length:Int))),(22,(.int .i64 i))]∧Mem ⟨w0,[]⟩ S [⟨b3,60,[(.slice A6 y2.Plan.Network.Nodes.length c6),(.slice A7 y2.Plan.Network.Fibers.length c7),(.slice A13 m.length c12),(.slice A9 y2.Home.length c9),(.slice A10 y2.Down.length c10)]⟩,⟨b2,60,[(.slice none 0 0),(.slice none 0 0),(.slice none 0 0),(.slice none 0 0),(.slice none 0 0)]⟩] [⟨.sh true,E3,A13,c12,(m:List Light)⟩,⟨.sh true,E2,A12,c11,(ids:List Int)⟩] [⟨F2,MP.own F2 [(.slice A6 y2.Plan.Network.Nodes.length c6)] (y2.Plan.Network.Nodes:List ByteArray)⟩,⟨F3,MP.own F3 [(.slice A7 y2.Plan.Network.Fibers.length c7)] (y2.Plan.Network.Fibers:List Fiber)⟩,⟨F5,MP.own F5 [(.slice A9 y2.Home.length c9)] (y2.Home:List Light)⟩,⟨F6,MP.own F6 [(.slice A10 y2.Down.length c10)] (y2.Down:List Int)⟩] [(true,MP.val [(.slice A10 y2.Down.length c10)] (y2.Down:List Int)),(true,MP.val [(.slice A9 y2.Home.length c9)] (y2.Home:List Light)),(true,MP.val [(.slice A7 y2.Plan.Network.Fibers.length c7)] (y2.Plan.Network.Fibers:List Fiber)),(true,MP.val [(.slice A6 y2.Plan.Network.Nodes.length c6)] (y2.Plan.Network.Nodes:List ByteArray))] w) (fun k (s:List Int×Int×List Light)=>impl_RevertLights_L1 fu y2 k s.1 s.2.1 s.2.2=some out') (fun s=>out'=s) (([]:List Int),0,y2.Plan.Lights) fu hB1 ⟨A11,0,3,A8,c8,E,hf,H⟩ (fun s h=>by cases h) ?_ ?_
 ·rintro fk ⟨ids,i,m⟩ a w hR1 hI
  replace hR1:impl_RevertLights_L1 fu y2 (fk + 1) ids i m=some out':=hR1
  rw [impl_RevertLights_L1] at hR1
  obtain ⟨A12,c11,E2,A13,c12,E3,hf,H⟩:=hI
  refine sqz (pz 1 hf fun a hf=>?_)
  refine wl_end (then_n (sq (ib hR1 hf (fun hc2 hR1=>?_) fun hc2 hR1=>?_)))
  ·refine ws (pz 1 hf fun a hf=>?_)
   obtain ⟨e,he,hR1⟩:=bs_ hR1
   refine wl0 rfl (op_iaddrR hf H Tryz.underlying28 TF.sz49 0 rfl rfl rfl he (by decide) fun p o cs a hf hA hr hk=>?_)
   obtain ⟨A14,c13,rfl,hl11⟩:=Light_cells hr
   have H:=H.pT hl11
   refine oq hf (rq_loadN hf TF.la49 rfl rfl (fun j c hj=>hk _ c (by simpa using hj))) fun a hf=>?_
   refine aL hf H TF.zv49 fun b4 a w hf H=>?_
   refine pz 1 hf fun a hf=>?_
   refine sB 0 hf H TF.sz49 fun w H=>?_
   refine wl_end (then_n (sq ?_))
   obtain ⟨y3,hy3,hR1⟩:=bs_ hR1
   obtain ⟨e2,he2,hR1⟩:=bs_ hR1
   refine mid (fun a w=>∃ (b5:Nat) (A15:Option Addr) (c14:Nat),Fr a 86 [(2,(.pointer (some ⟨b2,0,none⟩))),(5,(.pointer (some ⟨b3,0,none⟩))),(6,(.slice A12 ids.length c11)),(7,(.int .i64 i)),(8,(.pointer (some ⟨b4,0,none⟩))),(9,(.pointer (some ⟨b5,0,none⟩))),(20,(.slice A13 m.length c12)),(21,(.int .i64 (y2.Plan.Lights.length:Int))),(22,(.int .i64 i))]∧Mem ⟨w0,[]⟩ S [⟨b5,49,[(.int .i64 e2.Id),(.int .i64 e2.Route.Start),(.slice A15 e2.Route.Fibers.length c14),(.int .i64 e2.Block.First),(.int .i64 e2.Block.Count)]⟩,⟨b4,49,[(.int .i64 e.Id),(.int .i64 e.Route.Start),(.slice A14 e.Route.Fibers.length c13),(.int .i64 e.Block.First),(.int .i64 e.Block.Count)]⟩,⟨b3,60,[(.slice A6 y2.Plan.Network.Nodes.length c6),(.slice A7 y2.Plan.Network.Fibers.length c7),(.slice A13 m.length c12),(.slice A9 y2.Home.length c9),(.slice A10 y2.Down.length c10)]⟩,⟨b2,60,[(.slice none 0 0),(.slice none 0 0),(.slice none 0 0),(.slice none 0 0),(.slice none 0 0)]⟩] [⟨.sh true,E3,A13,c12,(m:List Light)⟩,⟨.sh true,E2,A12,c11,(ids:List Int)⟩] [⟨F2,MP.own F2 [(.slice A6 y2.Plan.Network.Nodes.length c6)] (y2.Plan.Network.Nodes:List ByteArray)⟩,⟨F3,MP.own F3 [(.slice A7 y2.Plan.Network.Fibers.length c7)] (y2.Plan.Network.Fibers:List Fiber)⟩,⟨F5,MP.own F5 [(.slice A9 y2.Home.length c9)] (y2.Home:List Light)⟩,⟨F6,MP.own F6 [(.slice A10 y2.Down.length c10)] (y2.Down:List Int)⟩] [(true,MP.val [(.slice A15 e2.Route.Fibers.length c14)] (e2.Route.Fibers:List Int)),(true,MP.val [(.slice A14 e.Route.Fibers.length c13)] (e.Route.Fibers:List Int)),(true,MP.val [(.slice A10 y2.Down.length c10)] (y2.Down:List Int)),(true,MP.val [(.slice A9 y2.Home.length c9)] (y2.Home:List Light)),(true,MP.val [(.slice A7 y2.Plan.Network.Fibers.length c7)] (y2.Plan.Network.Fibers:List Fiber)),(true,MP.val [(.slice A6 y2.Plan.Network.Nodes.length c6)] (y2.Plan.Network.Nodes:List ByteArray))] w) ?_ ?_
   ·refine dw [9] 10 fun w hb=>?_
    have H:=H.keep hb
    refine zp 0 hf trivial fun a hf=>?_
    refine strT (H.lk 2 0 0 []) (fun w H=>trivial) fun hS=>?_
    refine zS 1 [1,6,7,9] rfl rfl rfl rfl hf hS (fun w H=>rq_loadB hf H TF.ls28 0 rfl rfl rfl) fun a hf=>?_
    refine zS 2 [2,5,6,7,9] rfl rfl rfl rfl hf hS (fun w H=>rq_loadBN hf H TF.la60 0 rfl rfl rfl rfl) fun a hf=>?_
    refine zp 3 hf hS fun a hf=>?_
    refine strT (H.lk 3 0 0 []) (fun w H=>H.lk 2 0 0 []) fun hS=>?_
    refine zS 4 [4,5,6,7,9] rfl rfl rfl rfl hf hS (fun w H=>rq_loadB hf H TF.ls3 0 rfl rfl rfl) fun a hf=>?_
    refine on2 (i:=5) (j:=8) (bi:=[true,true,true,true,true,true,false,false,false,false]) (bj:=[true,true,true,true,true,false,false,false,true,false]) (by kernel_rfl) rfl rfl rfl rfl rfl rfl ?_ ?_
    ·refine (oC hf TF.cl89 (impl_homeOf_ok (S:=TT) (Restoration_mkv (x:=({ Plan:=({ Network:=y2.Plan.Network,Lights:=m }:Plan),Home:=y2.Home,Down:=y2.Down }:Restoration)) (H.rt 4 rfl) (H.rt 3 rfl) (H.rowTrue 0 rfl) (H.rt 2 rfl) (H.rt 1 rfl)) mk_int hy3) fun v3 w a hp4 hf=>?_)
     obtain ⟨hb3,hp4⟩:=hp4
     obtain rfl:=VR_int hp4
     have H:=H.keep hb3
     have hS:=H.lk 3 0 0 []
     refine aS hS ?_
     obtain ⟨p2,o2,cs2,hx,hr2,H⟩:=pre_iaddr H Tryz.underlying28 TF.sz49 2 rfl he2
     refine zP 6 rfl rfl rfl rfl hf hS (fun w=>rq_iaddrE hf rfl rfl rfl hx w) fun a hf=>?_
     obtain ⟨A15,c14,rfl,hl12⟩:=Light_cells hr2
     have H:=H.pT hl12
     refine strT (H.lk 3 0 0 [1]) (fun w H=>H.lk 3 0 0 []) fun hS=>?_
     refine zS 7 [7,9] rfl rfl rfl rfl hf hS (fun w H=>rq_loadIN hf H TF.la49 0 0 rfl rfl rfl rfl) fun a hf=>?_
     refine nn 8 rfl (op_alloc hf H TF.zv49 rfl (by decide) fun b5 a w hf H=>?_)
     have hS:=H.lk 6 0 0 [1]
     refine aS hS ?_
     refine nn 9 rfl (op_storeB hf H 0 TF.sz49 rfl rfl rfl rfl rfl rfl (nle rfl) fun w H=>?_)
     refine ⟨fun h=>absurd h (by decide),?_⟩
     refine dk ?_
     have hf:=hf.pn [2,5,6,7,8,9,20,21,22]
     have H:=H.lm 15 3 15 7 125
     exact ⟨b5,A15,c14,hf,H⟩
    refine (op_alloc hf H TF.zv49 rfl (by decide) fun b5 a w hf H=>?_)
    have hS:=H.lk 6 0 0 []
    refine aS hS ?_
    refine nn 5 rfl (oC hf TF.cl89 (impl_homeOf_ok (S:=TT) (Restoration_mkv (x:=({ Plan:=({ Network:=y2.Plan.Network,Lights:=m }:Plan),Home:=y2.Home,Down:=y2.Down }:Restoration)) (H.rt 4 rfl) (H.rt 3 rfl) (H.rowTrue 0 rfl) (H.rt 2 rfl) (H.rt 1 rfl)) mk_int hy3) fun v3 w a hp4 hf=>?_)
    obtain ⟨hb3,hp4⟩:=hp4
    obtain rfl:=VR_int hp4
    have H:=H.keep hb3
    have hS:=H.lk 6 0 0 []
    refine aS hS ?_
    obtain ⟨p2,o2,cs2,hx,hr2,H⟩:=pre_iaddr H Tryz.underlying28 TF.sz49 2 rfl he2
    refine zP 6 rfl rfl rfl rfl hf hS (fun w=>rq_iaddrE hf rfl rfl rfl hx w) fun a hf=>?_
    obtain ⟨A15,c14,rfl,hl12⟩:=Light_cells hr2
    have H:=H.pT hl12
    refine strT (H.lk 6 0 0 [1]) (fun w H=>H.lk 3 0 0 []) fun hS=>?_
    refine zS 7 [7,9] rfl rfl rfl rfl hf hS (fun w H=>rq_loadIN hf H TF.la49 0 0 rfl rfl rfl rfl) fun a hf=>?_
    refine nn 9 rfl (op_storeB hf H 0 TF.sz49 rfl rfl rfl rfl rfl rfl (nle rfl) fun w H=>?_)
    refine ⟨fun h=>absurd h (by decide),?_⟩
    refine dk ?_
    have hf:=hf.pn [2,5,6,7,8,9,20,21,22]
    have H:=H.lm 15 3 15 7 125
    exact ⟨b5,A15,c14,hf,H⟩
   rintro a w ⟨b5,A15,c14,hf,H⟩
   refine then_n (sq ?_)
   obtain ⟨c15,hGc15,hR1⟩:=bs_ hR1
   have fh:=hf.prune [2,5,6,7,8,9,20,21,22] rfl
   have Hm:=H.lm 15 3 15 6 63
   refine midF 10 (.bool c15) fh Hm ?_ fun a w hf H=>?_
   ·refine reg (pz 2 hf fun a hf=>?_)
    refine lB 1 hf H TF.ls3 fun a hf=>?_
    refine pz 2 hf fun a hf=>?_
    refine lB 0 hf H TF.ls3 fun a hf=>?_
    refine pz 2 hf fun a hf=>?_
    refine iteB hGc15 (fun hc3 hGc15=>?_) fun hc3 hGc15=>?_
    ·have hf:=hf.lit 42 rfl hc3
     refine pz 2 hf fun a hf=>?_
     refine wlg hf rfl rfl rfl (op_q hf (rq_loadB hf H TF.ls35 1 rfl rfl rfl) rfl (by decide) fun a hf=>?_)
     refine pz 2 hf fun a hf=>?_
     refine wlg hf rfl rfl rfl (op_q hf (rq_loadB hf H TF.ls35 0 rfl rfl rfl) rfl (by decide) fun a hf=>?_)
     obtain ⟨y4,hy4,hGc15⟩:=bs_ hGc15
     refine wlg hf rfl rfl rfl (oC hf TF.cl90 (slices_Equal_int_int_ok (S:=TT) (mk_list (H.rt 1 rfl)) (mk_list (H.rt 0 rfl)) hy4) fun v4 w a hp5 hf=>?_)
     obtain ⟨hb4,hp5⟩:=hp5
     obtain rfl:=VR_bool hp5
     have H:=H.keep hb4
     refine pz 2 hf fun a hf=>?_
     refine iteB hGc15 (fun hc4 hGc15=>?_) fun hc4 hGc15=>?_
     ·have hf:=hf.lit 51 rfl hc4
      refine pz 1 hf fun a hf=>?_
      refine wlg hf rfl rfl rfl (op_q hf (rq_loadBN hf H TF.la47 1 rfl rfl rfl rfl) rfl (by decide) fun a hf=>?_)
      refine pz 1 hf fun a hf=>?_
      refine wlg hf rfl rfl rfl (op_q hf (rq_loadBN hf H TF.la47 0 rfl rfl rfl rfl) rfl (by decide) fun a hf=>?_)
      refine wlg hf rfl rfl rfl (op_q hf (rq_eqT hf TF.qeqt47 ([e.Block.First,e.Block.Count]:List Int) ([e2.Block.First,e2.Block.Count]:List Int) rfl rfl rfl rfl rfl rfl) rfl (by decide) fun a hf=>?_)
      refine pz 2 hf fun a hf=>?_
      obtain rfl:=oi hGc15
      have hf:=hf.pn [10,2,5,6,7,8,9,20,21,22]
      have H:=H.lm 15 3 15 6 63
      exact wl_end ⟨hf,H⟩
     have hf:=hf.lit 51 rfl hc4
     refine pz 7 hf fun a hf=>?_
     obtain rfl:=oi hGc15
     have hf:=hf.pn [10,2,5,6,7,8,9,20,21,22]
     have H:=H.lm 15 3 15 6 63
     exact wl_end ⟨hf,H⟩
    have hf:=hf.lit 42 rfl hc3
    refine pz 16 hf fun a hf=>?_
    obtain rfl:=oi hGc15
    have hf:=hf.pn [10,2,5,6,7,8,9,20,21,22]
    have H:=H.lm 15 3 15 6 63
    exact wl_end ⟨hf,H⟩
   refine then_n (sq ?_)
   obtain ⟨c16,hGc16,hR1⟩:=bs_ hR1
   have fh2:=hf.prune [2,5,6,7,8,9,20,21,22] rfl
   have Hm2:=H.lm 15 3 15 6 63
   refine midF 64 (.bool c16) fh2 Hm2 ?_ fun a w hf H=>?_
   ·refine reg (pz 3 hf fun a hf=>?_)
    refine iteB hGc16 (fun hc5 hGc16=>?_) fun hc5 hGc16=>?_
    ·have hf:=hf.lit 60 rfl hc5
     refine wlg hf rfl rfl rfl (op_q hf (rq_loadBN hf H TF.la60 2 rfl rfl rfl rfl) rfl (by decide) fun a hf=>?_)
     refine wlg hf rfl rfl rfl (op_q hf (rq_loadBN hf H TF.la49 0 rfl rfl rfl rfl) rfl (by decide) fun a hf=>?_)
     obtain ⟨y5,hy5,hGc16⟩:=bs_ hGc16
     refine wlg hf rfl rfl rfl (oC hf TF.cl91 (impl_isOpen_ok (S:=TT) (Restoration_mkv (x:=({ Plan:=({ Network:=y2.Plan.Network,Lights:=m }:Plan),Home:=y2.Home,Down:=y2.Down }:Restoration)) (H.rt 5 rfl) (H.rt 4 rfl) (H.rowTrue 0 rfl) (H.rt 3 rfl) (H.rt 2 rfl)) (Light_mkv (x:=e2) (H.rt 0 rfl)) hy5) fun v5 w a hp6 hf=>?_)
     obtain ⟨hb5,hp6⟩:=hp6
     obtain rfl:=VR_bool hp6
     have H:=H.keep hb5
     refine pz 1 hf fun a hf=>?_
     obtain rfl:=oi hGc16
     have hf:=hf.pn [64,2,5,6,7,8,9,20,21,22]
     have H:=H.lm 15 3 15 6 63
     exact wl_end ⟨hf,H⟩
    have hf:=hf.lit 60 rfl hc5
    refine pz 4 hf fun a hf=>?_
    obtain rfl:=oi hGc16
    have hf:=hf.pn [64,2,5,6,7,8,9,20,21,22]
    have H:=H.lm 15 3 15 6 63
    exact wl_end ⟨hf,H⟩
   refine then_n (ib hR1 hf (fun hc6 hR1=>?_) fun hc6 hR1=>?_)
   ·refine sq (dw [13] 14 fun w hb=>?_)
    have H:=H.keep hb
    refine zp 0 hf trivial fun a hf=>?_
    refine zp 1 hf trivial fun a hf=>?_
    refine strT (H.lk 4 0 0 []) (fun w H=>trivial) fun hS=>?_
    refine zS 2 [2,12,13] rfl rfl rfl rfl hf hS (fun w H=>rq_loadB hf H TF.ls28 0 rfl rfl rfl) fun a hf=>?_
    refine zp 3 hf hS fun a hf=>?_
    refine zp 4 hf hS fun a hf=>?_
    refine strT (H.lk 6 0 0 []) (fun w H=>H.lk 2 0 0 []) fun hS=>?_
    refine zS 5 [5,11,12,13] rfl rfl rfl rfl hf hS (fun w H=>rq_loadB hf H TF.ls3 0 rfl rfl rfl) fun a hf=>?_
    refine zp 6 hf hS fun a hf=>?_
    refine strT (H.lk 7 0 0 []) (fun w H=>H.lk 6 0 0 []) fun hS=>?_
    refine zS 7 [7,8,11,12,13] rfl rfl rfl rfl hf hS (fun w H=>rq_loadBN hf H TF.la45 0 rfl rfl rfl rfl) fun a hf=>?_
    refine zp 9 hf hS fun a hf=>?_
    refine zS 10 [10,11,12,13] rfl rfl rfl rfl hf hS (fun w H=>rq_loadBN hf H TF.la47 0 rfl rfl rfl rfl) fun a hf=>?_
    obtain ⟨y6,hy6,hR1⟩:=bs_ hR1
    refine nn 8 rfl (oC hf TF.cl92 (impl_copyRoute_ok (S:=TT) (Route_mkv (x:=e2.Route) (H.rt 0 rfl)) hy6) fun v6 w a hp7 hf=>?_)
    obtain ⟨hb6,F7,hp8,hN2⟩:=hp7
    obtain ⟨A16,c17,F8,rfl,rfl,hl13⟩:=Route_vo hp8
    have H:=H.aO1 hb6 hN2 hl13
    have H:=H.lend 0 rfl
    have hS:=H.lk 7 0 0 []
    refine aS hS ?_
    refine zP 11 rfl rfl rfl rfl hf hS (fun w=>rq_build hf (cs:=[(.int .i64 e.Id),(.int .i64 y6.Start),(.slice A16 y6.Fibers.length c17),(.int .i64 e2.Block.First),(.int .i64 e2.Block.Count)]) rfl (fun w=>by kernel_rfl)) fun a hf=>?_
    obtain ⟨e3,he3,hR1⟩:=bs_ hR1
    refine nn 12 rfl (op_iaddrR hf H Tryz.underlying28 TF.sz49 0 rfl rfl rfl he3 (by decide) fun p3 o3 cs3 a hf hA2 hr3 hk2=>?_)
    obtain ⟨A17,c18,rfl,hl14⟩:=Light_cells hr3
    have H:=H.pT hl14
    have hS:=H.lk 7 0 0 []
    refine aS hS ?_
    refine nn 13 rfl (op_storeR (e':=({ Id:=e.Id,Route:=y6,Block:=e2.Block }:Light)) (o:=o3) (off:=0) hf H TF.sz49 0 rfl rfl rfl rfl rfl (nle rfl) rfl hA2 he3 (st_full (Light_mk (x:=({ Id:=e.Id,Route:=y6,Block:=e2.Block }:Light)) (H.get 1 rfl))) fun w H=>?_)
    replace hf:Fr a 86 [(2,(.pointer (some ⟨b2,0,none⟩))),(5,(.pointer (some ⟨b3,0,none⟩))),(6,(.slice A12 ids.length c11)),(7,(.int .i64 i)),(8,(.pointer (some ⟨b4,0,none⟩))),(9,(.pointer (some ⟨b5,0,none⟩))),(20,(.slice A13 m.length c12)),(21,(.int .i64 (y2.Plan.Lights.length:Int))),(22,(.int .i64 i)),(65,(.pointer (some ⟨b3,0,none⟩))),(66,(.pointer (some ⟨b3,2,none⟩))),(67,(.slice A13 m.length c12)),(68,(.int .i64 i)),(69,(.pointer (some ⟨b4,0,none⟩))),(70,(.int .i64 e.Id)),(71,(.pointer (some ⟨b5,1,none⟩))),(72,(.agg #[(.int .i64 e2.Route.Start),(.slice A15 e2.Route.Fibers.length c14)])),(73,(.agg #[(.int .i64 y6.Start),(.slice A16 y6.Fibers.length c17)])),(74,(.pointer (some ⟨b5,3,none⟩))),(75,(.agg #[(.int .i64 e2.Block.First),(.int .i64 e2.Block.Count)])),(76,(.agg #[(.int .i64 e.Id),(.int .i64 y6.Start),(.slice A16 y6.Fibers.length c17),(.int .i64 e2.Block.First),(.int .i64 e2.Block.Count)])),(77,(.pointer (some ⟨p3,o3 + 0,none⟩)))]:=hf.prune [2,5,6,7,8,9,20,21,22,65,66,67,68,69,70,71,72,73,74,75,76,77] rfl
    replace hf:Fr a 86 [(2,(.pointer (some ⟨b2,0,none⟩))),(5,(.pointer (some ⟨b3,0,none⟩))),(6,(.slice A12 ids.length c11)),(7,(.int .i64 i)),(8,(.pointer (some ⟨b4,0,none⟩))),(9,(.pointer (some ⟨b5,0,none⟩))),(20,(.slice A13 (m.set (i:Int).toNat ({ Id:=e.Id,Route:=y6,Block:=e2.Block }:Light)).length c12)),(21,(.int .i64 (y2.Plan.Lights.length:Int))),(22,(.int .i64 i)),(65,(.pointer (some ⟨b3,0,none⟩))),(66,(.pointer (some ⟨b3,2,none⟩))),(67,(.slice A13 (m.set (i:Int).toNat ({ Id:=e.Id,Route:=y6,Block:=e2.Block }:Light)).length c12)),(68,(.int .i64 i)),(69,(.pointer (some ⟨b4,0,none⟩))),(70,(.int .i64 e.Id)),(71,(.pointer (some ⟨b5,1,none⟩))),(72,(.agg #[(.int .i64 e2.Route.Start),(.slice A15 e2.Route.Fibers.length c14)])),(73,(.agg #[(.int .i64 y6.Start),(.slice A16 y6.Fibers.length c17)])),(74,(.pointer (some ⟨b5,3,none⟩))),(75,(.agg #[(.int .i64 e2.Block.First),(.int .i64 e2.Block.Count)])),(76,(.agg #[(.int .i64 e.Id),(.int .i64 y6.Start),(.slice A16 y6.Fibers.length c17),(.int .i64 e2.Block.First),(.int .i64 e2.Block.Count)])),(77,(.pointer (some ⟨p3,o3 + 0,none⟩)))]:=by simpa only [List.length_set,Nat.add_zero] using hf
    replace H:Mem ⟨w0,[]⟩ S [⟨b5,49,[(.int .i64 e2.Id),(.int .i64 e2.Route.Start),(.slice A15 e2.Route.Fibers.length c14),(.int .i64 e2.Block.First),(.int .i64 e2.Block.Count)]⟩,⟨b4,49,[(.int .i64 e.Id),(.int .i64 e.Route.Start),(.slice A14 e.Route.Fibers.length c13),(.int .i64 e.Block.First),(.int .i64 e.Block.Count)]⟩,⟨b3,60,[(.slice A6 y2.Plan.Network.Nodes.length c6),(.slice A7 y2.Plan.Network.Fibers.length c7),(.slice A13 (m.set (i:Int).toNat ({ Id:=e.Id,Route:=y6,Block:=e2.Block }:Light)).length c12),(.slice A9 y2.Home.length c9),(.slice A10 y2.Down.length c10)]⟩,⟨b2,60,[(.slice none 0 0),(.slice none 0 0),(.slice none 0 0),(.slice none 0 0),(.slice none 0 0)]⟩] [⟨.sh true,E3,A13,c12,(m.set (i:Int).toNat ({ Id:=e.Id,Route:=y6,Block:=e2.Block }:Light):List Light)⟩,⟨.sh true,E2,A12,c11,(ids:List Int)⟩] [⟨F8,MP.own F8 [(.slice A16 y6.Fibers.length c17)] (y6.Fibers:List Int)⟩,⟨F2,MP.own F2 [(.slice A6 y2.Plan.Network.Nodes.length c6)] (y2.Plan.Network.Nodes:List ByteArray)⟩,⟨F3,MP.own F3 [(.slice A7 y2.Plan.Network.Fibers.length c7)] (y2.Plan.Network.Fibers:List Fiber)⟩,⟨F5,MP.own F5 [(.slice A9 y2.Home.length c9)] (y2.Home:List Light)⟩,⟨F6,MP.own F6 [(.slice A10 y2.Down.length c10)] (y2.Down:List Int)⟩] [(true,MP.val [(.slice A17 e3.Route.Fibers.length c18)] (e3.Route.Fibers:List Int)),(true,MP.val [(.slice A16 y6.Fibers.length c17)] (y6.Fibers:List Int)),(true,MP.val [(.slice A15 e2.Route.Fibers.length c14)] (e2.Route.Fibers:List Int)),(true,MP.val [(.slice A14 e.Route.Fibers.length c13)] (e.Route.Fibers:List Int)),(true,MP.val [(.slice A10 y2.Down.length c10)] (y2.Down:List Int)),(true,MP.val [(.slice A9 y2.Home.length c9)] (y2.Home:List Light)),(true,MP.val [(.slice A7 y2.Plan.Network.Fibers.length c7)] (y2.Plan.Network.Fibers:List Fiber)),(true,MP.val [(.slice A6 y2.Plan.Network.Nodes.length c6)] (y2.Plan.Network.Nodes:List ByteArray))] w:=by first | (simp only [List.length_set]; exact H) | (simp only [List.length_set] at H ⊢; exact H)
    refine ⟨fun h=>absurd h (by decide),?_⟩
    refine dk ?_
    have hf:=hf.pn [2,5,6,8,20,21,22]
    refine then_n (reg (pz 2 hf fun a hf=>?_))
    refine lB 1 hf H TF.ls3 fun a hf=>?_
    refine wl0 rfl (bl hf H 3 ([e.Id]:List Int) [(.int .i64 e.Id)] (el1 (y:=e.Id) (rfl)) fun A18 a w hf H=>?_)
    obtain ⟨l,hl_,hR1⟩:=bs_ hR1
    refine wl0 rfl (op_appR hf H Tryz.underlying35 TF.ai3 rfl (by decide) 2 0 rfl rfl rfl rfl (.inr rfl) hl_ (by decide) fun E4 A19 c19 a w hf H=>?_)
    refine pz 1 hf fun a hf=>?_
    refine wl_end (blk_n (then_n (reg (pz 2 hf fun a hf=>?_))))
    refine wl_end ?_
    have hf:=hf.pn [2,5,6,20,21,22]
    have H:=H.lm 12 6 30 8 240
    exact then_n ⟨(l,w64 (i + 1),m.set (i:Int).toNat ({ Id:=e.Id,Route:=y6,Block:=e2.Block }:Light)),hR1,A19,c19,E4,A13,c12,E3,hf,H⟩
   refine wp_skip (blk_n (then_n (reg (pz 2 hf fun a hf=>?_))))
   refine wl_end ?_
   have hf:=hf.pn [2,5,6,20,21,22]
   have H:=H.lm 12 3 15 6 60
   exact then_n ⟨(ids,w64 (i + 1),m),hR1,A12,c11,E2,A13,c12,E3,hf,H⟩
  refine wp_exit (then_x (then_x (blk_e (?_))))
  have hf:=hf.pn [2,5,6,20,21,22]
  have H:=H.lm 3 3 15 4 15
  exact ⟨(ids,i,m),(Option.some.inj hR1).symm,A12,c11,E2,A13,c12,E3,hf,H⟩
 rintro a w ⟨⟨ids2,i2,m2⟩,rfl,A20,c20,E5,A21,c21,E6,hf,H⟩
 try dsimp only at hF
 refine then_n (sq (reg (lN 0 hf H TF.la60 fun a hf=>?_)))
 refine pz 1 hf fun a hf=>?_
 refine sB 1 hf H TF.sz60 fun w H=>?_
 refine pz 2 hf fun a hf=>?_
 refine wer ?_
 have H:=H.freeze 0 rfl
 have H:=H.freeze 0 rfl
 obtain rfl:=oi hF
 refine ret_3 hf rfl (rv_cellN hf H 1 TF.la60 rfl rfl rfl) (rv_tmp hf rfl) (rv_tmp hf rfl) ?_
 exact ⟨_,rfl,H.bel,_,_,_,rfl,(Restoration_mkv (x:=({ Plan:=({ Network:=y2.Plan.Network,Lights:=m2 }:Plan),Home:=y2.Home,Down:=y2.Down }:Restoration)) (rep_end (α:=List ByteArray) (H.get 5 rfl)) (rep_end (α:=List Fiber) (H.get 4 rfl)) (rep_end (α:=List Light) (H.get 1 rfl)) (rep_end (α:=List Light) (H.get 3 rfl)) (rep_end (α:=List Int) (H.get 2 rfl))),(mk_list (rep_end (α:=List Int) (H.get 0 rfl))),mk_bool⟩
theorem spec_l1Same_ok {S:Nat→Prop} {v0_:Value} {v1_:Value} {a':List Int} {b':List Int} {r:Bool} (h0:VR w0 S v0_ a') (h1:VR w0 S v1_ b') (hF:spec_l1Same fu a' b'=some r) :
    Calls Tryz.prog 304 [v0_,v1_].toArray w0 fun e w'=>∃ v,e=.returned v∧(Below w0.heap.size w0 w'∧VR w' (St ⟨w0,[]⟩ S [] [] [] true) v r):=by
 obtain ⟨A,c,rfl,hl⟩:=VR_list h0
 obtain ⟨A2,c2,rfl,hl2⟩:=VR_list h1
 have H:=Mem.start ⟨w0,[]⟩ S
 have H:=H.pA hl
 have H:=H.pA hl2
 refine en Tryz.func304 fun a hf=>?_
 rw [spec_l1Same] at hF
 refine sqz (pz 1 hf fun a hf=>?_)
 refine we (sqz (pz 5 hf fun a hf=>?_))
 refine wl_end (then_n (ib hF hf (fun hc hF=>?_) fun hc hF=>?_))
 ·refine sqz (pz 1 hf fun a hf=>?_)
  refine wl_end (then_n (wp_ret (then_r (?_))))
  obtain rfl:=oi hF
  refine rT hf ?_
  exact ⟨_,rfl,H.bel,mk_bool⟩
 refine wp_skip (then_n (sq (sqz (pz 1 hf fun a hf=>?_))))
 refine wl_end (then_n ?_)
 obtain ⟨out',hB1,hF⟩:=bs_ hF
 have hf:=hf.pn [0,1,5]
 have H:=H.lk 0 0 0 [0,1]
 refine loopC (fun (s:Int) (a:Act) (w:World)=>match s with | i=>Fr a 26 [(0,(.slice A a'.length c)),(1,(.slice A2 b'.length c2)),(5,(.int .i64 i))]∧Mem ⟨w0,[]⟩ S [] [] [] [(false,MP.val [(.slice A2 b'.length c2)] (b':List Int)),(false,MP.val [(.slice A a'.length c)] (a':List Int))] w) (fun k (s:Int)=>spec_l1Same_L1 fu a' b' k s=some out') (fun s=>out'=Out.next s) 0 fu hB1 ⟨hf,H⟩ (fun s h=>by cases h) ?_ ?_
 ·rintro fk i a w hR1 hI
  replace hR1:spec_l1Same_L1 fu a' b' (fk + 1) i=some out':=hR1
  rw [spec_l1Same_L1] at hR1
  obtain ⟨hf,H⟩:=hI
  refine sq (sqz (pz 4 hf fun a hf=>?_))
  refine wl_end (then_n (ib hR1 hf (fun hc2 hR1=>?_) fun hc2 hR1=>?_))
  ·refine wp_skip (then_n (sq (wp_block (sq (dw [] 9 fun w hb=>?_)))))
   have H:=H.keep hb
   refine zp 0 hf trivial fun a hf=>?_
   refine zp 1 hf trivial fun a hf=>?_
   obtain ⟨e,he,hR1⟩:=bs_ hR1
   obtain ⟨p,o,cs,hx,hr,H⟩:=pre_iaddr H Tryz.underlying35 TF.sz3 1 rfl he
   refine tP 2 rfl rfl rfl rfl hf (by kernel_rfl) (fun _=>trivial) (fun w=>rq_iaddrE hf rfl rfl rfl hx w) fun a hf=>?_
   obtain rfl:=hr
   refine strT (H.lk 0 0 0 [0]) (fun w H=>trivial) fun hS=>?_
   refine zS 3 [] rfl rfl rfl rfl hf hS (fun w H=>rq_loadI hf H TF.ls3 0 0 rfl rfl rfl) fun a hf=>?_
   refine zp 4 hf hS fun a hf=>?_
   refine zp 5 hf hS fun a hf=>?_
   obtain ⟨e2,he2,hR1⟩:=bs_ hR1
   obtain ⟨p2,o2,cs2,hx2,hr2,H⟩:=pre_iaddr H Tryz.underlying35 TF.sz3 1 rfl he2
   refine zP 6 rfl rfl rfl rfl hf hS (fun w=>rq_iaddrE hf rfl rfl rfl hx2 w) fun a hf=>?_
   obtain rfl:=hr2
   refine strT (H.lk 0 0 0 [0,1]) (fun w H=>H.lk 0 0 0 [1]) fun hS=>?_
   refine zS 7 [] rfl rfl rfl rfl hf hS (fun w H=>rq_loadI hf H TF.ls3 0 0 rfl rfl rfl) fun a hf=>?_
   refine zp 8 hf hS fun a hf=>?_
   refine dk ?_
   refine then_n (ib hR1 hf (fun hc3 hR1=>?_) fun hc3 hR1=>?_)
   ·refine sqz (pz 1 hf fun a hf=>?_)
    have hf:=hf.pn [4]
    refine wl_end (then_n (wp_ret (blk_r (then_r (then_r (blk_r (then_r (then_r (?_)))))))))
    obtain rfl:=oi hR1
    replace hF:=on_ret hF
    obtain rfl:=oi hF
    refine rT hf ?_
    exact ⟨_,rfl,H.bel,mk_bool⟩
   refine wp_skip (blk_n (then_n (reg (pz 3 hf fun a hf=>?_))))
   have hf:=hf.pn [0,1,5]
   refine wl_end ?_
   have hf:=hf.pn [0,1,5]
   have H:=H.lk 0 0 0 [2,3]
   exact then_n ⟨w64 (i + 1),hR1,hf,H⟩
  refine wp_exit (then_x (then_x (blk_e (?_))))
  have hf:=hf.pn [0,1,5]
  have H:=H.lk 0 0 0 [0,1]
  exact ⟨i,(Option.some.inj hR1).symm,hf,H⟩
 rintro a w ⟨i2,rfl,hf,H⟩
 replace hF:=on_next hF
 refine then_n (sqz (pz 1 hf fun a hf=>?_))
 refine wer ?_
 obtain rfl:=oi hF
 refine rT hf ?_
 exact ⟨_,rfl,H.bel,mk_bool⟩
theorem spec_l4Same_ok {S:Nat→Prop} {v0_:Value} {v1_:Value} {a':Route} {b':Route} {r:Bool} (h0:VR w0 S v0_ a') (h1:VR w0 S v1_ b') (hF:spec_l4Same fu a' b'=some r) :
    Calls Tryz.prog 247 [v0_,v1_].toArray w0 fun e w'=>∃ v,e=.returned v∧(Below w0.heap.size w0 w'∧VR w' (St ⟨w0,[]⟩ S [] [] [] true) v r):=by
 obtain ⟨A,c,rfl,hl⟩:=Route_open h0
 obtain ⟨A2,c2,rfl,hl2⟩:=Route_open h1
 have H:=Mem.start ⟨w0,[]⟩ S
 have H:=H.pA hl
 have H:=H.pA hl2
 refine en Tryz.func247 fun a hf=>?_
 rw [spec_l4Same] at hF
 refine bx hf H fun b2 a w hf H=>?_
 refine wl0 rfl (op_box hf H rfl rfl (by decide) fun b3 a w hf H=>?_)
 refine pz 1 hf fun a hf=>?_
 refine wl_end (then_n (sq ?_))
 obtain ⟨c3,hGc3,hF⟩:=bs_ hF
 have fh:=hf.prune [] rfl
 have Hm:=H.lk 0 0 0 []
 refine midF 4 (.bool c3) fh Hm ?_ fun a w hf H=>?_
 ·refine reg (pz 1 hf fun a hf=>?_)
  refine lB 1 hf H TF.ls3 fun a hf=>?_
  refine pz 1 hf fun a hf=>?_
  refine lB 0 hf H TF.ls3 fun a hf=>?_
  refine pz 2 hf fun a hf=>?_
  refine iteB hGc3 (fun hc hGc3=>?_) fun hc hGc3=>?_
  ·have hf:=hf.lit 10 rfl hc
   refine pz 1 hf fun a hf=>?_
   refine wlg hf rfl rfl rfl (op_q hf (rq_loadB hf H TF.ls35 1 rfl rfl rfl) rfl (by decide) fun a hf=>?_)
   refine pz 1 hf fun a hf=>?_
   refine wlg hf rfl rfl rfl (op_q hf (rq_loadB hf H TF.ls35 0 rfl rfl rfl) rfl (by decide) fun a hf=>?_)
   obtain ⟨y,hy,hGc3⟩:=bs_ hGc3
   refine wlg hf rfl rfl rfl (oC hf TF.cl304 (spec_l1Same_ok (S:=TT) (mk_list (H.rt 1 rfl)) (mk_list (H.rt 0 rfl)) hy) fun v w a hp hf=>?_)
   obtain ⟨hb,hp⟩:=hp
   obtain rfl:=VR_bool hp
   have H:=H.keep hb
   refine pz 2 hf fun a hf=>?_
   obtain rfl:=oi hGc3
   have hf:=hf.pn [4]
   have H:=H.lk 0 0 0 []
   exact wl_end ⟨hf,H⟩
  have hf:=hf.lit 10 rfl hc
  refine pz 7 hf fun a hf=>?_
  obtain rfl:=oi hGc3
  have hf:=hf.pn [4]
  have H:=H.lk 0 0 0 []
  exact wl_end ⟨hf,H⟩
 refine then_n (wp_ret (?_))
 obtain rfl:=oi hF
 refine rT hf ?_
 exact ⟨_,rfl,H.bel,mk_bool⟩
theorem spec_l15SameLight_ok {S:Nat→Prop} {v0_:Value} {v1_:Value} {a':Light} {b':Light} {r:Bool} (h0:VR w0 S v0_ a') (h1:VR w0 S v1_ b') (hF:spec_l15SameLight fu a' b'=some r) :
    Calls Tryz.prog 183 [v0_,v1_].toArray w0 fun e w'=>∃ v,e=.returned v∧(Below w0.heap.size w0 w'∧VR w' (St ⟨w0,[]⟩ S [] [] [] true) v r):=by
 obtain ⟨A,c,rfl,hl⟩:=Light_open h0
 obtain ⟨A2,c2,rfl,hl2⟩:=Light_open h1
 have H:=Mem.start ⟨w0,[]⟩ S
 have H:=H.pA hl
 have H:=H.pA hl2
 refine en Tryz.func183 fun a hf=>?_
 rw [spec_l15SameLight] at hF
 refine bx hf H fun b2 a w hf H=>?_
 refine wl0 rfl (op_box hf H rfl rfl (by decide) fun b3 a w hf H=>?_)
 refine pz 1 hf fun a hf=>?_
 refine wl_end (then_n (sq ?_))
 obtain ⟨c3,hGc3,hF⟩:=bs_ hF
 have fh:=hf.prune [] rfl
 have Hm:=H.lk 0 0 0 []
 refine midF 4 (.bool c3) fh Hm ?_ fun a w hf H=>?_
 ·refine reg (pz 1 hf fun a hf=>?_)
  refine lB 1 hf H TF.ls3 fun a hf=>?_
  refine pz 1 hf fun a hf=>?_
  refine lB 0 hf H TF.ls3 fun a hf=>?_
  refine pz 2 hf fun a hf=>?_
  refine iteB hGc3 (fun hc hGc3=>?_) fun hc hGc3=>?_
  ·have hf:=hf.lit 10 rfl hc
   refine pz 1 hf fun a hf=>?_
   refine wlg hf rfl rfl rfl (op_q hf (rq_loadBN hf H TF.la45 1 rfl rfl rfl rfl) rfl (by decide) fun a hf=>?_)
   refine pz 1 hf fun a hf=>?_
   refine wlg hf rfl rfl rfl (op_q hf (rq_loadBN hf H TF.la45 0 rfl rfl rfl rfl) rfl (by decide) fun a hf=>?_)
   obtain ⟨y,hy,hGc3⟩:=bs_ hGc3
   refine wlg hf rfl rfl rfl (oC hf TF.cl247 (spec_l4Same_ok (S:=TT) (Route_mkv (x:=a'.Route) (H.rt 1 rfl)) (Route_mkv (x:=b'.Route) (H.rt 0 rfl)) hy) fun v w a hp hf=>?_)
   obtain ⟨hb,hp⟩:=hp
   obtain rfl:=VR_bool hp
   have H:=H.keep hb
   refine pz 2 hf fun a hf=>?_
   refine iteB hGc3 (fun hc2 hGc3=>?_) fun hc2 hGc3=>?_
   ·have hf:=hf.lit 17 rfl hc2
    refine pz 1 hf fun a hf=>?_
    refine wlg hf rfl rfl rfl (op_q hf (rq_loadBN hf H TF.la47 1 rfl rfl rfl rfl) rfl (by decide) fun a hf=>?_)
    refine pz 1 hf fun a hf=>?_
    refine wlg hf rfl rfl rfl (op_q hf (rq_loadBN hf H TF.la47 0 rfl rfl rfl rfl) rfl (by decide) fun a hf=>?_)
    refine wlg hf rfl rfl rfl (op_q hf (rq_eqT hf TF.qeqt47 ([a'.Block.First,a'.Block.Count]:List Int) ([b'.Block.First,b'.Block.Count]:List Int) rfl rfl rfl rfl rfl rfl) rfl (by decide) fun a hf=>?_)
    refine pz 2 hf fun a hf=>?_
    obtain rfl:=oi hGc3
    have hf:=hf.pn [4]
    have H:=H.lk 0 0 0 []
    exact wl_end ⟨hf,H⟩
   have hf:=hf.lit 17 rfl hc2
   refine pz 7 hf fun a hf=>?_
   obtain rfl:=oi hGc3
   have hf:=hf.pn [4]
   have H:=H.lk 0 0 0 []
   exact wl_end ⟨hf,H⟩
  have hf:=hf.lit 10 rfl hc
  refine pz 14 hf fun a hf=>?_
  obtain rfl:=oi hGc3
  have hf:=hf.pn [4]
  have H:=H.lk 0 0 0 []
  exact wl_end ⟨hf,H⟩
 refine then_n (wp_ret (?_))
 obtain rfl:=oi hF
 refine rT hf ?_
 exact ⟨_,rfl,H.bel,mk_bool⟩
theorem spec_l15Revert_ok {S:Nat→Prop} {v0_:Value} {r':Restoration} {r:Restoration×List Int} (h0:VR w0 S v0_ r') (hF:spec_l15Revert fu r'=some r) :
    Calls Tryz.prog 93 [v0_].toArray w0 fun e w'=>∃ v,e=.returned v∧(∃ (A0_0:Option Addr) (c0_0:Nat) (F0_0:List Nat) (A0_1:Option Addr) (c0_1:Nat) (F0_1:List Nat) (A0_2:Option Addr) (c0_2:Nat) (A0_3:Option Addr) (c0_3:Nat) (F0_3:List Nat) (A0_4:Option Addr) (c0_4:Nat) (E0_4:Go.TypeId) (A1_0:Option Addr) (c1_0:Nat) (F1_0:List Nat),v=.tuple #[(.agg #[(.slice A0_0 r.1.Plan.Network.Nodes.length c0_0),(.slice A0_1 r.1.Plan.Network.Fibers.length c0_1),(.slice A0_2 r.1.Plan.Lights.length c0_2),(.slice A0_3 r.1.Home.length c0_3),(.slice A0_4 r.1.Down.length c0_4)]),(.slice A1_0 r.2.length c1_0)]∧Mem ⟨w0,[]⟩ S [] [⟨.sh true,E0_4,A0_4,c0_4,(r.1.Down:List Int)⟩] [⟨F0_0,MP.own F0_0 [(.slice A0_0 r.1.Plan.Network.Nodes.length c0_0)] (r.1.Plan.Network.Nodes:List ByteArray)⟩,⟨F0_1,MP.own F0_1 [(.slice A0_1 r.1.Plan.Network.Fibers.length c0_1)] (r.1.Plan.Network.Fibers:List Fiber)⟩,⟨F0_3,MP.own F0_3 [(.slice A0_3 r.1.Home.length c0_3)] (r.1.Home:List Light)⟩,⟨F1_0,MP.own F1_0 [(.slice A1_0 r.2.length c1_0)] (r.2:List Int)⟩] [(true,MP.val [(.slice A0_2 r.1.Plan.Lights.length c0_2)] (r.1.Plan.Lights:List Light))] w'):=by
 obtain ⟨A,c,A2,c2,A3,c3,A4,c4,A5,c5,rfl,hl,hl2,hl3,hl4,hl5⟩:=Restoration_open h0
 have H:=Mem.start ⟨w0,[]⟩ S
 have H:=H.pA hl
 have H:=H.pA hl2
 have H:=H.pA hl3
 have H:=H.pA hl4
 have H:=H.pA hl5
 refine en Tryz.func93 fun a hf=>?_
 rw [spec_l15Revert] at hF
 refine bx hf H fun b' a w hf H=>?_
 refine aL hf H TF.zv60 fun b2 a w hf H=>?_
 refine pz 1 hf fun a hf=>?_
 refine wr (lN 1 hf H TF.la60 fun a hf=>?_)
 obtain ⟨y,hy,hF⟩:=bs_ hF
 refine oc hf TF.cl176 (spec_l15Own_ok (S:=TT) (Restoration_mkv (x:=r') (H.rt 4 rfl) (H.rt 3 rfl) (H.rt 2 rfl) (H.rt 1 rfl) (H.rt 0 rfl)) hy) fun v w a hp hf=>?_
 obtain ⟨hb,F,hp2,hN⟩:=hp
 obtain ⟨A6,c6,F2,A7,c7,F3,A8,c8,F4,A9,c9,F5,A10,c10,F6,rfl,rfl,hl6,hl7,hl8,hl9,hl10⟩:=Restoration_vo hp2
 obtain ⟨Fs,E,H⟩:=H.addOwnRow hb (X:=[(⟨F2,MP.own F2 [(.slice A6 y.Plan.Network.Nodes.length c6)] (y.Plan.Network.Nodes:List ByteArray)⟩:DI),(⟨F3,MP.own F3 [(.slice A7 y.Plan.Network.Fibers.length c7)] (y.Plan.Network.Fibers:List Fiber)⟩:DI),(⟨F4,MP.own F4 [(.slice A8 y.Plan.Lights.length c8)] (y.Plan.Lights:List Light)⟩:DI),(⟨F5,MP.own F5 [(.slice A9 y.Home.length c9)] (y.Home:List Light)⟩:DI)]) (by simpa using hN.1) (ps1 hl6 (ps1 hl7 (ps1 hl8 (ps1 hl9 ps0)))) hl10 (by simpa using hN.2)
 have H:=H.rowSh 0 rfl
 have H:=H.lend 0 rfl
 have H:=H.lend 1 rfl
 have H:=H.lend 2 rfl
 have H:=H.lend 3 rfl
 refine aL hf H TF.zv60 fun b3 a w hf H=>?_
 refine sB 0 hf H TF.sz60 fun w H=>?_
 refine wr (wl0 rfl (bl hf H 3 ([]:List Int) [] el0 fun A11 a w hf H=>?_))
 refine pz 1 hf fun a hf=>?_
 refine we (sqz (pz 1 hf fun a hf=>?_))
 refine wl_end (then_n ?_)
 obtain ⟨out',hB1,hF⟩:=bs_ hF
 have hf:=hf.pn [1,2,4,5,6]
 have H:=H.frontD 3 rfl
 have H:=H.frontD 1 rfl
 have H:=H.frontD 2 rfl
 have H:=H.lk 7 3 7 [1,2,3,0,4,5,6,7,8]
 refine loopC (fun (s:Int×List Int×List ByteArray×List Fiber×List Light) (a:Act) (w:World)=>match s with | (i,ids,m,m2,m3)=>∃ (A12:Option Addr) (c11:Nat) (E2:Go.TypeId) (A13:Option Addr) (c12:Nat) (F7:List Nat) (A14:Option Addr) (c13:Nat) (F8:List Nat) (A15:Option Addr) (c14:Nat),Fr a 74 [(1,(.pointer (some ⟨b',0,none⟩))),(2,(.pointer (some ⟨b2,0,none⟩))),(4,(.pointer (some ⟨b3,0,none⟩))),(5,(.slice A12 ids.length c11)),(6,(.int .i64 i))]∧Mem ⟨w0,[]⟩ S [⟨b3,60,[(.slice A13 m.length c12),(.slice A14 m2.length c13),(.slice A15 m3.length c14),(.slice A9 y.Home.length c9),(.slice A10 y.Down.length c10)]⟩,⟨b2,60,[(.slice none 0 0),(.slice none 0 0),(.slice none 0 0),(.slice none 0 0),(.slice none 0 0)]⟩,⟨b',60,[(.slice A r'.Plan.Network.Nodes.length c),(.slice A2 r'.Plan.Network.Fibers.length c2),(.slice A3 r'.Plan.Lights.length c3),(.slice A4 r'.Home.length c4),(.slice A5 r'.Down.length c5)]⟩] [⟨.sh true,E2,A12,c11,(ids:List Int)⟩,⟨.sh true,E,A10,c10,(y.Down:List Int)⟩] [⟨F8,MP.own F8 [(.slice A14 m2.length c13)] (m2:List Fiber)⟩,⟨F7,MP.own F7 [(.slice A13 m.length c12)] (m:List ByteArray)⟩,⟨F5,MP.own F5 [(.slice A9 y.Home.length c9)] (y.Home:List Light)⟩] [(true,MP.val [(.slice A15 m3.length c14)] (m3:List Light)),(true,MP.val [(.slice A14 m2.length c13)] (m2:List Fiber)),(true,MP.val [(.slice A13 m.length c12)] (m:List ByteArray)),(true,MP.val [(.slice A9 y.Home.length c9)] (y.Home:List Light)),(false,MP.val [(.slice A5 r'.Down.length c5)] (r'.Down:List Int)),(false,MP.val [(.slice A4 r'.Home.length c4)] (r'.Home:List Light)),(false,MP.val [(.slice A3 r'.Plan.Lights.length c3)] (r'.Plan.Lights:List Light)),(false,MP.val [(.slice A2 r'.Plan.Network.Fibers.length c2)] (r'.Plan.Network.Fibers:List Fiber)),(false,MP.val [(.slice A r'.Plan.Network.Nodes.length c)] (r'.Plan.Network.Nodes:List ByteArray))] w) (fun k (s:Int×List Int×List ByteArray×List Fiber×List Light)=>spec_l15Revert_L1 fu r' k s.1 s.2.1 s.2.2.1 s.2.2.2.1 s.2.2.2.2=some out') (fun s=>out'=s) (0,([]:List Int),y.Plan.Network.Nodes,y.Plan.Network.Fibers,y.Plan.Lights) fu hB1 ⟨A11,0,3,A6,c6,F2,A7,c7,F3,A8,c8,hf,H⟩ (fun s h=>by cases h) ?_ ?_
 ·rintro fk ⟨i,ids,m,m2,m3⟩ a w hR1 hI
  replace hR1:spec_l15Revert_L1 fu r' (fk + 1) i ids m m2 m3=some out':=hR1
  rw [spec_l15Revert_L1] at hR1
  obtain ⟨A12,c11,E2,A13,c12,F7,A14,c13,F8,A15,c14,hf,H⟩:=hI
  refine sq (sqz (pz 2 hf fun a hf=>?_))
  refine lB 2 hf H TF.ls28 fun a hf=>?_
  refine pz 2 hf fun a hf=>?_
  refine wl_end (then_n (ib hR1 hf (fun hc hR1=>?_) fun hc hR1=>?_))
  ·refine ws (pz 1 hf fun a hf=>?_)
   refine lB 2 hf H TF.ls28 fun a hf=>?_
   refine pz 1 hf fun a hf=>?_
   obtain ⟨e,he,hR1⟩:=bs_ hR1
   refine wl0 rfl (op_iaddr hf H Tryz.underlying28 TF.sz49 5 rfl rfl rfl he (by decide) fun p o cs a hf hr H=>?_)
   obtain ⟨A16,c15,rfl,hl11⟩:=Light_cells hr
   have H:=H.pF hl11
   refine oq hf (rq_loadIN hf H TF.la49 1 0 rfl rfl rfl rfl) fun a hf=>?_
   refine aL hf H TF.zv49 fun b4 a w hf H=>?_
   refine sB 0 hf H TF.sz49 fun w H=>?_
   refine wr (pz 1 hf fun a hf=>?_)
   refine lN 1 hf H TF.la30 fun a hf=>?_
   refine pz 1 hf fun a hf=>?_
   refine lB 0 hf H TF.ls3 fun a hf=>?_
   obtain ⟨y2,hy2,hR1⟩:=bs_ hR1
   refine oc hf TF.cl182 (spec_l9Find_ok (S:=TT) (Plan_mkv (x:=({ Network:=({ Nodes:=m,Fibers:=m2 }:Network),Lights:=m3 }:Plan)) (H.rt 4 rfl) (H.rt 3 rfl) (H.rt 2 rfl)) mk_int hy2) fun v2 w a hp3 hf=>?_
   obtain ⟨hb2,hp3⟩:=hp3
   obtain rfl:=VR_int hp3
   have H:=H.keep hb2
   refine pz 1 hf fun a hf=>?_
   have hf:=hf.pn [1,2,4,5,6,7,8]
   refine wl_end (then_n (sq (sq ?_)))
   obtain ⟨c16,hGc16,hR1⟩:=bs_ hR1
   have fh:=hf.prune [1,2,4,5,6,7,8] rfl
   have Hm:=H.lm 15 3 7 11 2045
   refine midF 48 (.bool c16) fh Hm ?_ fun a w hf H=>?_
   ·refine dw [] 19 fun w hb=>?_
    have H:=H.keep hb
    refine zp 0 hf trivial fun a hf=>?_
    refine zp 1 hf trivial fun a hf=>?_
    refine zp 2 hf trivial fun a hf=>?_
    refine iteB hGc16 (fun hc2 hGc16=>?_) fun hc2 hGc16=>?_
    ·have hf:=hf.lit 32 rfl hc2
     refine zU 3 hf trivial fun a hf=>?_
     refine zU 4 hf trivial fun a hf=>?_
     refine zU 5 hf trivial fun a hf=>?_
     refine zU 6 hf trivial fun a hf=>?_
     refine zU 7 hf trivial fun a hf=>?_
     refine zU 8 hf trivial fun a hf=>?_
     refine zU 9 hf trivial fun a hf=>?_
     refine zU 10 hf trivial fun a hf=>?_
     refine zp 11 hf trivial fun a hf=>?_
     refine zp 12 hf trivial fun a hf=>?_
     refine zU 13 hf trivial fun a hf=>?_
     refine zU 14 hf trivial fun a hf=>?_
     refine zU 15 hf trivial fun a hf=>?_
     refine zU 16 hf trivial fun a hf=>?_
     refine zU 17 hf trivial fun a hf=>?_
     refine zp 18 hf trivial fun a hf=>?_
     refine dk ?_
     obtain rfl:=oi hGc16
     have hf:=hf.pn [48,1,2,4,5,6,7,8]
     have H:=H.lm 15 3 7 11 2045
     exact ⟨hf,H⟩
    have hf:=hf.lit 32 rfl hc2
    refine zg 3 hf trivial fun a hf=>?_
    refine zg 4 hf trivial fun a hf=>?_
    refine strT (H.lk 2 0 0 []) (fun w H=>trivial) fun hS=>?_
    refine tSg 5 [] rfl rfl rfl rfl rfl rfl hf (by kernel_rfl) (by kernel_rfl) hS (fun w H=>rq_loadB hf H TF.ls28 0 rfl rfl rfl) fun a hf=>?_
    refine zg 6 hf hS fun a hf=>?_
    obtain ⟨e2,he2,hGc16⟩:=bs_ hGc16
    obtain ⟨p2,o2,cs2,hx,hr2,H⟩:=pre_iaddr H Tryz.underlying28 TF.sz49 2 rfl he2
    refine tPg 7 rfl rfl rfl rfl rfl rfl hf (by kernel_rfl) (fun _=>hS) (fun w=>rq_iaddrE hf rfl rfl rfl hx w) fun a hf=>?_
    obtain ⟨A17,c17,rfl,hl12⟩:=Light_cells hr2
    have H:=H.pT hl12
    refine strT (H.lk 2 0 0 [1]) (fun w H=>H.lk 1 0 0 []) fun hS=>?_
    refine tSg 8 [] rfl rfl rfl rfl rfl rfl hf (by kernel_rfl) (by kernel_rfl) hS (fun w H=>rq_loadIN hf H TF.la49 0 0 rfl rfl rfl rfl) fun a hf=>?_
    refine strT (H.lk 3 0 0 [1]) (fun w H=>H.lk 2 0 0 [0]) fun hS=>?_
    refine tSg 9 [] rfl rfl rfl rfl rfl rfl hf (by kernel_rfl) (by kernel_rfl) hS (fun w H=>rq_loadBN hf H TF.la49 0 rfl rfl rfl rfl) fun a hf=>?_
    obtain ⟨y3,hy3,hGc16⟩:=bs_ hGc16
    refine n1g 10 (by kernel_rfl) rfl rfl rfl rfl hf (oC hf TF.cl183 (spec_l15SameLight_ok (S:=TT) (Light_mkv (x:=e2) (H.rt 0 rfl)) (Light_mkv (x:=e) (H.rt 2 rfl)) hy3) fun v3 w a hp4 hf=>?_)
    obtain ⟨hb3,hp4⟩:=hp4
    obtain rfl:=VR_bool hp4
    have H:=H.keep hb3
    have hS:=H.lk 3 0 0 [1]
    refine aS hS ?_
    refine zp 11 hf hS fun a hf=>?_
    refine zp 12 hf hS fun a hf=>?_
    refine iteB hGc16 (fun hc3 hGc16=>?_) fun hc3 hGc16=>?_
    ·have hf:=hf.lit 42 rfl hc3
     refine zU 13 hf hS fun a hf=>?_
     refine zU 14 hf hS fun a hf=>?_
     refine zU 15 hf hS fun a hf=>?_
     refine zU 16 hf hS fun a hf=>?_
     refine zU 17 hf hS fun a hf=>?_
     refine zp 18 hf hS fun a hf=>?_
     refine dk ?_
     obtain rfl:=oi hGc16
     have hf:=hf.pn [48,1,2,4,5,6,7,8]
     have H:=H.lm 15 3 7 13 8180
     exact ⟨hf,H⟩
    have hf:=hf.lit 42 rfl hc3
    refine zg 13 hf hS fun a hf=>?_
    refine tSg 14 [] rfl rfl rfl rfl rfl rfl hf (by kernel_rfl) (by kernel_rfl) hS (fun w H=>rq_loadBN hf H TF.la45 0 rfl rfl rfl rfl) fun a hf=>?_
    refine zg 15 hf hS fun a hf=>?_
    refine strT (H.lk 11 0 0 [1]) (fun w H=>H.lk 3 0 0 [0]) fun hS=>?_
    refine tSg 16 [] rfl rfl rfl rfl rfl rfl hf (by kernel_rfl) (by kernel_rfl) hS (fun w H=>rq_loadB hf H TF.ls35 2 rfl rfl rfl) fun a hf=>?_
    obtain ⟨y4,hy4,hGc16⟩:=bs_ hGc16
    refine n1g 17 (by kernel_rfl) rfl rfl rfl rfl hf (oC hf TF.cl174 (spec_l4Uses_ok (S:=TT) (Route_mkv (x:=e.Route) (H.rt 2 rfl)) (mk_list (H.rt 8 rfl)) hy4) fun v4 w a hp5 hf=>?_)
    obtain ⟨hb4,hp5⟩:=hp5
    obtain rfl:=VR_bool hp5
    have H:=H.keep hb4
    have hS:=H.lk 11 0 0 [1]
    refine aS hS ?_
    refine zp 18 hf hS fun a hf=>?_
    refine dk ?_
    obtain rfl:=oi hGc16
    have hf:=hf.pn [48,1,2,4,5,6,7,8]
    have H:=H.lm 15 3 7 13 8180
    exact ⟨hf,H⟩
   refine then_n (ib hR1 hf (fun hc4 hR1=>?_) fun hc4 hR1=>?_)
   ·refine wp_exit (then_x (blk_e (?_)))
    refine then_n (reg (pz 3 hf fun a hf=>?_))
    refine wl_end ?_
    have hf:=hf.pn [1,2,4,5,6]
    have H:=H.lm 14 3 7 10 1022
    exact then_n ⟨(w64 (i + 1),ids,m,m2,m3),hR1,A12,c11,E2,A13,c12,F7,A14,c13,F8,A15,c14,hf,H⟩
   refine wp_skip (then_n (sqz (pz 1 hf fun a hf=>?_)))
   refine lN 1 hf H TF.la30 fun a hf=>?_
   refine pz 1 hf fun a hf=>?_
   obtain ⟨y5,hy5,hR1⟩:=bs_ hR1
   refine oc hf TF.cl184 (spec_l9Without_ok (S:=TT) (Plan_mkv (x:=({ Network:=({ Nodes:=m,Fibers:=m2 }:Network),Lights:=m3 }:Plan)) (H.rt 3 rfl) (H.rt 2 rfl) (H.rt 1 rfl)) mk_int hy5) fun v5 w a hp6 hf=>?_
   obtain ⟨A18,c18,F9,A19,c19,F10,A20,c20,E3,rfl,Hc⟩:=hp6
   have H:=H.comp Hc (.inl rfl)
   have H:=H.lend 0 rfl
   have H:=H.lend 1 rfl
   refine aL hf H TF.zv30 fun b5 a w hf H=>?_
   refine sB 0 hf H TF.sz30 fun w H=>?_
   refine wl_end (then_n (sq (dw [] 9 fun w hb=>?_)))
   have H:=H.keep hb
   refine strT (H.lk 1 0 0 []) (fun w H=>trivial) fun hS=>?_
   refine zS 0 [] rfl rfl rfl rfl hf hS (fun w H=>rq_loadBN hf H TF.la30 0 rfl rfl rfl rfl) fun a hf=>?_
   refine zp 1 hf hS fun a hf=>?_
   refine strT (H.lk 3 0 0 []) (fun w H=>H.lk 1 0 0 []) fun hS=>?_
   refine zS 2 [] rfl rfl rfl rfl hf hS (fun w H=>rq_loadBN hf H TF.la45 1 rfl rfl rfl rfl) fun a hf=>?_
   refine zp 4 hf hS fun a hf=>?_
   refine zS 5 [] rfl rfl rfl rfl hf hS (fun w H=>rq_loadBN hf H TF.la47 1 rfl rfl rfl rfl) fun a hf=>?_
   obtain ⟨y6,hy6,hR1⟩:=bs_ hR1
   refine nn 3 rfl (oC hf TF.cl185 (spec_l9Along_ok (S:=TT) (Plan_mkv (x:=y5) (H.rt 1 rfl) (H.rt 0 rfl) (H.rowTrue 0 rfl)) (Route_mkv (x:=e.Route) (H.rt 2 rfl)) hy6) fun v6 w a hp7 hf=>?_)
   obtain ⟨hb5,hp7⟩:=hp7
   obtain rfl:=VR_int hp7
   have H:=H.keep hb5
   have hS:=H.lk 3 0 0 []
   refine aS hS ?_
   obtain ⟨y7,hy7,hR1⟩:=bs_ hR1
   refine nn 6 rfl (oC hf TF.cl186 (spec_l8Bits_ok (S:=TT) Block_mkv hy7) fun v7 w a hp8 hf=>?_)
   obtain ⟨hb6,hp8⟩:=hp8
   obtain rfl:=VR_int hp8
   have H:=H.keep hb6
   have hS:=H.lk 3 0 0 []
   refine aS hS ?_
   refine zp 7 hf hS fun a hf=>?_
   refine zp 8 hf hS fun a hf=>?_
   refine dk ?_
   have hf:=hf.pn [1,2,4,5,6,7,9,61]
   refine then_n (ib hR1 hf (fun hc5 hR1=>?_) fun hc5 hR1=>?_)
   ·refine sq (dw [5] 6 fun w hb=>?_)
    have H:=H.keep hb
    refine strT (H.lk 1 0 0 []) (fun w H=>trivial) fun hS=>?_
    refine zS 0 [0,3,4,5] rfl rfl rfl rfl hf hS (fun w H=>rq_loadBN hf H TF.la30 0 rfl rfl rfl rfl) fun a hf=>?_
    refine strT (H.lk 3 0 0 []) (fun w H=>H.lk 1 0 0 []) fun hS=>?_
    refine zS 1 [1,2,3,4,5] rfl rfl rfl rfl hf hS (fun w H=>rq_loadBN hf H TF.la49 1 rfl rfl rfl rfl) fun a hf=>?_
    obtain ⟨y8,hy8,hR1⟩:=bs_ hR1
    refine nn 2 rfl (oC hf TF.cl188 (spec_l9Copy_ok (S:=TT) (Light_mkv (x:=e) (H.rt 2 rfl)) hy8) fun v8 w a hp9 hf=>?_)
    obtain ⟨hb7,F11,hp10,hN2⟩:=hp9
    obtain ⟨A21,c21,F12,rfl,rfl,hl13⟩:=Light_vo hp10
    have H:=H.aO1 hb7 hN2 hl13
    have H:=H.lend 0 rfl
    have hS:=H.lk 3 0 0 []
    refine aS hS ?_
    obtain ⟨y9,hy9,hR1⟩:=bs_ hR1
    refine nn 3 rfl (oC hf TF.cl187 (spec_l9Put_ok (S:=TT) (Plan_mkv (x:=y5) (H.rt 2 rfl) (H.rt 1 rfl) (H.rowTrue 0 rfl)) (Light_mkv (x:=y8) (H.rt 0 rfl)) hy9) fun v9 w a hp11 hf=>?_)
    obtain ⟨A22,c22,F13,A23,c23,F14,A24,c24,E4,rfl,Hc2⟩:=hp11
    have H:=H.comp Hc2 (.inl rfl)
    have H:=H.lend 0 rfl
    have H:=H.lend 1 rfl
    have hS:=H.lk 3 0 0 []
    refine aS hS ?_
    refine zp 4 hf hS fun a hf=>?_
    refine nn 5 rfl (op_storeB hf H 2 TF.sz30 rfl rfl rfl rfl rfl rfl (nle rfl) fun w H=>?_)
    refine ⟨fun h=>absurd h (by decide),?_⟩
    refine dk ?_
    refine then_n (reg (pz 2 hf fun a hf=>?_))
    refine lB 1 hf H TF.ls3 fun a hf=>?_
    refine wl0 rfl (bl hf H 3 ([e.Id]:List Int) [(.int .i64 e.Id)] (el1 (y:=e.Id) (rfl)) fun A25 a w hf H=>?_)
    obtain ⟨l,hl_,hR1⟩:=bs_ hR1
    refine wl0 rfl (op_appR hf H Tryz.underlying35 TF.ai3 rfl (by decide) 3 0 rfl rfl rfl rfl (.inr rfl) hl_ (by decide) fun E5 A26 c25 a w hf H=>?_)
    refine pz 1 hf fun a hf=>?_
    have hf:=hf.pn [1,2,4,5,6]
    refine wl_end (blk_n (then_n (reg (pz 3 hf fun a hf=>?_))))
    refine wl_end ?_
    have H:=H.lm 31 27 255 15 32767
    have H:=H.freeze 1 rfl
    have hf:=hf.pn [1,2,4,5,6]
    have H:=H.frontD 7 rfl
    have H:=H.frontD 1 rfl
    have H:=H.frontD 2 rfl
    have H:=H.lm 28 6 7 16 64519
    exact then_n ⟨(w64 (i + 1),l,y9.Network.Nodes,y9.Network.Fibers,y9.Lights),hR1,A26,c25,E5,A22,c22,F13,A23,c23,F14,A24,c24,hf,H⟩
   refine wp_skip (blk_n (then_n (reg (pz 3 hf fun a hf=>?_))))
   refine wl_end ?_
   have H:=H.lm 31 6 31 12 4095
   have hf:=hf.pn [1,2,4,5,6]
   have H:=H.lm 28 3 28 12 4088
   exact then_n ⟨(w64 (i + 1),ids,m,m2,m3),hR1,A12,c11,E2,A13,c12,F7,A14,c13,F8,A15,c14,hf,H⟩
  refine wp_exit (then_x (then_x (blk_e (?_))))
  have hf:=hf.pn [1,2,4,5,6]
  have H:=H.lm 7 3 7 9 511
  exact ⟨(i,ids,m,m2,m3),(Option.some.inj hR1).symm,A12,c11,E2,A13,c12,F7,A14,c13,F8,A15,c14,hf,H⟩
 rintro a w ⟨⟨i2,ids2,m4,m5,m6⟩,rfl,A27,c26,E6,A28,c27,F15,A29,c28,F16,A30,c29,hf,H⟩
 try dsimp only at hF
 refine then_n (sq (reg (lN 0 hf H TF.la60 fun a hf=>?_)))
 refine pz 1 hf fun a hf=>?_
 refine sB 1 hf H TF.sz60 fun w H=>?_
 refine pz 1 hf fun a hf=>?_
 refine wer ?_
 have H:=H.rowOwn 0 rfl rfl
 obtain ⟨F17,H⟩:=H.freezeOwn 0 rfl
 have H:=H.lend 0 rfl
 have H:=H.frontD 3 rfl
 have H:=H.frontD 2 rfl
 have H:=H.frontD 3 rfl
 obtain rfl:=oi hF
 refine ret_2 hf rfl (rv_cellN hf H 1 TF.la60 rfl rfl rfl) (rv_tmp hf rfl) ?_
 have H:=H.lk 0 1 15 [1]
 exact ⟨_,rfl,A28,c27,F15,A29,c28,F16,A30,c29,A9,c9,F5,A10,c10,E,A27,c26,F17,rfl,H⟩
theorem spec_RevertLights_ok {S:Nat→Prop} {v0_:Value} {r':Restoration} {r:Restoration×List Int×Bool} (h0:VR w0 S v0_ r') (hF:spec_RevertLights fu r'=some r) :
    Calls Tryz.prog 23 [v0_].toArray w0 fun e w'=>∃ v,e=.returned v∧(Below w0.heap.size w0 w'∧∃ u0 u1 u2,v=.tuple #[u0,u1,u2]∧VR w' (St ⟨w0,[]⟩ S [] [] [] true) u0 r.1∧VR w' (St ⟨w0,[]⟩ S [] [] [] true) u1 r.2.1∧VR w' (St ⟨w0,[]⟩ S [] [] [] true) u2 r.2.2):=by
 obtain ⟨A,c,A2,c2,A3,c3,A4,c4,A5,c5,rfl,hl,hl2,hl3,hl4,hl5⟩:=Restoration_open h0
 have H:=Mem.start ⟨w0,[]⟩ S
 have H:=H.pA hl
 have H:=H.pA hl2
 have H:=H.pA hl3
 have H:=H.pA hl4
 have H:=H.pA hl5
 refine en Tryz.func23 fun a hf=>?_
 rw [spec_RevertLights] at hF
 refine bx hf H fun b' a w hf H=>?_
 refine aL hf H TF.zv60 fun b2 a w hf H=>?_
 refine pz 2 hf fun a hf=>?_
 refine wl_end (then_n (sq (sq (reg (lN 1 hf H TF.la60 fun a hf=>?_)))))
 obtain ⟨y,hy,hF⟩:=bs_ hF
 refine oc hf TF.cl83 (spec_l15Good_ok (S:=TT) (Restoration_mkv (x:=r') (H.rt 4 rfl) (H.rt 3 rfl) (H.rt 2 rfl) (H.rt 1 rfl) (H.rt 0 rfl)) hy) fun v w a hp hf=>?_
 obtain ⟨hb,hp⟩:=hp
 obtain rfl:=VR_bool hp
 have H:=H.keep hb
 refine pz 1 hf fun a hf=>?_
 refine wl_end (then_n (ib hF hf (fun hc hF=>?_) fun hc hF=>?_))
 ·refine sq (reg (oq hf (rq_build hf (cs:=[(.slice none 0 0),(.slice none 0 0),(.slice none 0 0),(.slice none 0 0),(.slice none 0 0)]) rfl (fun w=>by kernel_rfl)) fun a hf=>?_))
  refine wl0 rfl (bl hf H 3 ([]:List Int) [] el0 fun A6 a w hf H=>?_)
  refine sB 0 hf H TF.sz60 fun w H=>?_
  refine pz 2 hf fun a hf=>?_
  refine wl_end (then_n (wp_ret (then_r (?_))))
  have H:=H.pushNil (ByteArray) true
  have H:=H.pushNil (Fiber) true
  have H:=H.pushNil (Light) true
  have H:=H.pushNil (Light) true
  have H:=H.pushNil (Int) true
  have H:=H.freeze 0 rfl
  obtain rfl:=oi hF
  refine ret_3 hf rfl (rv_cellN hf H 0 TF.la60 rfl rfl rfl) (rv_tmp hf rfl) (rv_tmp hf rfl) ?_
  exact ⟨_,rfl,H.bel,_,_,_,rfl,(Restoration_mkv (x:=({ Plan:=({ Network:=({ Nodes:=[],Fibers:=[] }:Network),Lights:=[] }:Plan),Home:=[],Down:=[] }:Restoration)) (rep_end (α:=List ByteArray) (H.get 5 rfl)) (rep_end (α:=List Fiber) (H.get 4 rfl)) (rep_end (α:=List Light) (H.get 3 rfl)) (rep_end (α:=List Light) (H.get 2 rfl)) (rep_end (α:=List Int) (H.get 1 rfl))),(mk_list (rep_end (α:=List Int) (H.get 0 rfl))),mk_bool⟩
 refine wp_skip (then_n (sq (reg (lN 1 hf H TF.la60 fun a hf=>?_))))
 obtain ⟨y2,hy2,hF⟩:=bs_ hF
 refine oc hf TF.cl93 (spec_l15Revert_ok (S:=TT) (Restoration_mkv (x:=r') (H.rt 4 rfl) (H.rt 3 rfl) (H.rt 2 rfl) (H.rt 1 rfl) (H.rt 0 rfl)) hy2) fun v2 w a hp2 hf=>?_
 obtain ⟨A7,c6,F,A8,c7,F2,A9,c8,A10,c9,F3,A11,c10,E,A12,c11,F4,rfl,Hc⟩:=hp2
 have H:=H.comp Hc (.inl rfl)
 have H:=H.lend 0 rfl
 have H:=H.lend 1 rfl
 have H:=H.lend 2 rfl
 have H:=H.lend 3 rfl
 refine pz 3 hf fun a hf=>?_
 refine aL hf H TF.zv60 fun b3 a w hf H=>?_
 refine sB 0 hf H TF.sz60 fun w H=>?_
 refine pz 1 hf fun a hf=>?_
 refine wr (lN 0 hf H TF.la60 fun a hf=>?_)
 refine pz 1 hf fun a hf=>?_
 refine sB 1 hf H TF.sz60 fun w H=>?_
 refine pz 2 hf fun a hf=>?_
 have hf:=hf.pn [2,3,4]
 refine wer ?_
 have H:=H.freeze 0 rfl
 obtain rfl:=oi hF
 refine ret_3 hf rfl (rv_cellN hf H 1 TF.la60 rfl rfl rfl) (rv_tmp hf rfl) (rv_tmp hf rfl) ?_
 exact ⟨_,rfl,H.bel,_,_,_,rfl,(Restoration_mkv (x:=y2.1) (rep_end (α:=List ByteArray) (H.get 4 rfl)) (rep_end (α:=List Fiber) (H.get 3 rfl)) (rep_end (α:=List Light) (H.get 5 rfl)) (rep_end (α:=List Light) (H.get 2 rfl)) (rep_end (α:=List Int) (H.get 0 rfl))),(mk_list (rep_end (α:=List Int) (H.get 1 rfl))),mk_bool⟩
theorem laws_vInts_ok {S:Nat→Prop} {v0_:Value} {v1_:Value} {a':List Int} {b':List Int} {r:Bool} (h0:VR w0 S v0_ a') (h1:VR w0 S v1_ b') (hF:laws_vInts fu a' b'=some r) :
    Calls Tryz.prog 24 [v0_,v1_].toArray w0 fun e w'=>∃ v,e=.returned v∧(Below w0.heap.size w0 w'∧VR w' (St ⟨w0,[]⟩ S [] [] [] true) v r):=by
 obtain ⟨A,c,rfl,hl⟩:=VR_list h0
 obtain ⟨A2,c2,rfl,hl2⟩:=VR_list h1
 have H:=Mem.start ⟨w0,[]⟩ S
 have H:=H.pA hl
 have H:=H.pA hl2
 refine en Tryz.func24 fun a hf=>?_
 rw [laws_vInts] at hF
 refine sqz (pz 1 hf fun a hf=>?_)
 refine we (sqz (pz 5 hf fun a hf=>?_))
 refine wl_end (then_n (ib hF hf (fun hc hF=>?_) fun hc hF=>?_))
 ·refine sqz (pz 1 hf fun a hf=>?_)
  refine wl_end (then_n (wp_ret (then_r (?_))))
  obtain rfl:=oi hF
  refine rT hf ?_
  exact ⟨_,rfl,H.bel,mk_bool⟩
 refine wp_skip (then_n (sq (sqz (pz 1 hf fun a hf=>?_))))
 refine wl_end (then_n ?_)
 obtain ⟨out',hB1,hF⟩:=bs_ hF
 have hf:=hf.pn [0,1,5]
 have H:=H.lk 0 0 0 [0,1]
 refine loopC (fun (s:Int) (a:Act) (w:World)=>match s with | i=>Fr a 26 [(0,(.slice A a'.length c)),(1,(.slice A2 b'.length c2)),(5,(.int .i64 i))]∧Mem ⟨w0,[]⟩ S [] [] [] [(false,MP.val [(.slice A2 b'.length c2)] (b':List Int)),(false,MP.val [(.slice A a'.length c)] (a':List Int))] w) (fun k (s:Int)=>laws_vInts_L1 fu a' b' k s=some out') (fun s=>out'=Out.next s) 0 fu hB1 ⟨hf,H⟩ (fun s h=>by cases h) ?_ ?_
 ·rintro fk i a w hR1 hI
  replace hR1:laws_vInts_L1 fu a' b' (fk + 1) i=some out':=hR1
  rw [laws_vInts_L1] at hR1
  obtain ⟨hf,H⟩:=hI
  refine sq (sqz (pz 4 hf fun a hf=>?_))
  refine wl_end (then_n (ib hR1 hf (fun hc2 hR1=>?_) fun hc2 hR1=>?_))
  ·refine wp_skip (then_n (sq (wp_block (sq (dw [] 9 fun w hb=>?_)))))
   have H:=H.keep hb
   refine zp 0 hf trivial fun a hf=>?_
   refine zp 1 hf trivial fun a hf=>?_
   obtain ⟨e,he,hR1⟩:=bs_ hR1
   obtain ⟨p,o,cs,hx,hr,H⟩:=pre_iaddr H Tryz.underlying35 TF.sz3 1 rfl he
   refine tP 2 rfl rfl rfl rfl hf (by kernel_rfl) (fun _=>trivial) (fun w=>rq_iaddrE hf rfl rfl rfl hx w) fun a hf=>?_
   obtain rfl:=hr
   refine strT (H.lk 0 0 0 [0]) (fun w H=>trivial) fun hS=>?_
   refine zS 3 [] rfl rfl rfl rfl hf hS (fun w H=>rq_loadI hf H TF.ls3 0 0 rfl rfl rfl) fun a hf=>?_
   refine zp 4 hf hS fun a hf=>?_
   refine zp 5 hf hS fun a hf=>?_
   obtain ⟨e2,he2,hR1⟩:=bs_ hR1
   obtain ⟨p2,o2,cs2,hx2,hr2,H⟩:=pre_iaddr H Tryz.underlying35 TF.sz3 1 rfl he2
   refine zP 6 rfl rfl rfl rfl hf hS (fun w=>rq_iaddrE hf rfl rfl rfl hx2 w) fun a hf=>?_
   obtain rfl:=hr2
   refine strT (H.lk 0 0 0 [0,1]) (fun w H=>H.lk 0 0 0 [1]) fun hS=>?_
   refine zS 7 [] rfl rfl rfl rfl hf hS (fun w H=>rq_loadI hf H TF.ls3 0 0 rfl rfl rfl) fun a hf=>?_
   refine zp 8 hf hS fun a hf=>?_
   refine dk ?_
   refine then_n (ib hR1 hf (fun hc3 hR1=>?_) fun hc3 hR1=>?_)
   ·refine sqz (pz 1 hf fun a hf=>?_)
    have hf:=hf.pn [4]
    refine wl_end (then_n (wp_ret (blk_r (then_r (then_r (blk_r (then_r (then_r (?_)))))))))
    obtain rfl:=oi hR1
    replace hF:=on_ret hF
    obtain rfl:=oi hF
    refine rT hf ?_
    exact ⟨_,rfl,H.bel,mk_bool⟩
   refine wp_skip (blk_n (then_n (reg (pz 3 hf fun a hf=>?_))))
   have hf:=hf.pn [0,1,5]
   refine wl_end ?_
   have hf:=hf.pn [0,1,5]
   have H:=H.lk 0 0 0 [2,3]
   exact then_n ⟨w64 (i + 1),hR1,hf,H⟩
  refine wp_exit (then_x (then_x (blk_e (?_))))
  have hf:=hf.pn [0,1,5]
  have H:=H.lk 0 0 0 [0,1]
  exact ⟨i,(Option.some.inj hR1).symm,hf,H⟩
 rintro a w ⟨i2,rfl,hf,H⟩
 replace hF:=on_next hF
 refine then_n (sqz (pz 1 hf fun a hf=>?_))
 refine wer ?_
 obtain rfl:=oi hF
 refine rT hf ?_
 exact ⟨_,rfl,H.bel,mk_bool⟩
theorem laws_vHas_ok {S:Nat→Prop} {v0_:Value} {v1_:Value} {l:List Int} {x1:Int} {r:Bool} (h0:VR w0 S v0_ l) (h1:VR w0 S v1_ x1) (hF:laws_vHas fu l x1=some r) :
    Calls Tryz.prog 26 [v0_,v1_].toArray w0 fun e w'=>∃ v,e=.returned v∧(Below w0.heap.size w0 w'∧VR w' (St ⟨w0,[]⟩ S [] [] [] true) v r):=by
 obtain ⟨A,c,rfl,hl⟩:=VR_list h0
 obtain rfl:=VR_int h1
 have H:=Mem.start ⟨w0,[]⟩ S
 have H:=H.pA hl
 refine en Tryz.func26 fun a hf=>?_
 rw [laws_vHas] at hF
 refine sqz (pz 1 hf fun a hf=>?_)
 refine we (sqz (pz 1 hf fun a hf=>?_))
 refine wl_end (then_n ?_)
 obtain ⟨out',hB1,hF⟩:=bs_ hF
 have hf:=hf.pn [0,1,5]
 have H:=H.lk 0 0 0 [0]
 refine loopC (fun (s:Int) (a:Act) (w:World)=>match s with | i=>Fr a 18 [(0,(.slice A l.length c)),(1,(.int .i64 x1)),(5,(.int .i64 i))]∧Mem ⟨w0,[]⟩ S [] [] [] [(false,MP.val [(.slice A l.length c)] (l:List Int))] w) (fun k (s:Int)=>laws_vHas_L1 fu l x1 k s=some out') (fun s=>out'=Out.next s) 0 fu hB1 ⟨hf,H⟩ (fun s h=>by cases h) ?_ ?_
 ·rintro fk i a w hR1 hI
  replace hR1:laws_vHas_L1 fu l x1 (fk + 1) i=some out':=hR1
  rw [laws_vHas_L1] at hR1
  obtain ⟨hf,H⟩:=hI
  refine sq (sqz (pz 4 hf fun a hf=>?_))
  refine wl_end (then_n (ib hR1 hf (fun hc hR1=>?_) fun hc hR1=>?_))
  ·refine ws (pz 2 hf fun a hf=>?_)
   obtain ⟨e,he,hR1⟩:=bs_ hR1
   refine wl0 rfl (op_iaddr hf H Tryz.underlying35 TF.sz3 0 rfl rfl rfl he (by decide) fun p o cs a hf hr H=>?_)
   obtain rfl:=hr
   refine oq hf (rq_loadI hf H TF.ls3 0 0 rfl rfl rfl) fun a hf=>?_
   refine pz 2 hf fun a hf=>?_
   refine wl_end (then_n (ib hR1 hf (fun hc2 hR1=>?_) fun hc2 hR1=>?_))
   ·refine sqz (pz 1 hf fun a hf=>?_)
    have hf:=hf.pn [4]
    refine wl_end (then_n (wp_ret (blk_r (then_r (then_r (blk_r (then_r (then_r (?_)))))))))
    obtain rfl:=oi hR1
    replace hF:=on_ret hF
    obtain rfl:=oi hF
    refine rT hf ?_
    exact ⟨_,rfl,H.bel,mk_bool⟩
   refine wp_skip (blk_n (then_n (reg (pz 3 hf fun a hf=>?_))))
   refine wl_end ?_
   have hf:=hf.pn [0,1,5]
   have H:=H.lk 0 0 0 [1]
   exact then_n ⟨w64 (i + 1),hR1,hf,H⟩
  refine wp_exit (then_x (then_x (blk_e (?_))))
  have hf:=hf.pn [0,1,5]
  have H:=H.lk 0 0 0 [0]
  exact ⟨i,(Option.some.inj hR1).symm,hf,H⟩
 rintro a w ⟨i2,rfl,hf,H⟩
 replace hF:=on_next hF
 refine then_n (sqz (pz 1 hf fun a hf=>?_))
 refine wer ?_
 obtain rfl:=oi hF
 refine rT hf ?_
 exact ⟨_,rfl,H.bel,mk_bool⟩
theorem laws_vRoutes_ok {S:Nat→Prop} {v0_:Value} {v1_:Value} {a':Route} {b':Route} {r:Bool} (h0:VR w0 S v0_ a') (h1:VR w0 S v1_ b') (hF:laws_vRoutes fu a' b'=some r) :
    Calls Tryz.prog 98 [v0_,v1_].toArray w0 fun e w'=>∃ v,e=.returned v∧(Below w0.heap.size w0 w'∧VR w' (St ⟨w0,[]⟩ S [] [] [] true) v r):=by
 obtain ⟨A,c,rfl,hl⟩:=Route_open h0
 obtain ⟨A2,c2,rfl,hl2⟩:=Route_open h1
 have H:=Mem.start ⟨w0,[]⟩ S
 have H:=H.pA hl
 have H:=H.pA hl2
 refine en Tryz.func98 fun a hf=>?_
 rw [laws_vRoutes] at hF
 refine bx hf H fun b2 a w hf H=>?_
 refine wl0 rfl (op_box hf H rfl rfl (by decide) fun b3 a w hf H=>?_)
 refine pz 1 hf fun a hf=>?_
 refine wl_end (then_n (sq ?_))
 obtain ⟨c3,hGc3,hF⟩:=bs_ hF
 have fh:=hf.prune [] rfl
 have Hm:=H.lk 0 0 0 []
 refine midF 4 (.bool c3) fh Hm ?_ fun a w hf H=>?_
 ·refine reg (pz 1 hf fun a hf=>?_)
  refine lB 1 hf H TF.ls3 fun a hf=>?_
  refine pz 1 hf fun a hf=>?_
  refine lB 0 hf H TF.ls3 fun a hf=>?_
  refine pz 2 hf fun a hf=>?_
  refine iteB hGc3 (fun hc hGc3=>?_) fun hc hGc3=>?_
  ·have hf:=hf.lit 10 rfl hc
   refine pz 1 hf fun a hf=>?_
   refine wlg hf rfl rfl rfl (op_q hf (rq_loadB hf H TF.ls35 1 rfl rfl rfl) rfl (by decide) fun a hf=>?_)
   refine pz 1 hf fun a hf=>?_
   refine wlg hf rfl rfl rfl (op_q hf (rq_loadB hf H TF.ls35 0 rfl rfl rfl) rfl (by decide) fun a hf=>?_)
   obtain ⟨y,hy,hGc3⟩:=bs_ hGc3
   refine wlg hf rfl rfl rfl (oC hf TF.cl24 (laws_vInts_ok (S:=TT) (mk_list (H.rt 1 rfl)) (mk_list (H.rt 0 rfl)) hy) fun v w a hp hf=>?_)
   obtain ⟨hb,hp⟩:=hp
   obtain rfl:=VR_bool hp
   have H:=H.keep hb
   refine pz 2 hf fun a hf=>?_
   obtain rfl:=oi hGc3
   have hf:=hf.pn [4]
   have H:=H.lk 0 0 0 []
   exact wl_end ⟨hf,H⟩
  have hf:=hf.lit 10 rfl hc
  refine pz 7 hf fun a hf=>?_
  obtain rfl:=oi hGc3
  have hf:=hf.pn [4]
  have H:=H.lk 0 0 0 []
  exact wl_end ⟨hf,H⟩
 refine then_n (wp_ret (?_))
 obtain rfl:=oi hF
 refine rT hf ?_
 exact ⟨_,rfl,H.bel,mk_bool⟩
theorem laws_vLights_ok {S:Nat→Prop} {v0_:Value} {v1_:Value} {a':Light} {b':Light} {r:Bool} (h0:VR w0 S v0_ a') (h1:VR w0 S v1_ b') (hF:laws_vLights fu a' b'=some r) :
    Calls Tryz.prog 27 [v0_,v1_].toArray w0 fun e w'=>∃ v,e=.returned v∧(Below w0.heap.size w0 w'∧VR w' (St ⟨w0,[]⟩ S [] [] [] true) v r):=by
 obtain ⟨A,c,rfl,hl⟩:=Light_open h0
 obtain ⟨A2,c2,rfl,hl2⟩:=Light_open h1
 have H:=Mem.start ⟨w0,[]⟩ S
 have H:=H.pA hl
 have H:=H.pA hl2
 refine en Tryz.func27 fun a hf=>?_
 rw [laws_vLights] at hF
 refine bx hf H fun b2 a w hf H=>?_
 refine wl0 rfl (op_box hf H rfl rfl (by decide) fun b3 a w hf H=>?_)
 refine pz 1 hf fun a hf=>?_
 refine wl_end (then_n (sq ?_))
 obtain ⟨c3,hGc3,hF⟩:=bs_ hF
 have fh:=hf.prune [] rfl
 have Hm:=H.lk 0 0 0 []
 refine midF 4 (.bool c3) fh Hm ?_ fun a w hf H=>?_
 ·refine reg (pz 1 hf fun a hf=>?_)
  refine lB 1 hf H TF.ls3 fun a hf=>?_
  refine pz 1 hf fun a hf=>?_
  refine lB 0 hf H TF.ls3 fun a hf=>?_
  refine pz 2 hf fun a hf=>?_
  refine iteB hGc3 (fun hc hGc3=>?_) fun hc hGc3=>?_
  ·have hf:=hf.lit 10 rfl hc
   refine pz 1 hf fun a hf=>?_
   refine wlg hf rfl rfl rfl (op_q hf (rq_loadBN hf H TF.la47 1 rfl rfl rfl rfl) rfl (by decide) fun a hf=>?_)
   refine pz 1 hf fun a hf=>?_
   refine wlg hf rfl rfl rfl (op_q hf (rq_loadBN hf H TF.la47 0 rfl rfl rfl rfl) rfl (by decide) fun a hf=>?_)
   refine wlg hf rfl rfl rfl (op_q hf (rq_eqT hf TF.qeqt47 ([a'.Block.First,a'.Block.Count]:List Int) ([b'.Block.First,b'.Block.Count]:List Int) rfl rfl rfl rfl rfl rfl) rfl (by decide) fun a hf=>?_)
   refine pz 2 hf fun a hf=>?_
   refine iteB hGc3 (fun hc2 hGc3=>?_) fun hc2 hGc3=>?_
   ·have hf:=hf.lit 17 rfl hc2
    refine pz 1 hf fun a hf=>?_
    refine wlg hf rfl rfl rfl (op_q hf (rq_loadBN hf H TF.la45 1 rfl rfl rfl rfl) rfl (by decide) fun a hf=>?_)
    refine pz 1 hf fun a hf=>?_
    refine wlg hf rfl rfl rfl (op_q hf (rq_loadBN hf H TF.la45 0 rfl rfl rfl rfl) rfl (by decide) fun a hf=>?_)
    obtain ⟨y,hy,hGc3⟩:=bs_ hGc3
    refine wlg hf rfl rfl rfl (oC hf TF.cl98 (laws_vRoutes_ok (S:=TT) (Route_mkv (x:=a'.Route) (H.rt 1 rfl)) (Route_mkv (x:=b'.Route) (H.rt 0 rfl)) hy) fun v w a hp hf=>?_)
    obtain ⟨hb,hp⟩:=hp
    obtain rfl:=VR_bool hp
    have H:=H.keep hb
    refine pz 2 hf fun a hf=>?_
    obtain rfl:=oi hGc3
    have hf:=hf.pn [4]
    have H:=H.lk 0 0 0 []
    exact wl_end ⟨hf,H⟩
   have hf:=hf.lit 17 rfl hc2
   refine pz 7 hf fun a hf=>?_
   obtain rfl:=oi hGc3
   have hf:=hf.pn [4]
   have H:=H.lk 0 0 0 []
   exact wl_end ⟨hf,H⟩
  have hf:=hf.lit 10 rfl hc
  refine pz 14 hf fun a hf=>?_
  obtain rfl:=oi hGc3
  have hf:=hf.pn [4]
  have H:=H.lk 0 0 0 []
  exact wl_end ⟨hf,H⟩
 refine then_n (wp_ret (?_))
 obtain rfl:=oi hF
 refine rT hf ?_
 exact ⟨_,rfl,H.bel,mk_bool⟩
theorem laws_FnReverting_ok {S:Nat→Prop} {v0_:Value} {code:List By} {r:Bool} (h0:VR w0 S v0_ code) (hF:laws_FnReverting fu code=some r) :
    Calls Tryz.prog 4 [v0_].toArray w0 fun e w'=>∃ v,e=.returned v∧(Below w0.heap.size w0 w'∧VR w' (St ⟨w0,[]⟩ S [] [] [] true) v r):=by
 obtain ⟨A,c,rfl,hl⟩:=VR_list h0
 have H:=Mem.start ⟨w0,[]⟩ S
 have H:=H.pA hl
 refine en Tryz.func4 fun a hf=>?_
 rw [laws_FnReverting] at hF
 refine sqz (pz 1 hf fun a hf=>?_)
 refine we (sqz (pz 1 hf fun a hf=>?_))
 obtain ⟨y,hy,hF⟩:=bs_ hF
 refine oc hf TF.cl10 (laws_vBig_ok (S:=TT) (mk_list (H.rt 0 rfl)) hy) fun v w a hp hf=>?_
 obtain ⟨hb,hp⟩:=hp
 obtain rfl:=VR_bool hp
 have H:=H.keep hb
 refine wl_end (then_n (ib hF hf (fun hc hF=>?_) fun hc hF=>?_))
 ·refine sqz (pz 1 hf fun a hf=>?_)
  refine wl_end (then_n (wp_ret (then_r (?_))))
  obtain rfl:=oi hF
  refine rT hf ?_
  exact ⟨_,rfl,H.bel,mk_bool⟩
 refine wp_skip (then_n (sqz (pz 1 hf fun a hf=>?_)))
 obtain ⟨y2,hy2,hF⟩:=bs_ hF
 refine oc hf TF.cl21 (spec_DrawRevertLights_ok (S:=TT) (mk_list (H.rt 0 rfl)) hy2) fun v2 w a hp2 hf=>?_
 obtain ⟨A2,c2,F,A3,c3,F2,A4,c4,E,A5,c5,A6,c6,E2,rfl,Hc⟩:=hp2
 have H:=H.comp Hc (.inl rfl)
 have H:=H.lend 0 rfl
 have H:=H.lend 1 rfl
 refine aL hf H TF.zv60 fun b' a w hf H=>?_
 refine sB 0 hf H TF.sz60 fun w H=>?_
 refine wr (lN 0 hf H TF.la60 fun a hf=>?_)
 obtain ⟨y3,hy3,hF⟩:=bs_ hF
 refine oc hf TF.cl22 (impl_RevertLights_ok (S:=TT) (Restoration_mkv (x:=y2) (H.rt 1 rfl) (H.rt 0 rfl) (H.rowTrue 0 rfl) (H.rt 2 rfl) (H.rowTrue 1 rfl)) hy3) fun v3 w a hp3 hf=>?_
 obtain ⟨hb2,v4,v5,v6,rfl,hp4,hp5,hp6⟩:=hp3
 obtain ⟨A7,c7,A8,c8,A9,c9,A10,c10,A11,c11,rfl,hl2,hl3,hl4,hl5,hl6⟩:=Restoration_open hp4
 obtain ⟨A12,c12,rfl,hl7⟩:=VR_list hp5
 obtain rfl:=VR_bool hp6
 obtain ⟨F3,H⟩:=H.addRo hb2 (p:=MP.and (MP.val [(.slice A7 y3.1.Plan.Network.Nodes.length c7)] (y3.1.Plan.Network.Nodes:List ByteArray)) (MP.and (MP.val [(.slice A8 y3.1.Plan.Network.Fibers.length c8)] (y3.1.Plan.Network.Fibers:List Fiber)) (MP.and (MP.val [(.slice A9 y3.1.Plan.Lights.length c9)] (y3.1.Plan.Lights:List Light)) (MP.and (MP.val [(.slice A10 y3.1.Home.length c10)] (y3.1.Home:List Light)) (MP.and (MP.val [(.slice A11 y3.1.Down.length c11)] (y3.1.Down:List Int)) (MP.val [(.slice A12 y3.2.1.length c12)] (y3.2.1:List Int))))))) ⟨hl2,⟨hl3,⟨hl4,⟨hl5,⟨hl6,hl7⟩⟩⟩⟩⟩
 have H:=H.lendQ 0 (q:=MP.val [(.slice A7 y3.1.Plan.Network.Nodes.length c7)] (y3.1.Plan.Network.Nodes:List ByteArray)) rfl fun _ _ h=>h.1
 have H:=H.lendQ 0 (q:=MP.val [(.slice A8 y3.1.Plan.Network.Fibers.length c8)] (y3.1.Plan.Network.Fibers:List Fiber)) rfl fun _ _ h=>h.2.1
 have H:=H.lendQ 0 (q:=MP.val [(.slice A9 y3.1.Plan.Lights.length c9)] (y3.1.Plan.Lights:List Light)) rfl fun _ _ h=>h.2.2.1
 have H:=H.lendQ 0 (q:=MP.val [(.slice A10 y3.1.Home.length c10)] (y3.1.Home:List Light)) rfl fun _ _ h=>h.2.2.2.1
 have H:=H.lendQ 0 (q:=MP.val [(.slice A11 y3.1.Down.length c11)] (y3.1.Down:List Int)) rfl fun _ _ h=>h.2.2.2.2.1
 have H:=H.lendQ 0 (q:=MP.val [(.slice A12 y3.2.1.length c12)] (y3.2.1:List Int)) rfl fun _ _ h=>h.2.2.2.2.2
 refine pz 4 hf fun a hf=>?_
 refine aL hf H TF.zv60 fun b2 a w hf H=>?_
 refine sB 0 hf H TF.sz60 fun w H=>?_
 refine pz 2 hf fun a hf=>?_
 refine wl_end (then_n (sq (sq (reg (lN 1 hf H TF.la60 fun a hf=>?_)))))
 obtain ⟨y4,hy4,hF⟩:=bs_ hF
 refine oc hf TF.cl23 (spec_RevertLights_ok (S:=TT) (Restoration_mkv (x:=y2) (H.rt 7 rfl) (H.rt 6 rfl) (H.rowTrue 0 rfl) (H.rt 8 rfl) (H.rowTrue 1 rfl)) hy4) fun v7 w a hp7 hf=>?_
 obtain ⟨hb3,v8,v9,v10,rfl,hp8,hp9,hp10⟩:=hp7
 obtain ⟨A13,c13,A14,c14,A15,c15,A16,c16,A17,c17,rfl,hl8,hl9,hl10,hl11,hl12⟩:=Restoration_open hp8
 obtain ⟨A18,c18,rfl,hl13⟩:=VR_list hp9
 obtain rfl:=VR_bool hp10
 obtain ⟨F4,H⟩:=H.addRo hb3 (p:=MP.and (MP.val [(.slice A13 y4.1.Plan.Network.Nodes.length c13)] (y4.1.Plan.Network.Nodes:List ByteArray)) (MP.and (MP.val [(.slice A14 y4.1.Plan.Network.Fibers.length c14)] (y4.1.Plan.Network.Fibers:List Fiber)) (MP.and (MP.val [(.slice A15 y4.1.Plan.Lights.length c15)] (y4.1.Plan.Lights:List Light)) (MP.and (MP.val [(.slice A16 y4.1.Home.length c16)] (y4.1.Home:List Light)) (MP.and (MP.val [(.slice A17 y4.1.Down.length c17)] (y4.1.Down:List Int)) (MP.val [(.slice A18 y4.2.1.length c18)] (y4.2.1:List Int))))))) ⟨hl8,⟨hl9,⟨hl10,⟨hl11,⟨hl12,hl13⟩⟩⟩⟩⟩
 have H:=H.lendQ 0 (q:=MP.val [(.slice A13 y4.1.Plan.Network.Nodes.length c13)] (y4.1.Plan.Network.Nodes:List ByteArray)) rfl fun _ _ h=>h.1
 have H:=H.lendQ 0 (q:=MP.val [(.slice A14 y4.1.Plan.Network.Fibers.length c14)] (y4.1.Plan.Network.Fibers:List Fiber)) rfl fun _ _ h=>h.2.1
 have H:=H.lendQ 0 (q:=MP.val [(.slice A15 y4.1.Plan.Lights.length c15)] (y4.1.Plan.Lights:List Light)) rfl fun _ _ h=>h.2.2.1
 have H:=H.lendQ 0 (q:=MP.val [(.slice A16 y4.1.Home.length c16)] (y4.1.Home:List Light)) rfl fun _ _ h=>h.2.2.2.1
 have H:=H.lendQ 0 (q:=MP.val [(.slice A17 y4.1.Down.length c17)] (y4.1.Down:List Int)) rfl fun _ _ h=>h.2.2.2.2.1
 have H:=H.lendQ 0 (q:=MP.val [(.slice A18 y4.2.1.length c18)] (y4.2.1:List Int)) rfl fun _ _ h=>h.2.2.2.2.2
 refine pz 4 hf fun a hf=>?_
 refine aL hf H TF.zv60 fun b3 a w hf H=>?_
 refine sB 0 hf H TF.sz60 fun w H=>?_
 refine pz 2 hf fun a hf=>?_
 have hf:=hf.pn [3,4,5,6,8,9]
 refine wl_end (then_n (sq ?_))
 obtain ⟨c19,hGc19,hF⟩:=bs_ hF
 have fh:=hf.prune [3,4,5,6,8,9] rfl
 have Hm:=H.lm 6 3 15 15 32705
 refine midF 42 (.bool c19) fh Hm ?_ fun a w hf H=>?_
 ·refine reg (pz 4 hf fun a hf=>?_)
  refine iteB hGc19 (fun hc2 hGc19=>?_) fun hc2 hGc19=>?_
  ·have hf:=hf.lit 33 rfl hc2
   refine pz 9 hf fun a hf=>?_
   obtain rfl:=oi hGc19
   have hf:=hf.pn [42,3,4,5,6,8,9]
   have H:=H.lm 6 3 15 15 32705
   exact wl_end ⟨hf,H⟩
  have hf:=hf.lit 33 rfl hc2
  refine pz 2 hf fun a hf=>?_
  obtain ⟨y5,hy5,hGc19⟩:=bs_ hGc19
  refine wlg hf rfl rfl rfl (oC hf TF.cl24 (laws_vInts_ok (S:=TT) (mk_list (H.rt 6 rfl)) (mk_list (H.rt 0 rfl)) hy5) fun v11 w a hp11 hf=>?_)
  obtain ⟨hb4,hp11⟩:=hp11
  obtain rfl:=VR_bool hp11
  have H:=H.keep hb4
  refine pz 3 hf fun a hf=>?_
  refine iteB hGc19 (fun hc3 hGc19=>?_) fun hc3 hGc19=>?_
  ·have hf:=hf.lit 39 rfl hc3
   refine pz 3 hf fun a hf=>?_
   obtain rfl:=oi hGc19
   have hf:=hf.pn [42,3,4,5,6,8,9]
   have H:=H.lm 6 3 15 15 32705
   exact wl_end ⟨hf,H⟩
  have hf:=hf.lit 39 rfl hc3
  refine pz 3 hf fun a hf=>?_
  obtain rfl:=oi hGc19
  have hf:=hf.pn [42,3,4,5,6,8,9]
  have H:=H.lm 6 3 15 15 32705
  exact wl_end ⟨hf,H⟩
 refine then_n (ib hF hf (fun hc4 hF=>?_) fun hc4 hF=>?_)
 ·refine sq ?_
  obtain ⟨c20,hGc20,hF⟩:=bs_ hF
  have fh2:=hf.prune [] rfl
  have Hm2:=H.lk 0 0 0 []
  refine midF 2 (.bool c20) fh2 Hm2 ?_ fun a w hf H=>?_
  ·refine reg (pz 4 hf fun a hf=>?_)
   refine iteB hGc20 (fun hc5 hGc20=>?_) fun hc5 hGc20=>?_
   ·have hf:=hf.lit 46 rfl hc5
    refine pz 2 hf fun a hf=>?_
    obtain ⟨y6,hy6,hGc20⟩:=bs_ hGc20
    refine wlg hf rfl rfl rfl (oC hf TF.cl24 (laws_vInts_ok (S:=TT) (mk_list (H.rt 1 rfl)) (mk_list (H.rt 0 rfl)) hy6) fun v12 w a hp12 hf=>?_)
    obtain ⟨hb5,hp12⟩:=hp12
    obtain rfl:=VR_bool hp12
    have H:=H.keep hb5
    refine pz 2 hf fun a hf=>?_
    obtain rfl:=oi hGc20
    have hf:=hf.pn [2]
    have H:=H.lk 0 0 0 []
    exact wl_end ⟨hf,H⟩
   have hf:=hf.lit 46 rfl hc5
   refine pz 5 hf fun a hf=>?_
   obtain rfl:=oi hGc20
   have hf:=hf.pn [2]
   have H:=H.lk 0 0 0 []
   exact wl_end ⟨hf,H⟩
  refine then_n (wp_ret (then_r (?_)))
  obtain rfl:=oi hF
  refine rT hf ?_
  exact ⟨_,rfl,H.bel,mk_bool⟩
 refine wp_skip (then_n (sq (sq ?_)))
 obtain ⟨c21,hGc21,hF⟩:=bs_ hF
 have fh3:=hf.prune [3,4,5] rfl
 have Hm3:=H.lm 3 3 14 10 1022
 refine midF 64 (.bool c21) fh3 Hm3 ?_ fun a w hf H=>?_
 ·refine reg (lN 0 hf H TF.la60 fun a hf=>?_)
  obtain ⟨y7,hy7,hGc21⟩:=bs_ hGc21
  refine oc hf TF.cl25 (impl_IsValidRestoration_ok (S:=TT) (Restoration_mkv (x:=y3.1) (H.rt 6 rfl) (H.rt 5 rfl) (H.rt 4 rfl) (H.rt 3 rfl) (H.rt 2 rfl)) hy7) fun v13 w a hp13 hf=>?_
  obtain ⟨hb6,hp13⟩:=hp13
  obtain rfl:=VR_bool hp13
  have H:=H.keep hb6
  refine pz 2 hf fun a hf=>?_
  refine iteB hGc21 (fun hc6 hGc21=>?_) fun hc6 hGc21=>?_
  ·have hf:=hf.lit 54 rfl hc6
   refine pz 10 hf fun a hf=>?_
   obtain rfl:=oi hGc21
   have hf:=hf.pn [64,3,4,5]
   have H:=H.lm 3 3 14 10 1022
   exact wl_end ⟨hf,H⟩
  have hf:=hf.lit 54 rfl hc6
  refine pz 2 hf fun a hf=>?_
  refine wlg hf rfl rfl rfl (op_q hf (rq_loadB hf H TF.ls28 0 rfl rfl rfl) rfl (by decide) fun a hf=>?_)
  refine pz 3 hf fun a hf=>?_
  refine wlg hf rfl rfl rfl (op_q hf (rq_loadB hf H TF.ls28 1 rfl rfl rfl) rfl (by decide) fun a hf=>?_)
  refine pz 3 hf fun a hf=>?_
  obtain rfl:=oi hGc21
  have hf:=hf.pn [64,3,4,5]
  have H:=H.lm 3 3 14 10 1022
  exact wl_end ⟨hf,H⟩
 refine then_n (ib hF hf (fun hc7 hF=>?_) fun hc7 hF=>?_)
 ·refine sqz (pz 1 hf fun a hf=>?_)
  refine wl_end (then_n (wp_ret (then_r (?_))))
  obtain rfl:=oi hF
  refine rT hf ?_
  exact ⟨_,rfl,H.bel,mk_bool⟩
 refine wp_skip (then_n (sq (sqz (pz 1 hf fun a hf=>?_))))
 refine wl_end (then_n ?_)
 have H:=H.freeze 0 rfl
 obtain ⟨out',hB1,hF⟩:=bs_ hF
 have hf:=hf.pn [3,4,5,10]
 have H:=H.lm 3 1 7 10 1023
 refine loopC (fun (s:Int×List Light) (a:Act) (w:World)=>match s with | (i,m)=>∃ (A19:Option Addr) (c22:Nat),Fr a 112 [(3,(.pointer (some ⟨b',0,none⟩))),(4,(.pointer (some ⟨b2,0,none⟩))),(5,(.slice A12 y3.2.1.length c12)),(10,(.int .i64 i))]∧Mem ⟨w0,[]⟩ S [⟨b2,60,[(.slice A7 y3.1.Plan.Network.Nodes.length c7),(.slice A8 y3.1.Plan.Network.Fibers.length c8),(.slice A9 y3.1.Plan.Lights.length c9),(.slice A10 y3.1.Home.length c10),(.slice A11 y3.1.Down.length c11)]⟩,⟨b',60,[(.slice A2 y2.Plan.Network.Nodes.length c2),(.slice A3 y2.Plan.Network.Fibers.length c3),(.slice A19 m.length c22),(.slice A5 y2.Home.length c5),(.slice A6 y2.Down.length c6)]⟩] [⟨.sh true,E2,A6,c6,(y2.Down:List Int)⟩] [⟨F3,MP.and (MP.val [(.slice A7 y3.1.Plan.Network.Nodes.length c7)] (y3.1.Plan.Network.Nodes:List ByteArray)) (MP.and (MP.val [(.slice A8 y3.1.Plan.Network.Fibers.length c8)] (y3.1.Plan.Network.Fibers:List Fiber)) (MP.and (MP.val [(.slice A9 y3.1.Plan.Lights.length c9)] (y3.1.Plan.Lights:List Light)) (MP.and (MP.val [(.slice A10 y3.1.Home.length c10)] (y3.1.Home:List Light)) (MP.and (MP.val [(.slice A11 y3.1.Down.length c11)] (y3.1.Down:List Int)) (MP.val [(.slice A12 y3.2.1.length c12)] (y3.2.1:List Int))))))⟩,⟨F,MP.own F [(.slice A2 y2.Plan.Network.Nodes.length c2)] (y2.Plan.Network.Nodes:List ByteArray)⟩,⟨F2,MP.own F2 [(.slice A3 y2.Plan.Network.Fibers.length c3)] (y2.Plan.Network.Fibers:List Fiber)⟩] [(true,MP.val [(.slice A19 m.length c22)] (m:List Light)),(true,MP.val [(.slice A12 y3.2.1.length c12)] (y3.2.1:List Int)),(true,MP.val [(.slice A11 y3.1.Down.length c11)] (y3.1.Down:List Int)),(true,MP.val [(.slice A10 y3.1.Home.length c10)] (y3.1.Home:List Light)),(true,MP.val [(.slice A9 y3.1.Plan.Lights.length c9)] (y3.1.Plan.Lights:List Light)),(true,MP.val [(.slice A8 y3.1.Plan.Network.Fibers.length c8)] (y3.1.Plan.Network.Fibers:List Fiber)),(true,MP.val [(.slice A7 y3.1.Plan.Network.Nodes.length c7)] (y3.1.Plan.Network.Nodes:List ByteArray)),(true,MP.val [(.slice A3 y2.Plan.Network.Fibers.length c3)] (y2.Plan.Network.Fibers:List Fiber)),(true,MP.val [(.slice A2 y2.Plan.Network.Nodes.length c2)] (y2.Plan.Network.Nodes:List ByteArray)),(true,MP.val [(.slice A5 y2.Home.length c5)] (y2.Home:List Light))] w) (fun k (s:Int×List Light)=>laws_FnReverting_L1 fu y2 y3 k s.1 s.2=some out') (fun s=>out'=Out.next s) (0,y2.Plan.Lights) fu hB1 ⟨A4,c4,hf,H⟩ (fun s h=>by cases h) ?_ ?_
 ·rintro fk ⟨i,m⟩ a w hR1 hI
  replace hR1:laws_FnReverting_L1 fu y2 y3 (fk + 1) i m=some out':=hR1
  rw [laws_FnReverting_L1] at hR1
  obtain ⟨A19,c22,hf,H⟩:=hI
  refine sq (sqz (pz 3 hf fun a hf=>?_))
  refine lB 0 hf H TF.ls28 fun a hf=>?_
  refine pz 2 hf fun a hf=>?_
  refine wl_end (then_n (ib hR1 hf (fun hc8 hR1=>?_) fun hc8 hR1=>?_))
  ·refine ws (pz 2 hf fun a hf=>?_)
   refine lB 0 hf H TF.ls28 fun a hf=>?_
   refine pz 1 hf fun a hf=>?_
   obtain ⟨e,he,hR1⟩:=bs_ hR1
   refine wl0 rfl (op_iaddr hf H Tryz.underlying28 TF.sz49 4 rfl rfl rfl he (by decide) fun p o cs a hf hr H=>?_)
   obtain ⟨A20,c23,rfl,hl14⟩:=Light_cells hr
   have H:=H.pT hl14
   refine oq hf (rq_loadIN hf H TF.la49 1 0 rfl rfl rfl rfl) fun a hf=>?_
   refine aL hf H TF.zv49 fun b4 a w hf H=>?_
   refine sB 0 hf H TF.sz49 fun w H=>?_
   refine we (sqz (pz 2 hf fun a hf=>?_))
   refine lB 0 hf H TF.ls3 fun a hf=>?_
   obtain ⟨y8,hy8,hR1⟩:=bs_ hR1
   refine oc hf TF.cl26 (laws_vHas_ok (S:=TT) (mk_list (H.rt 3 rfl)) mk_int hy8) fun v14 w a hp14 hf=>?_
   obtain ⟨hb7,hp14⟩:=hp14
   obtain rfl:=VR_bool hp14
   have H:=H.keep hb7
   refine pz 1 hf fun a hf=>?_
   have hf:=hf.pn [3,4,5,10,11,83]
   refine wl_end (then_n (ib hR1 hf (fun hc9 hR1=>?_) fun hc9 hR1=>?_))
   ·refine sq (sq (dw [] 9 fun w hb=>?_))
    have H:=H.keep hb
    refine strT (H.lk 1 0 0 []) (fun w H=>trivial) fun hS=>?_
    refine zS 0 [] rfl rfl rfl rfl hf hS (fun w H=>rq_loadBN hf H TF.la49 0 rfl rfl rfl rfl) fun a hf=>?_
    refine zp 1 hf hS fun a hf=>?_
    refine zp 2 hf hS fun a hf=>?_
    refine strT (H.lk 5 0 0 []) (fun w H=>H.lk 1 0 0 []) fun hS=>?_
    refine zS 3 [] rfl rfl rfl rfl hf hS (fun w H=>rq_loadB hf H TF.ls28 1 rfl rfl rfl) fun a hf=>?_
    refine zp 4 hf hS fun a hf=>?_
    obtain ⟨e2,he2,hR1⟩:=bs_ hR1
    obtain ⟨p2,o2,cs2,hx,hr2,H⟩:=pre_iaddr H Tryz.underlying28 TF.sz49 2 rfl he2
    refine zP 5 rfl rfl rfl rfl hf hS (fun w=>rq_iaddrE hf rfl rfl rfl hx w) fun a hf=>?_
    obtain ⟨A21,c24,rfl,hl15⟩:=Light_cells hr2
    have H:=H.pT hl15
    refine strT (H.lk 5 0 0 [1]) (fun w H=>H.lk 3 0 0 []) fun hS=>?_
    refine zS 6 [] rfl rfl rfl rfl hf hS (fun w H=>rq_loadIN hf H TF.la49 0 0 rfl rfl rfl rfl) fun a hf=>?_
    obtain ⟨y9,hy9,hR1⟩:=bs_ hR1
    refine nn 7 rfl (oC hf TF.cl27 (laws_vLights_ok (S:=TT) (Light_mkv (x:=e) (H.rt 2 rfl)) (Light_mkv (x:=e2) (H.rt 0 rfl)) hy9) fun v15 w a hp15 hf=>?_)
    obtain ⟨hb8,hp15⟩:=hp15
    obtain rfl:=VR_bool hp15
    have H:=H.keep hb8
    have hS:=H.lk 5 0 0 [1]
    refine aS hS ?_
    refine zp 8 hf hS fun a hf=>?_
    refine dk ?_
    refine then_n (ib hR1 hf (fun hc10 hR1=>?_) fun hc10 hR1=>?_)
    ·refine sqz (pz 1 hf fun a hf=>?_)
     have hf:=hf.pn [2]
     refine wl_end (then_n (wp_ret (then_r (then_r (blk_r (then_r (then_r (blk_r (then_r (then_r (?_)))))))))))
     obtain rfl:=oi hR1
     replace hF:=on_ret hF
     obtain rfl:=oi hF
     refine rT hf ?_
     exact ⟨_,rfl,H.bel,mk_bool⟩
    refine wp_skip (then_n (wp_exit (then_x (blk_e (?_)))))
    refine then_n (reg (pz 3 hf fun a hf=>?_))
    have hf:=hf.pn [3,4,5,10]
    refine wl_end ?_
    have hf:=hf.pn [3,4,5,10]
    have H:=H.lm 6 1 7 14 16368
    exact then_n ⟨(w64 (i + 1),m),hR1,A19,c22,hf,H⟩
   refine wp_skip (then_n (sqz (pz 1 hf fun a hf=>?_)))
   refine we (sqz (pz 1 hf fun a hf=>?_))
   refine wl_end (then_n ?_)
   obtain ⟨out2,hB2,hR1⟩:=bs_ hR1
   have hf:=hf.pn [3,4,5,10,11,12,13]
   have H:=H.lm 7 1 7 12 4093
   refine loopC (fun (s:Bool×Int) (a:Act) (w:World)=>match s with | (home,k')=>Fr a 112 [(3,(.pointer (some ⟨b',0,none⟩))),(4,(.pointer (some ⟨b2,0,none⟩))),(5,(.slice A12 y3.2.1.length c12)),(10,(.int .i64 i)),(11,(.pointer (some ⟨b4,0,none⟩))),(12,(.bool home)),(13,(.int .i64 k'))]∧Mem ⟨w0,[]⟩ S [⟨b4,49,[(.int .i64 e.Id),(.int .i64 e.Route.Start),(.slice A20 e.Route.Fibers.length c23),(.int .i64 e.Block.First),(.int .i64 e.Block.Count)]⟩,⟨b2,60,[(.slice A7 y3.1.Plan.Network.Nodes.length c7),(.slice A8 y3.1.Plan.Network.Fibers.length c8),(.slice A9 y3.1.Plan.Lights.length c9),(.slice A10 y3.1.Home.length c10),(.slice A11 y3.1.Down.length c11)]⟩,⟨b',60,[(.slice A2 y2.Plan.Network.Nodes.length c2),(.slice A3 y2.Plan.Network.Fibers.length c3),(.slice A19 m.length c22),(.slice A5 y2.Home.length c5),(.slice A6 y2.Down.length c6)]⟩] [⟨.sh true,E2,A6,c6,(y2.Down:List Int)⟩] [⟨F3,MP.and (MP.val [(.slice A7 y3.1.Plan.Network.Nodes.length c7)] (y3.1.Plan.Network.Nodes:List ByteArray)) (MP.and (MP.val [(.slice A8 y3.1.Plan.Network.Fibers.length c8)] (y3.1.Plan.Network.Fibers:List Fiber)) (MP.and (MP.val [(.slice A9 y3.1.Plan.Lights.length c9)] (y3.1.Plan.Lights:List Light)) (MP.and (MP.val [(.slice A10 y3.1.Home.length c10)] (y3.1.Home:List Light)) (MP.and (MP.val [(.slice A11 y3.1.Down.length c11)] (y3.1.Down:List Int)) (MP.val [(.slice A12 y3.2.1.length c12)] (y3.2.1:List Int))))))⟩,⟨F,MP.own F [(.slice A2 y2.Plan.Network.Nodes.length c2)] (y2.Plan.Network.Nodes:List ByteArray)⟩,⟨F2,MP.own F2 [(.slice A3 y2.Plan.Network.Fibers.length c3)] (y2.Plan.Network.Fibers:List Fiber)⟩] [(true,MP.val [(.slice A20 e.Route.Fibers.length c23)] (e.Route.Fibers:List Int)),(true,MP.val [(.slice A19 m.length c22)] (m:List Light)),(true,MP.val [(.slice A12 y3.2.1.length c12)] (y3.2.1:List Int)),(true,MP.val [(.slice A11 y3.1.Down.length c11)] (y3.1.Down:List Int)),(true,MP.val [(.slice A10 y3.1.Home.length c10)] (y3.1.Home:List Light)),(true,MP.val [(.slice A9 y3.1.Plan.Lights.length c9)] (y3.1.Plan.Lights:List Light)),(true,MP.val [(.slice A8 y3.1.Plan.Network.Fibers.length c8)] (y3.1.Plan.Network.Fibers:List Fiber)),(true,MP.val [(.slice A7 y3.1.Plan.Network.Nodes.length c7)] (y3.1.Plan.Network.Nodes:List ByteArray)),(true,MP.val [(.slice A3 y2.Plan.Network.Fibers.length c3)] (y2.Plan.Network.Fibers:List Fiber)),(true,MP.val [(.slice A2 y2.Plan.Network.Nodes.length c2)] (y2.Plan.Network.Nodes:List ByteArray)),(true,MP.val [(.slice A5 y2.Home.length c5)] (y2.Home:List Light))] w) (fun k (s:Bool×Int)=>laws_FnReverting_L2 fu y2 e k s.1 s.2=some out2) (fun s=>out2=s) (false,0) fu hB2 ⟨hf,H⟩ (fun s h=>by cases h) ?_ ?_
   ·rintro fk ⟨home,k'⟩ a w hR2 hI
    replace hR2:laws_FnReverting_L2 fu y2 e (fk + 1) home k'=some out2:=hR2
    rw [laws_FnReverting_L2] at hR2
    obtain ⟨hf,H⟩:=hI
    refine sq (sqz (pz 2 hf fun a hf=>?_))
    refine lB 2 hf H TF.ls28 fun a hf=>?_
    refine pz 2 hf fun a hf=>?_
    refine wl_end (then_n (ib hR2 hf (fun hc11 hR2=>?_) fun hc11 hR2=>?_))
    ·refine wp_skip (then_n (sq (wp_block ?_)))
     obtain ⟨c25,hGc25,hR2⟩:=bs_ hR2
     have fh4:=hf.prune [3,4,5,10,11,13] rfl
     have Hm4:=H.lm 7 1 7 11 2047
     refine midF 12 (.bool c25) fh4 Hm4 ?_ fun a w hf H=>?_
     ·refine dw [] 11 fun w hb=>?_
      have H:=H.keep hb
      refine zp 0 hf trivial fun a hf=>?_
      refine zp 1 hf trivial fun a hf=>?_
      refine iteB hGc25 (fun hc12 hGc25=>?_) fun hc12 hGc25=>?_
      ·have hf:=hf.lit 101 rfl hc12
       refine zU 2 hf trivial fun a hf=>?_
       refine zU 3 hf trivial fun a hf=>?_
       refine zU 4 hf trivial fun a hf=>?_
       refine zU 5 hf trivial fun a hf=>?_
       refine zU 6 hf trivial fun a hf=>?_
       refine zU 7 hf trivial fun a hf=>?_
       refine zU 8 hf trivial fun a hf=>?_
       refine zp 9 hf trivial fun a hf=>?_
       refine zp 10 hf trivial fun a hf=>?_
       refine dk ?_
       obtain rfl:=oi hGc25
       have hf:=hf.pn [12,3,4,5,10,11,13]
       have H:=H.lm 7 1 7 11 2047
       exact ⟨hf,H⟩
      have hf:=hf.lit 101 rfl hc12
      refine strT (H.lk 1 0 0 []) (fun w H=>trivial) fun hS=>?_
      refine tSg 2 [] rfl rfl rfl rfl rfl rfl hf (by kernel_rfl) (by kernel_rfl) hS (fun w H=>rq_loadBN hf H TF.la49 0 rfl rfl rfl rfl) fun a hf=>?_
      refine zg 3 hf hS fun a hf=>?_
      refine strT (H.lk 5 0 0 []) (fun w H=>H.lk 1 0 0 []) fun hS=>?_
      refine tSg 4 [] rfl rfl rfl rfl rfl rfl hf (by kernel_rfl) (by kernel_rfl) hS (fun w H=>rq_loadB hf H TF.ls28 1 rfl rfl rfl) fun a hf=>?_
      refine zg 5 hf hS fun a hf=>?_
      obtain ⟨e3,he3,hGc25⟩:=bs_ hGc25
      obtain ⟨p3,o3,cs3,hx2,hr3,H⟩:=pre_iaddr H Tryz.underlying28 TF.sz49 10 rfl he3
      refine tPg 6 rfl rfl rfl rfl rfl rfl hf (by kernel_rfl) (fun _=>hS) (fun w=>rq_iaddrE hf rfl rfl rfl hx2 w) fun a hf=>?_
      obtain ⟨A22,c26,rfl,hl16⟩:=Light_cells hr3
      have H:=H.pT hl16
      refine strT (H.lk 5 0 0 [1]) (fun w H=>H.lk 3 0 0 []) fun hS=>?_
      refine tSg 7 [] rfl rfl rfl rfl rfl rfl hf (by kernel_rfl) (by kernel_rfl) hS (fun w H=>rq_loadIN hf H TF.la49 0 0 rfl rfl rfl rfl) fun a hf=>?_
      obtain ⟨y10,hy10,hGc25⟩:=bs_ hGc25
      refine n1g 8 (by kernel_rfl) rfl rfl rfl rfl hf (oC hf TF.cl27 (laws_vLights_ok (S:=TT) (Light_mkv (x:=e) (H.rt 2 rfl)) (Light_mkv (x:=e3) (H.rt 0 rfl)) hy10) fun v16 w a hp16 hf=>?_)
      obtain ⟨hb9,hp16⟩:=hp16
      obtain rfl:=VR_bool hp16
      have H:=H.keep hb9
      have hS:=H.lk 5 0 0 [1]
      refine aS hS ?_
      refine zp 9 hf hS fun a hf=>?_
      refine zp 10 hf hS fun a hf=>?_
      refine dk ?_
      obtain rfl:=oi hGc25
      have hf:=hf.pn [12,3,4,5,10,11,13]
      have H:=H.lm 7 1 7 13 8188
      exact ⟨hf,H⟩
     refine blk_n (then_n (reg (pz 3 hf fun a hf=>?_)))
     refine wl_end ?_
     have hf:=hf.pn [3,4,5,10,11,12,13]
     have H:=H.lm 7 1 7 11 2047
     exact then_n ⟨(c25,w64 (k' + 1)),hR2,hf,H⟩
    refine wp_exit (then_x (then_x (blk_e (?_))))
    have hf:=hf.pn [3,4,5,10,11,12,13]
    have H:=H.lm 7 1 7 11 2047
    exact ⟨(home,k'),(Option.some.inj hR2).symm,hf,H⟩
   rintro a w ⟨⟨home2,k2⟩,rfl,hf,H⟩
   try dsimp only at hR1
   refine then_n (sqz (pz 2 hf fun a hf=>?_))
   refine wl_end (then_n (ib hR1 hf (fun hc13 hR1=>?_) fun hc13 hR1=>?_))
   ·refine sqz (pz 1 hf fun a hf=>?_)
    refine wl_end (then_n (wp_ret (blk_r (then_r (then_r (blk_r (then_r (then_r (?_)))))))))
    obtain rfl:=oi hR1
    replace hF:=on_ret hF
    obtain rfl:=oi hF
    refine rT hf ?_
    exact ⟨_,rfl,H.bel,mk_bool⟩
   refine wp_skip (blk_n (then_n (reg (pz 3 hf fun a hf=>?_))))
   refine wl_end ?_
   have hf:=hf.pn [3,4,5,10]
   have H:=H.lm 6 1 7 11 2046
   exact then_n ⟨(w64 (i + 1),m),hR1,A19,c22,hf,H⟩
  refine wp_exit (then_x (then_x (blk_e (?_))))
  have hf:=hf.pn [3,4,5,10]
  have H:=H.lm 3 1 7 10 1023
  exact ⟨(i,m),(Option.some.inj hR1).symm,A19,c22,hf,H⟩
 rintro a w ⟨⟨i2,m2⟩,rfl,A23,c27,hf,H⟩
 replace hF:=on_next hF
 try dsimp only at hF
 refine then_n (sqz (pz 1 hf fun a hf=>?_))
 refine wer ?_
 obtain rfl:=oi hF
 refine rT hf ?_
 exact ⟨_,rfl,H.bel,mk_bool⟩
end AT
