/- The Go functions do what is told of them, by program (gen.py). -/
import Derived.Test.YtlemonjnolciiaaGreatWFnReverting3
set_option linter.unusedVariables false
set_option linter.unusedSimpArgs false
set_option maxRecDepth 100000
set_option maxHeartbeats 1000000
namespace AT
open Go Go.RowKit Go.Proofs
variable {fu:Nat} {w0:World}
theorem spec_l15Fail_ok {S:Nat→Prop} {v0_:Value} {v1_:Value} {r':Restoration} {fibers:List Int} {r:Restoration×List Int} (h0:VR w0 S v0_ r') (h1:VR w0 S v1_ fibers) (hF:spec_l15Fail fu r' fibers=some r) :
    Calls Tryz.prog 127 [v0_,v1_].toArray w0 fun e w'=>∃ v,e=.returned v∧(∃ (A0_0:Option Addr) (c0_0:Nat) (F0_0:List Nat) (A0_1:Option Addr) (c0_1:Nat) (F0_1:List Nat) (A0_2:Option Addr) (c0_2:Nat) (E0_2:Go.TypeId) (A0_3:Option Addr) (c0_3:Nat) (F0_3:List Nat) (A0_4:Option Addr) (c0_4:Nat) (E0_4:Go.TypeId) (A1_0:Option Addr) (c1_0:Nat) (F1_0:List Nat),v=.tuple #[(.agg #[(.slice A0_0 r.1.Plan.Network.Nodes.length c0_0),(.slice A0_1 r.1.Plan.Network.Fibers.length c0_1),(.slice A0_2 r.1.Plan.Lights.length c0_2),(.slice A0_3 r.1.Home.length c0_3),(.slice A0_4 r.1.Down.length c0_4)]),(.slice A1_0 r.2.length c1_0)]∧Mem ⟨w0,[]⟩ S [] [⟨.sh true,E0_2,A0_2,c0_2,(r.1.Plan.Lights:List Light)⟩,⟨.sh true,E0_4,A0_4,c0_4,(r.1.Down:List Int)⟩] [⟨F0_0,MP.own F0_0 [(.slice A0_0 r.1.Plan.Network.Nodes.length c0_0)] (r.1.Plan.Network.Nodes:List ByteArray)⟩,⟨F0_1,MP.own F0_1 [(.slice A0_1 r.1.Plan.Network.Fibers.length c0_1)] (r.1.Plan.Network.Fibers:List Fiber)⟩,⟨F0_3,MP.own F0_3 [(.slice A0_3 r.1.Home.length c0_3)] (r.1.Home:List Light)⟩,⟨F1_0,MP.own F1_0 [(.slice A1_0 r.2.length c1_0)] (r.2:List Int)⟩] [] w'):=by
 obtain ⟨A,c,A2,c2,A3,c3,A4,c4,A5,c5,rfl,hl,hl2,hl3,hl4,hl5⟩:=Restoration_open h0
 obtain ⟨A6,c6,rfl,hl6⟩:=VR_list h1
 have H:=Mem.start ⟨w0,[]⟩ S
 have H:=H.pA hl
 have H:=H.pA hl2
 have H:=H.pA hl3
 have H:=H.pA hl4
 have H:=H.pA hl5
 have H:=H.pA hl6
 refine en Tryz.func127 fun a hf=>?_
 rw [spec_l15Fail] at hF
 refine bx hf H fun b' a w hf H=>?_
 refine aL hf H TF.zv60 fun b2 a w hf H=>?_
 refine pz 1 hf fun a hf=>?_
 refine wr (lN 1 hf H TF.la60 fun a hf=>?_)
 obtain ⟨y,hy,hF⟩:=bs_ hF
 refine oc hf TF.cl176 (spec_l15Own_ok (S:=TT) (Restoration_mkv (x:=r') (H.rt 5 rfl) (H.rt 4 rfl) (H.rt 3 rfl) (H.rt 2 rfl) (H.rt 1 rfl)) hy) fun v w a hp hf=>?_
 obtain ⟨hb,F,hp2,hN⟩:=hp
 obtain ⟨A7,c7,F2,A8,c8,F3,A9,c9,F4,A10,c10,F5,A11,c11,F6,rfl,rfl,hl7,hl8,hl9,hl10,hl11⟩:=Restoration_vo hp2
 obtain ⟨Fs,E,H⟩:=H.addOwnRow hb (X:=[(⟨F2,MP.own F2 [(.slice A7 y.Plan.Network.Nodes.length c7)] (y.Plan.Network.Nodes:List ByteArray)⟩:DI),(⟨F3,MP.own F3 [(.slice A8 y.Plan.Network.Fibers.length c8)] (y.Plan.Network.Fibers:List Fiber)⟩:DI),(⟨F4,MP.own F4 [(.slice A9 y.Plan.Lights.length c9)] (y.Plan.Lights:List Light)⟩:DI),(⟨F5,MP.own F5 [(.slice A10 y.Home.length c10)] (y.Home:List Light)⟩:DI)]) (by simpa using hN.1) (ps1 hl7 (ps1 hl8 (ps1 hl9 (ps1 hl10 ps0)))) hl11 (by simpa using hN.2)
 have H:=H.rowSh 0 rfl
 have H:=H.lend 0 rfl
 have H:=H.lend 1 rfl
 have H:=H.lend 2 rfl
 have H:=H.lend 3 rfl
 refine aL hf H TF.zv60 fun b3 a w hf H=>?_
 refine sB 0 hf H TF.sz60 fun w H=>?_
 refine wr (wl0 rfl (bl hf H 3 ([]:List Int) [] el0 fun A12 a w hf H=>?_))
 refine pz 1 hf fun a hf=>?_
 refine we (sqz (pz 1 hf fun a hf=>?_))
 refine wl_end (then_n ?_)
 obtain ⟨out',hB1,hF⟩:=bs_ hF
 have hf:=hf.pn [1,2,4,6,7,8]
 have H:=H.frontR 1 rfl
 have H:=H.lm 7 3 15 10 1023
 refine loopC (fun (s:Int×List Int) (a:Act) (w:World)=>match s with | (i,m)=>∃ (A13:Option Addr) (c12:Nat) (E2:Go.TypeId),Fr a 62 [(1,(.slice A6 fibers.length c6)),(2,(.pointer (some ⟨b',0,none⟩))),(4,(.pointer (some ⟨b2,0,none⟩))),(6,(.pointer (some ⟨b3,0,none⟩))),(7,(.slice A12 0 0)),(8,(.int .i64 i))]∧Mem ⟨w0,[]⟩ S [⟨b3,60,[(.slice A7 y.Plan.Network.Nodes.length c7),(.slice A8 y.Plan.Network.Fibers.length c8),(.slice A9 y.Plan.Lights.length c9),(.slice A10 y.Home.length c10),(.slice A13 m.length c12)]⟩,⟨b2,60,[(.slice none 0 0),(.slice none 0 0),(.slice none 0 0),(.slice none 0 0),(.slice none 0 0)]⟩,⟨b',60,[(.slice A r'.Plan.Network.Nodes.length c),(.slice A2 r'.Plan.Network.Fibers.length c2),(.slice A3 r'.Plan.Lights.length c3),(.slice A4 r'.Home.length c4),(.slice A5 r'.Down.length c5)]⟩] [⟨.sh true,E2,A13,c12,(m:List Int)⟩,⟨.sh true,3,A12,0,(([]:List Int):List Int)⟩] [⟨F2,MP.own F2 [(.slice A7 y.Plan.Network.Nodes.length c7)] (y.Plan.Network.Nodes:List ByteArray)⟩,⟨F3,MP.own F3 [(.slice A8 y.Plan.Network.Fibers.length c8)] (y.Plan.Network.Fibers:List Fiber)⟩,⟨F4,MP.own F4 [(.slice A9 y.Plan.Lights.length c9)] (y.Plan.Lights:List Light)⟩,⟨F5,MP.own F5 [(.slice A10 y.Home.length c10)] (y.Home:List Light)⟩] [(true,MP.val [(.slice A10 y.Home.length c10)] (y.Home:List Light)),(true,MP.val [(.slice A9 y.Plan.Lights.length c9)] (y.Plan.Lights:List Light)),(true,MP.val [(.slice A8 y.Plan.Network.Fibers.length c8)] (y.Plan.Network.Fibers:List Fiber)),(true,MP.val [(.slice A7 y.Plan.Network.Nodes.length c7)] (y.Plan.Network.Nodes:List ByteArray)),(false,MP.val [(.slice A6 fibers.length c6)] (fibers:List Int)),(false,MP.val [(.slice A5 r'.Down.length c5)] (r'.Down:List Int)),(false,MP.val [(.slice A4 r'.Home.length c4)] (r'.Home:List Light)),(false,MP.val [(.slice A3 r'.Plan.Lights.length c3)] (r'.Plan.Lights:List Light)),(false,MP.val [(.slice A2 r'.Plan.Network.Fibers.length c2)] (r'.Plan.Network.Fibers:List Fiber)),(false,MP.val [(.slice A r'.Plan.Network.Nodes.length c)] (r'.Plan.Network.Nodes:List ByteArray))] w) (fun k (s:Int×List Int)=>spec_l15Fail_L1 fu fibers k s.1 s.2=some out') (fun s=>out'=s) (0,y.Down) fu hB1 ⟨A11,c11,E,hf,H⟩ (fun s h=>by cases h) ?_ ?_
 ·rintro fk ⟨i,m⟩ a w hR1 hI
  replace hR1:spec_l15Fail_L1 fu fibers (fk + 1) i m=some out':=hR1
  rw [spec_l15Fail_L1] at hR1
  obtain ⟨A13,c12,E2,hf,H⟩:=hI
  refine sq (sqz (pz 4 hf fun a hf=>?_))
  refine wl_end (then_n (ib hR1 hf (fun hc hR1=>?_) fun hc hR1=>?_))
  ·refine wp_skip (then_n (sq (wp_block (dw [8] 9 fun w hb=>?_))))
   have H:=H.keep hb
   refine zp 0 hf trivial fun a hf=>?_
   refine strT (H.lk 1 0 0 []) (fun w H=>trivial) fun hS=>?_
   refine zS 1 [1,6,7,8] rfl rfl rfl rfl hf hS (fun w H=>rq_loadB hf H TF.ls35 0 rfl rfl rfl) fun a hf=>?_
   refine zp 2 hf hS fun a hf=>?_
   refine zp 3 hf hS fun a hf=>?_
   obtain ⟨e,he,hR1⟩:=bs_ hR1
   obtain ⟨p,o,cs,hx,hr,H⟩:=pre_iaddr H Tryz.underlying35 TF.sz3 4 rfl he
   refine zP 4 rfl rfl rfl rfl hf hS (fun w=>rq_iaddrE hf rfl rfl rfl hx w) fun a hf=>?_
   obtain rfl:=hr
   refine strT (H.lk 1 0 0 [0]) (fun w H=>H.lk 1 0 0 []) fun hS=>?_
   refine zS 5 [5,6,7,8] rfl rfl rfl rfl hf hS (fun w H=>rq_loadI hf H TF.ls3 0 0 rfl rfl rfl) fun a hf=>?_
   obtain ⟨y2,hy2,hR1⟩:=bs_ hR1
   refine nn 6 rfl (oC hf TF.cl215 (spec_l1Put_ot (S:=TT) (mk_list (H.rowTrue 0 rfl)) mk_int hy2) fun v2 w a hp3 hf=>?_)
   obtain ⟨hb2,hp3⟩:=hp3
   obtain ⟨A14,c13,E3,rfl,H⟩:=H.thruRow rfl hb2 hp3
   have hS:=H.lk 1 0 0 [0]
   refine aS hS ?_
   refine zp 7 hf hS fun a hf=>?_
   refine nn 8 rfl (op_storeB hf H 0 TF.sz35 rfl rfl rfl rfl rfl rfl (nle rfl) fun w H=>?_)
   refine ⟨fun h=>absurd h (by decide),?_⟩
   refine dk ?_
   refine blk_n (then_n (reg (pz 3 hf fun a hf=>?_)))
   have hf:=hf.pn [1,2,4,6,7,8]
   refine wl_end ?_
   have hf:=hf.pn [1,2,4,6,7,8]
   have H:=H.lm 7 3 15 11 2046
   exact then_n ⟨(w64 (i + 1),y2),hR1,A14,c13,E3,hf,H⟩
  refine wp_exit (then_x (then_x (blk_e (?_))))
  have hf:=hf.pn [1,2,4,6,7,8]
  have H:=H.lm 7 3 15 10 1023
  exact ⟨(i,m),(Option.some.inj hR1).symm,A13,c12,E2,hf,H⟩
 rintro a w ⟨⟨i2,m2⟩,rfl,A15,c14,E4,hf,H⟩
 try dsimp only at hF
 refine then_n (sq (sqz (pz 1 hf fun a hf=>?_)))
 refine wl_end (then_n ?_)
 have H:=H.frontD 2 rfl
 obtain ⟨Fs2,E7,H,-⟩:=H.thaw rfl
 have H:=H.pA hl
 have H:=H.pA hl2
 have H:=H.pA hl3
 have H:=H.pA hl4
 have H:=H.pA hl5
 have H:=H.pA hl6
 have H:=H.lend 0 rfl
 have H:=H.lend 1 rfl
 have H:=H.lend 2 rfl
 have H:=H.rowSh 0 rfl
 obtain ⟨out2,hB1,hF⟩:=bs_ hF
 have hf:=hf.pn [1,2,4,6,7,9]
 have H:=H.frontR 1 rfl
 have H:=H.frontR 2 rfl
 have H:=H.frontR 2 rfl
 have H:=H.frontD 2 rfl
 have H:=H.frontD 1 rfl
 have H:=H.frontD 2 rfl
 have H:=H.lk 7 7 7 [1,2,0,3,4,5,6,7,8]
 refine loopC (fun (s:List Int×Int×List ByteArray×List Fiber×List Light) (a:Act) (w:World)=>match s with | (lost,i3,m3,m4,m5)=>∃ (A16:Option Addr) (c15:Nat) (E5:Go.TypeId) (A17:Option Addr) (c16:Nat) (F7:List Nat) (A18:Option Addr) (c17:Nat) (F8:List Nat) (A19:Option Addr) (c18:Nat) (E6:Go.TypeId),Fr a 62 [(1,(.slice A6 fibers.length c6)),(2,(.pointer (some ⟨b',0,none⟩))),(4,(.pointer (some ⟨b2,0,none⟩))),(6,(.pointer (some ⟨b3,0,none⟩))),(7,(.slice A16 lost.length c15)),(9,(.int .i64 i3))]∧Mem ⟨w0,[]⟩ S [⟨b3,60,[(.slice A17 m3.length c16),(.slice A18 m4.length c17),(.slice A19 m5.length c18),(.slice A10 y.Home.length c10),(.slice A15 m2.length c14)]⟩,⟨b2,60,[(.slice none 0 0),(.slice none 0 0),(.slice none 0 0),(.slice none 0 0),(.slice none 0 0)]⟩,⟨b',60,[(.slice A r'.Plan.Network.Nodes.length c),(.slice A2 r'.Plan.Network.Fibers.length c2),(.slice A3 r'.Plan.Lights.length c3),(.slice A4 r'.Home.length c4),(.slice A5 r'.Down.length c5)]⟩] [⟨.sh true,E6,A19,c18,(m5:List Light)⟩,⟨.sh true,E5,A16,c15,(lost:List Int)⟩,⟨.sh true,E4,A15,c14,(m2:List Int)⟩] [⟨F8,MP.own F8 [(.slice A18 m4.length c17)] (m4:List Fiber)⟩,⟨F7,MP.own F7 [(.slice A17 m3.length c16)] (m3:List ByteArray)⟩,⟨F5,MP.own F5 [(.slice A10 y.Home.length c10)] (y.Home:List Light)⟩] [(true,MP.val [(.slice A18 m4.length c17)] (m4:List Fiber)),(true,MP.val [(.slice A17 m3.length c16)] (m3:List ByteArray)),(true,MP.val [(.slice A10 y.Home.length c10)] (y.Home:List Light)),(false,MP.val [(.slice A6 fibers.length c6)] (fibers:List Int)),(false,MP.val [(.slice A5 r'.Down.length c5)] (r'.Down:List Int)),(false,MP.val [(.slice A4 r'.Home.length c4)] (r'.Home:List Light)),(false,MP.val [(.slice A3 r'.Plan.Lights.length c3)] (r'.Plan.Lights:List Light)),(false,MP.val [(.slice A2 r'.Plan.Network.Fibers.length c2)] (r'.Plan.Network.Fibers:List Fiber)),(false,MP.val [(.slice A r'.Plan.Network.Nodes.length c)] (r'.Plan.Network.Nodes:List ByteArray))] w) (fun k (s:List Int×Int×List ByteArray×List Fiber×List Light)=>spec_l15Fail_L2 fu r' fibers k s.1 s.2.1 s.2.2.1 s.2.2.2.1 s.2.2.2.2=some out2) (fun s=>out2=s) (([]:List Int),0,y.Plan.Network.Nodes,y.Plan.Network.Fibers,y.Plan.Lights) fu hB1 ⟨A12,0,3,A7,c7,F2,A8,c8,F3,A9,c9,E7,hf,H⟩ (fun s h=>by cases h) ?_ ?_
 ·rintro fk ⟨lost,i3,m3,m4,m5⟩ a w hR1 hI
  replace hR1:spec_l15Fail_L2 fu r' fibers (fk + 1) lost i3 m3 m4 m5=some out2:=hR1
  rw [spec_l15Fail_L2] at hR1
  obtain ⟨A16,c15,E5,A17,c16,F7,A18,c17,F8,A19,c18,E6,hf,H⟩:=hI
  refine sq (sqz (pz 3 hf fun a hf=>?_))
  refine lB 2 hf H TF.ls28 fun a hf=>?_
  refine pz 2 hf fun a hf=>?_
  refine wl_end (then_n (ib hR1 hf (fun hc2 hR1=>?_) fun hc2 hR1=>?_))
  ·refine ws (pz 2 hf fun a hf=>?_)
   refine lB 2 hf H TF.ls28 fun a hf=>?_
   refine pz 1 hf fun a hf=>?_
   obtain ⟨e2,he2,hR1⟩:=bs_ hR1
   refine wl0 rfl (op_iaddr hf H Tryz.underlying28 TF.sz49 6 rfl rfl rfl he2 (by decide) fun p2 o2 cs2 a hf hr2 H=>?_)
   obtain ⟨A20,c19,rfl,hl12⟩:=Light_cells hr2
   have H:=H.pF hl12
   refine oq hf (rq_loadIN hf H TF.la49 1 0 rfl rfl rfl rfl) fun a hf=>?_
   refine aL hf H TF.zv49 fun b4 a w hf H=>?_
   refine sB 0 hf H TF.sz49 fun w H=>?_
   refine wr (pz 1 hf fun a hf=>?_)
   refine lN 0 hf H TF.la45 fun a hf=>?_
   refine pz 1 hf fun a hf=>?_
   obtain ⟨y3,hy3,hR1⟩:=bs_ hR1
   refine oc hf TF.cl174 (spec_l4Uses_ok (S:=TT) (Route_mkv (x:=e2.Route) (H.rt 0 rfl)) (mk_list (H.rt 5 rfl)) hy3) fun v3 w a hp4 hf=>?_
   obtain ⟨hb3,hp4⟩:=hp4
   obtain rfl:=VR_bool hp4
   have H:=H.keep hb3
   have hf:=hf.pn [1,2,4,6,7,9,10,45]
   refine wl_end (then_n (ib hR1 hf (fun hc3 hR1=>?_) fun hc3 hR1=>?_))
   ·refine sqz (pz 2 hf fun a hf=>?_)
    refine lB 0 hf H TF.ls3 fun a hf=>?_
    refine wl0 rfl (bl hf H 3 ([e2.Id]:List Int) [(.int .i64 e2.Id)] (el1 (y:=e2.Id) (rfl)) fun A21 a w hf H=>?_)
    obtain ⟨l,hl_,hR1⟩:=bs_ hR1
    refine wl0 rfl (op_appR hf H Tryz.underlying35 TF.ai3 rfl (by decide) 2 0 rfl rfl rfl rfl (.inr rfl) hl_ (by decide) fun E8 A22 c20 a w hf H=>?_)
    refine pz 1 hf fun a hf=>?_
    refine wl_end (then_n (dw [9] 10 fun w hb=>?_))
    have H:=H.keep hb
    refine zp 0 hf trivial fun a hf=>?_
    refine strT (H.lk 2 0 0 []) (fun w H=>trivial) fun hS=>?_
    refine zS 1 [1,7,8,9] rfl rfl rfl rfl hf hS (fun w H=>rq_loadBN hf H TF.la30 0 rfl rfl rfl rfl) fun a hf=>?_
    refine zp 2 hf hS fun a hf=>?_
    refine zS 3 [3,6,7,8,9] rfl rfl rfl rfl hf hS (fun w H=>rq_loadBN hf H TF.la30 0 rfl rfl rfl rfl) fun a hf=>?_
    refine zp 4 hf hS fun a hf=>?_
    refine strT (H.lk 3 0 0 []) (fun w H=>H.lk 2 0 0 []) fun hS=>?_
    refine zS 5 [5,6,7,8,9] rfl rfl rfl rfl hf hS (fun w H=>rq_loadB hf H TF.ls3 0 rfl rfl rfl) fun a hf=>?_
    obtain ⟨y4,hy4,hR1⟩:=bs_ hR1
    refine nn 6 rfl (oC hf TF.cl182 (spec_l9Find_ok (S:=TT) (Plan_mkv (x:=({ Network:=({ Nodes:=m3,Fibers:=m4 }:Network),Lights:=m5 }:Plan)) (H.rt 3 rfl) (H.rt 2 rfl) (H.rowTrue 1 rfl)) mk_int hy4) fun v4 w a hp5 hf=>?_)
    obtain ⟨hb4,hp5⟩:=hp5
    obtain rfl:=VR_int hp5
    have H:=H.keep hb4
    have hS:=H.lk 3 0 0 []
    refine aS hS ?_
    obtain ⟨y5,hy5,hR1⟩:=bs_ hR1
    refine nn 7 rfl (oC hf TF.cl184 (spec_l9Without_ok (S:=TT) (Plan_mkv (x:=({ Network:=({ Nodes:=m3,Fibers:=m4 }:Network),Lights:=m5 }:Plan)) (H.rt 3 rfl) (H.rt 2 rfl) (H.rowTrue 1 rfl)) mk_int hy5) fun v5 w a hp6 hf=>?_)
    obtain ⟨A23,c21,F9,A24,c22,F10,A25,c23,E9,rfl,Hc⟩:=hp6
    have H:=H.comp Hc (.inl rfl)
    have H:=H.lend 0 rfl
    have H:=H.lend 1 rfl
    have hS:=H.lk 3 0 0 []
    refine aS hS ?_
    refine zp 8 hf hS fun a hf=>?_
    refine nn 9 rfl (op_storeB hf H 1 TF.sz30 rfl rfl rfl rfl rfl rfl (nle rfl) fun w H=>?_)
    refine ⟨fun h=>absurd h (by decide),?_⟩
    refine dk ?_
    have hf:=hf.pn [1,2,4,6,7,9]
    refine blk_n (then_n (reg (pz 3 hf fun a hf=>?_)))
    refine wl_end ?_
    have H:=H.lm 15 27 31 13 8191
    have hf:=hf.pn [1,2,4,6,7,9]
    have H:=H.frontD 4 rfl
    have H:=H.frontD 1 rfl
    have H:=H.frontD 2 rfl
    have H:=H.lm 14 13 7 13 8131
    exact then_n ⟨(l,w64 (i3 + 1),y5.Network.Nodes,y5.Network.Fibers,y5.Lights),hR1,A22,c20,E8,A23,c21,F9,A24,c22,F10,A25,c23,E9,hf,H⟩
   refine wp_skip (blk_n (then_n (reg (pz 3 hf fun a hf=>?_))))
   refine wl_end ?_
   have hf:=hf.pn [1,2,4,6,7,9]
   have H:=H.lm 14 7 7 11 2044
   exact then_n ⟨(lost,w64 (i3 + 1),m3,m4,m5),hR1,A16,c15,E5,A17,c16,F7,A18,c17,F8,A19,c18,E6,hf,H⟩
  refine wp_exit (then_x (then_x (blk_e (?_))))
  have hf:=hf.pn [1,2,4,6,7,9]
  have H:=H.lm 7 7 7 9 511
  exact ⟨(lost,i3,m3,m4,m5),(Option.some.inj hR1).symm,A16,c15,E5,A17,c16,F7,A18,c17,F8,A19,c18,E6,hf,H⟩
 rintro a w ⟨⟨lost2,i4,m6,m7,m8⟩,rfl,A26,c24,E10,A27,c25,F11,A28,c26,F12,A29,c27,E11,hf,H⟩
 try dsimp only at hF
 refine then_n (sq (reg (lN 0 hf H TF.la60 fun a hf=>?_)))
 refine pz 1 hf fun a hf=>?_
 refine sB 1 hf H TF.sz60 fun w H=>?_
 refine pz 1 hf fun a hf=>?_
 refine wer ?_
 have H:=H.rowOwn 1 rfl rfl
 obtain ⟨F13,H⟩:=H.freezeOwn 1 rfl
 have H:=H.lend 0 rfl
 have H:=H.frontR 1 rfl
 have H:=H.frontR 1 rfl
 have H:=H.frontD 3 rfl
 have H:=H.frontD 2 rfl
 have H:=H.frontD 3 rfl
 obtain rfl:=oi hF
 refine ret_2 hf rfl (rv_cellN hf H 1 TF.la60 rfl rfl rfl) (rv_tmp hf rfl) ?_
 have H:=H.lk 0 3 15 []
 exact ⟨_,rfl,A27,c25,F11,A28,c26,F12,A29,c27,E11,A10,c10,F5,A15,c14,E4,A26,c24,F13,rfl,H⟩
theorem spec_l1Cur_restoration_ok {S:Nat→Prop} {b0:Nat} {cs0:List Value} {c:L1CurP} {r:Restoration×L1CurP} (hp0:w0.heap[b0]?=some (.cells cs0.toArray 109 (0,0))) (hr0:GoTy.rep w0 S cs0 c) (hS0:¬S b0) (hF:spec_l1Cur_restoration fu c=some r) :
    Calls Tryz.prog 172 [(.pointer (some ⟨b0,0,none⟩))].toArray w0 fun e w'=>∃ v,e=.returned v∧(∃ cs',GoTy.rep w' (fun _=>True) cs' r.2∧(cs'[0]?=cs0[0]?∧r.2.code=c.code)∧(∃ (A0_0:Option Addr) (c0_0:Nat) (F0_0:List Nat) (A0_1:Option Addr) (c0_1:Nat) (F0_1:List Nat) (A0_2:Option Addr) (c0_2:Nat) (E0_2:Go.TypeId) (A0_3:Option Addr) (c0_3:Nat) (F0_3:List Nat) (A0_4:Option Addr) (c0_4:Nat) (E0_4:Go.TypeId),v=(.agg #[(.slice A0_0 r.1.Plan.Network.Nodes.length c0_0),(.slice A0_1 r.1.Plan.Network.Fibers.length c0_1),(.slice A0_2 r.1.Plan.Lights.length c0_2),(.slice A0_3 r.1.Home.length c0_3),(.slice A0_4 r.1.Down.length c0_4)])∧Mem ⟨w0,[b0]⟩ S [⟨b0,109,cs'⟩] [⟨.sh true,E0_2,A0_2,c0_2,(r.1.Plan.Lights:List Light)⟩,⟨.sh true,E0_4,A0_4,c0_4,(r.1.Down:List Int)⟩] [⟨F0_0,MP.own F0_0 [(.slice A0_0 r.1.Plan.Network.Nodes.length c0_0)] (r.1.Plan.Network.Nodes:List ByteArray)⟩,⟨F0_1,MP.own F0_1 [(.slice A0_1 r.1.Plan.Network.Fibers.length c0_1)] (r.1.Plan.Network.Fibers:List Fiber)⟩,⟨F0_3,MP.own F0_3 [(.slice A0_3 r.1.Home.length c0_3)] (r.1.Home:List Light)⟩] [] w')):=by
 obtain ⟨A,c2,rfl,hl⟩:=L1CurP_cells hr0
 have H:=Mem.startB S hp0
 have H:=H.pB hS0 hl
 refine en Tryz.func172 fun a hf=>?_
 rw [spec_l1Cur_restoration] at hF
 refine sq (reg (aL hf H TF.zv60 fun b2 a w hf H=>?_))
 refine wr (pz 1 hf fun a hf=>?_)
 obtain ⟨y,hy,hF⟩:=bs_ hF
 refine oc hf TF.cl141 (spec_l1Cur_plan_ok (S:=NB b0) (H.boxAt 1 rfl) ((L1CurP_mk (x:=c) (H.nb 1 rfl (H.get 0 rfl)))) (fun h=>h rfl) hy) fun v w a hp2 hf=>?_
 obtain ⟨cs2,hr2,⟨hx,hx2⟩,A2,c3,F,A3,c4,F2,A4,c5,E,rfl,Hc⟩:=hp2
 obtain ⟨A5,c6,rfl,hl2⟩:=L1CurP_cells hr2
 obtain ⟨rfl,rfl⟩:=fx_slice hx rfl rfl
 have H:=H.compB 1 rfl Hc (.inl rfl)
 have H:=H.pX 0 rfl hx2
 have H:=H.lend 0 rfl
 have H:=H.lend 1 rfl
 obtain ⟨y2,hy2,hF⟩:=bs_ hF
 refine oc hf TF.cl125 (spec_StartRestoration_ok (S:=TT) (Plan_mkv (x:=y.1) (H.rt 1 rfl) (H.rt 0 rfl) (H.rowTrue 0 rfl)) hy2) fun v2 w a hp3 hf=>?_
 obtain ⟨hb,F3,v3,v4,rfl,hp4,hp5,hN⟩:=hp3
 obtain ⟨A6,c7,F4,A7,c8,F5,A8,c9,F6,A9,c10,F7,A10,c11,F8,rfl,rfl,hl3,hl4,hl5,hl6,hl7⟩:=Restoration_vo hp4
 obtain rfl:=VR_bool hp5
 have H:=H.lm 3 0 3 4 15
 obtain ⟨Fs,E2,H⟩:=H.addOwnRow hb (X:=[(⟨F4,MP.own F4 [(.slice A6 y2.1.Plan.Network.Nodes.length c7)] (y2.1.Plan.Network.Nodes:List ByteArray)⟩:DI),(⟨F5,MP.own F5 [(.slice A7 y2.1.Plan.Network.Fibers.length c8)] (y2.1.Plan.Network.Fibers:List Fiber)⟩:DI),(⟨F6,MP.own F6 [(.slice A8 y2.1.Plan.Lights.length c9)] (y2.1.Plan.Lights:List Light)⟩:DI),(⟨F7,MP.own F7 [(.slice A9 y2.1.Home.length c10)] (y2.1.Home:List Light)⟩:DI)]) (by simpa using hN.1) (ps1 hl3 (ps1 hl4 (ps1 hl5 (ps1 hl6 ps0)))) hl7 (by simpa using hN.2)
 have H:=H.rowSh 0 rfl
 have H:=H.lend 0 rfl
 have H:=H.lend 1 rfl
 have H:=H.lend 2 rfl
 have H:=H.lend 3 rfl
 refine pz 3 hf fun a hf=>?_
 refine aL hf H TF.zv60 fun b3 a w hf H=>?_
 refine sB 0 hf H TF.sz60 fun w H=>?_
 refine pz 1 hf fun a hf=>?_
 refine we (sqz (pz 1 hf fun a hf=>?_))
 obtain ⟨y3,hy3,hF⟩:=bs_ hF
 refine oc hf TF.cl121 (spec_l1Cur_pick_ok (S:=NB b0) (H.boxAt 2 rfl) ((L1CurP_mk (x:=y.2) (H.nb 2 rfl (H.get 6 rfl)))) (fun h=>h rfl) mk_int hy3) fun v5 w a hp6 hf=>?_
 obtain ⟨hch,cs3,hbx,hr3,⟨hx3,hx4⟩,hs⟩:=hp6
 obtain rfl:=VR_int hs
 obtain ⟨A11,c12,rfl,hl8⟩:=L1CurP_cells hr3
 obtain ⟨rfl,rfl⟩:=fx_slice hx3 rfl rfl
 have hx5:=hx4.trans hx2
 have H:=H.wroteBox 2 rfl hch hbx
 have H:=H.pX 6 rfl hx4
 refine pz 1 hf fun a hf=>?_
 refine wl_end (then_n ?_)
 have H:=H.frontD 2 rfl
 obtain ⟨Fs2,E5,H,-⟩:=H.thaw rfl
 have H:=H.pB hS0 hl
 have H:=H.argB (by simpa using hS0) (p:=MP.val [(.slice A y3.2.code.length c2)] (y3.2.code:List By)) (by rw [hx5]; exact hl)
 have H:=H.lend 0 rfl
 have H:=H.lend 1 rfl
 have H:=H.lend 2 rfl
 have H:=H.lend 3 rfl
 have H:=H.lend 4 rfl
 have H:=H.rowSh 0 rfl
 obtain ⟨out',hB1,hF⟩:=bs_ hF
 have hf:=hf.pn [0,2,3,5]
 have H:=H.frontR 1 rfl
 have H:=H.frontD 1 rfl
 have H:=H.frontD 2 rfl
 have H:=H.lm 7 3 7 6 60
 refine loopC (fun (s:Int×List By×Int×U64×List ByteArray×List Fiber×List Light×List Light×List Int) (a:Act) (w:World)=>match s with | (k',m,m2,m3,m4,m5,m6,m7,m8)=>∃ (A12:Option Addr) (c13:Nat) (F9:List Nat) (A13:Option Addr) (c14:Nat) (F10:List Nat) (A14:Option Addr) (c15:Nat) (E3:Go.TypeId) (A15:Option Addr) (c16:Nat) (F11:List Nat) (A16:Option Addr) (c17:Nat) (E4:Go.TypeId),m=c.code∧Fr a 47 [(0,(.pointer (some ⟨b0,0,none⟩))),(2,(.pointer (some ⟨b2,0,none⟩))),(3,(.pointer (some ⟨b3,0,none⟩))),(5,(.int .i64 k'))]∧Mem ⟨w0,[b0]⟩ S [⟨b3,60,[(.slice A12 m4.length c13),(.slice A13 m5.length c14),(.slice A14 m6.length c15),(.slice A15 m7.length c16),(.slice A16 m8.length c17)]⟩,⟨b2,60,[(.slice none 0 0),(.slice none 0 0),(.slice none 0 0),(.slice none 0 0),(.slice none 0 0)]⟩,⟨b0,109,[(.slice A m.length c2),(.int .i64 m2),(.int .u64 m3.n)]⟩] [⟨.sh true,E4,A16,c17,(m8:List Int)⟩,⟨.sh true,E3,A14,c15,(m6:List Light)⟩] [⟨F11,MP.own F11 [(.slice A15 m7.length c16)] (m7:List Light)⟩,⟨F10,MP.own F10 [(.slice A13 m5.length c14)] (m5:List Fiber)⟩,⟨F9,MP.own F9 [(.slice A12 m4.length c13)] (m4:List ByteArray)⟩] [(true,MP.val [(.slice A15 m7.length c16)] (m7:List Light)),(true,MP.val [(.slice A13 m5.length c14)] (m5:List Fiber)),(true,MP.val [(.slice A12 m4.length c13)] (m4:List ByteArray)),(false,MP.val [(.slice A m.length c2)] (m:List By))] w) (fun k (s:Int×List By×Int×U64×List ByteArray×List Fiber×List Light×List Light×List Int)=>spec_l1Cur_restoration_L1 fu k s.1 s.2.1 s.2.2.1 s.2.2.2.1 s.2.2.2.2.1 s.2.2.2.2.2.1 s.2.2.2.2.2.2.1 s.2.2.2.2.2.2.2.1 s.2.2.2.2.2.2.2.2=some out') (fun s=>out'=s) (y3.1,y3.2.code,y3.2.at_,y3.2.seed,y2.1.Plan.Network.Nodes,y2.1.Plan.Network.Fibers,y2.1.Plan.Lights,y2.1.Home,y2.1.Down) fu hB1 ⟨A6,c7,F4,A7,c8,F5,A8,c9,E5,A9,c10,F7,A10,c11,E2,hx5,hf,H⟩ (fun s h=>by cases h) ?_ ?_
 ·rintro fk ⟨k',m,m2,m3,m4,m5,m6,m7,m8⟩ a w hR1 hI
  replace hR1:spec_l1Cur_restoration_L1 fu (fk + 1) k' m m2 m3 m4 m5 m6 m7 m8=some out':=hR1
  rw [spec_l1Cur_restoration_L1] at hR1
  obtain ⟨A12,c13,F9,A13,c14,F10,A14,c15,E3,A15,c16,F11,A16,c17,E4,hsm,hf,H⟩:=hI
  refine sq (sqz (pz 2 hf fun a hf=>?_))
  refine wl_end (then_n (ib hR1 hf (fun hc hR1=>?_) fun hc hR1=>?_))
  ·refine ws (pz 3 hf fun a hf=>?_)
   refine lN 0 hf H TF.la27 fun a hf=>?_
   obtain ⟨y4,hy4,hR1⟩:=bs_ hR1
   refine oc hf TF.cl87 (spec_l1Cur_some15_ok (S:=NB b0) (H.boxAt 2 rfl) ((L1CurP_mk (x:=({ code:=m,at_:=m2,seed:=m3 }:L1CurP)) (H.nb 2 rfl (H.get 3 rfl)))) (fun h=>h rfl) (Network_mkv (x:=({ Nodes:=m4,Fibers:=m5 }:Network)) (H.nb 2 rfl (H.get 2 rfl)) (H.nb 2 rfl (H.get 1 rfl))) hy4) fun v6 w a hp7 hf=>?_
   obtain ⟨hch2,cs4,hbx2,hr4,⟨hx6,hx7⟩,hs2⟩:=hp7
   obtain ⟨F12,hp8,hN2⟩:=hs2
   obtain ⟨A17,c18,rfl,hl9⟩:=VO_list hp8
   obtain ⟨A18,c19,rfl,hl10⟩:=L1CurP_cells hr4
   obtain ⟨rfl,rfl⟩:=fx_slice hx6 rfl rfl
   have hx8:=hx7.trans hsm
   have H:=H.bO1 2 rfl hch2 hbx2 hN2 hl9
   have H:=H.pX 3 rfl hx7
   have H:=H.lend 0 rfl
   refine pz 1 hf fun a hf=>?_
   refine wl_end (then_n (sq (sq (reg (lN 0 hf H TF.la60 fun a hf=>?_)))))
   refine pz 1 hf fun a hf=>?_
   obtain ⟨y5,hy5,hR1⟩:=bs_ hR1
   refine oc hf TF.cl133 (spec_l15Fibers_ok (S:=TT) (Restoration_mkv (x:=({ Plan:=({ Network:=({ Nodes:=m4,Fibers:=m5 }:Network),Lights:=m6 }:Plan),Home:=m7,Down:=m8 }:Restoration)) (H.rt 4 rfl) (H.rt 3 rfl) (H.rowTrue 1 rfl) (H.rt 2 rfl) (H.rowTrue 0 rfl)) (mk_list (H.rt 0 rfl)) hy5) fun v7 w a hp9 hf=>?_
   obtain ⟨hb2,hp9⟩:=hp9
   obtain rfl:=VR_bool hp9
   have H:=H.keep hb2
   refine pz 1 hf fun a hf=>?_
   refine wl_end (then_n (ib hR1 hf (fun hc2 hR1=>?_) fun hc2 hR1=>?_))
   ·refine wp_exit (then_x (blk_e (?_)))
    refine then_n (reg (pz 3 hf fun a hf=>?_))
    have hf:=hf.pn [0,2,3,5]
    refine wl_end ?_
    have hf:=hf.pn [0,2,3,5]
    have H:=H.lk 7 3 14 [2,3,4,1]
    exact then_n ⟨(w64 (k' - 1),y4.2.code,y4.2.at_,y4.2.seed,m4,m5,m6,m7,m8),hR1,A12,c13,F9,A13,c14,F10,A14,c15,E3,A15,c16,F11,A16,c17,E4,hx8,hf,H⟩
   refine wp_skip (then_n (sq (sqz (pz 1 hf fun a hf=>?_))))
   obtain ⟨y6,hy6,hR1⟩:=bs_ hR1
   refine oc hf TF.cl84 (spec_l1Cur_one_ok (S:=NB b0) (H.boxAt 2 rfl) ((L1CurP_mk (x:=y4.2) (H.nb 2 rfl (H.get 1 rfl)))) (fun h=>h rfl) mk_int hy6) fun v8 w a hp10 hf=>?_
   obtain ⟨hch3,cs5,hbx3,hr5,⟨hx9,hx10⟩,hs3⟩:=hp10
   obtain rfl:=VR_bool hs3
   obtain ⟨A19,c20,rfl,hl11⟩:=L1CurP_cells hr5
   obtain ⟨rfl,rfl⟩:=fx_slice hx9 rfl rfl
   have hx11:=hx10.trans hx8
   have H:=H.wroteBox 2 rfl hch3 hbx3
   have H:=H.pX 1 rfl hx10
   refine wl_end (then_n (ib hR1 hf (fun hc3 hR1=>?_) fun hc3 hR1=>?_))
   ·refine reg (lN 0 hf H TF.la60 fun a hf=>?_)
    refine pz 1 hf fun a hf=>?_
    obtain ⟨y7,hy7,hR1⟩:=bs_ hR1
    refine oc hf TF.cl86 (spec_l15Repair_ok (S:=TT) (Restoration_mkv (x:=({ Plan:=({ Network:=({ Nodes:=m4,Fibers:=m5 }:Network),Lights:=m6 }:Plan),Home:=m7,Down:=m8 }:Restoration)) (H.rt 5 rfl) (H.rt 4 rfl) (H.rowTrue 1 rfl) (H.rt 3 rfl) (H.rowTrue 0 rfl)) (mk_list (H.rt 1 rfl)) hy7) fun v9 w a hp11 hf=>?_
    obtain ⟨hb3,F14,hp12,hN3⟩:=hp11
    obtain ⟨A20,c21,F15,A21,c22,F16,A22,c23,F17,A23,c24,F18,A24,c25,F19,rfl,rfl,hl12,hl13,hl14,hl15,hl16⟩:=Restoration_vo hp12
    obtain ⟨Fs3,E6,H⟩:=H.addOwnRow hb3 (X:=[(⟨F15,MP.own F15 [(.slice A20 y7.Plan.Network.Nodes.length c21)] (y7.Plan.Network.Nodes:List ByteArray)⟩:DI),(⟨F16,MP.own F16 [(.slice A21 y7.Plan.Network.Fibers.length c22)] (y7.Plan.Network.Fibers:List Fiber)⟩:DI),(⟨F17,MP.own F17 [(.slice A22 y7.Plan.Lights.length c23)] (y7.Plan.Lights:List Light)⟩:DI),(⟨F18,MP.own F18 [(.slice A23 y7.Home.length c24)] (y7.Home:List Light)⟩:DI)]) (by simpa using hN3.1) (ps1 hl12 (ps1 hl13 (ps1 hl14 (ps1 hl15 ps0)))) hl16 (by simpa using hN3.2)
    have H:=H.rowSh 0 rfl
    have H:=H.lend 0 rfl
    have H:=H.lend 1 rfl
    have H:=H.lend 2 rfl
    have H:=H.lend 3 rfl
    refine sB 0 hf H TF.sz60 fun w H=>?_
    have hf:=hf.pn [0,2,3,5]
    refine wr (pz 1 hf fun a hf=>?_)
    obtain ⟨y8,hy8,hR1⟩:=bs_ hR1
    refine oc hf TF.cl84 (spec_l1Cur_one_ok (S:=NB b0) (H.boxAt 2 rfl) ((L1CurP_mk (x:=y6.2) (H.nb 2 rfl (H.get 4 rfl)))) (fun h=>h rfl) mk_int hy8) fun v10 w a hp13 hf=>?_
    obtain ⟨hch4,cs6,hbx4,hr6,⟨hx12,hx13⟩,hs4⟩:=hp13
    obtain rfl:=VR_bool hs4
    obtain ⟨A25,c26,rfl,hl17⟩:=L1CurP_cells hr6
    obtain ⟨rfl,rfl⟩:=fx_slice hx12 rfl rfl
    have hx14:=hx13.trans hx11
    have H:=H.wroteBox 2 rfl hch4 hbx4
    have H:=H.pX 4 rfl hx13
    refine wl_end (then_n (ib hR1 hf (fun hc4 hR1=>?_) fun hc4 hR1=>?_))
    ·refine reg (lN 0 hf H TF.la60 fun a hf=>?_)
     obtain ⟨y9,hy9,hR1⟩:=bs_ hR1
     refine oc hf TF.cl85 (spec_l15All_ok (S:=TT) (Restoration_mkv (x:=y7) (H.rt 4 rfl) (H.rt 3 rfl) (H.rt 2 rfl) (H.rt 1 rfl) (H.rowTrue 0 rfl)) hy9) fun v11 w a hp14 hf=>?_
     obtain ⟨A26,c27,F20,A27,c28,F21,A28,c29,E7,A29,c30,F22,A30,c31,E8,A31,c32,F23,rfl,Hc2⟩:=hp14
     have H:=H.comp Hc2 (.inl rfl)
     have H:=H.lend 0 rfl
     have H:=H.lend 1 rfl
     have H:=H.lend 2 rfl
     have H:=H.lend 3 rfl
     refine pz 3 hf fun a hf=>?_
     refine sB 0 hf H TF.sz60 fun w H=>?_
     refine wl_end (blk_n (then_n (reg (pz 3 hf fun a hf=>?_))))
     refine wl_end ?_
     have H:=H.lm 7 15 4095 16 65535
     have hf:=hf.pn [0,2,3,5]
     have H:=H.frontR 1 rfl
     have H:=H.frontD 1 rfl
     have H:=H.frontD 2 rfl
     have H:=H.lm 7 3 7 5 30
     exact then_n ⟨(w64 (k' - 1),y8.2.code,y8.2.at_,y8.2.seed,y9.1.Plan.Network.Nodes,y9.1.Plan.Network.Fibers,y9.1.Plan.Lights,y9.1.Home,y9.1.Down),hR1,A26,c27,F20,A27,c28,F21,A28,c29,E7,A29,c30,F22,A30,c31,E8,hx14,hf,H⟩
    refine wp_skip (blk_n (then_n (reg (pz 3 hf fun a hf=>?_))))
    refine wl_end ?_
    have H:=H.lm 7 3 255 12 4095
    have H:=H.frontD 2 rfl
    obtain ⟨Fs4,E9,H,-⟩:=H.thaw rfl
    have H:=H.pB hS0 hl
    have H:=H.argB (by simpa using hS0) (p:=MP.val [(.slice A y8.2.code.length c2)] (y8.2.code:List By)) (by rw [hx14]; exact hl)
    have H:=H.lend 0 rfl
    have H:=H.lend 1 rfl
    have H:=H.lend 2 rfl
    have H:=H.lend 3 rfl
    have H:=H.lend 4 rfl
    have H:=H.lend 5 rfl
    have H:=H.lend 6 rfl
    have H:=H.rowSh 0 rfl
    have hf:=hf.pn [0,2,3,5]
    have H:=H.frontR 1 rfl
    have H:=H.frontD 1 rfl
    have H:=H.frontD 2 rfl
    have H:=H.lm 7 3 7 8 240
    exact then_n ⟨(w64 (k' - 1),y8.2.code,y8.2.at_,y8.2.seed,y7.Plan.Network.Nodes,y7.Plan.Network.Fibers,y7.Plan.Lights,y7.Home,y7.Down),hR1,A20,c21,F15,A21,c22,F16,A22,c23,E9,A23,c24,F18,A24,c25,E6,hx14,hf,H⟩
   refine reg (lN 0 hf H TF.la60 fun a hf=>?_)
   refine pz 1 hf fun a hf=>?_
   obtain ⟨y10,hy10,hR1⟩:=bs_ hR1
   refine oc hf TF.cl127 (spec_l15Fail_ok (S:=TT) (Restoration_mkv (x:=({ Plan:=({ Network:=({ Nodes:=m4,Fibers:=m5 }:Network),Lights:=m6 }:Plan),Home:=m7,Down:=m8 }:Restoration)) (H.rt 5 rfl) (H.rt 4 rfl) (H.rowTrue 1 rfl) (H.rt 3 rfl) (H.rowTrue 0 rfl)) (mk_list (H.rt 1 rfl)) hy10) fun v12 w a hp15 hf=>?_
   obtain ⟨A32,c33,F24,A33,c34,F25,A34,c35,E10,A35,c36,F26,A36,c37,E11,A37,c38,F27,rfl,Hc3⟩:=hp15
   have H:=H.comp Hc3 (.inl rfl)
   have H:=H.lend 0 rfl
   have H:=H.lend 1 rfl
   have H:=H.lend 2 rfl
   have H:=H.lend 3 rfl
   refine pz 3 hf fun a hf=>?_
   refine sB 0 hf H TF.sz60 fun w H=>?_
   have hf:=hf.pn [0,2,3,5]
   refine wr (pz 1 hf fun a hf=>?_)
   obtain ⟨y11,hy11,hR1⟩:=bs_ hR1
   refine oc hf TF.cl84 (spec_l1Cur_one_ok (S:=NB b0) (H.boxAt 2 rfl) ((L1CurP_mk (x:=y6.2) (H.nb 2 rfl (H.get 4 rfl)))) (fun h=>h rfl) mk_int hy11) fun v13 w a hp16 hf=>?_
   obtain ⟨hch5,cs7,hbx5,hr7,⟨hx15,hx16⟩,hs5⟩:=hp16
   obtain rfl:=VR_bool hs5
   obtain ⟨A38,c39,rfl,hl18⟩:=L1CurP_cells hr7
   obtain ⟨rfl,rfl⟩:=fx_slice hx15 rfl rfl
   have hx17:=hx16.trans hx11
   have H:=H.wroteBox 2 rfl hch5 hbx5
   have H:=H.pX 4 rfl hx16
   refine wl_end (then_n (ib hR1 hf (fun hc5 hR1=>?_) fun hc5 hR1=>?_))
   ·refine reg (lN 0 hf H TF.la60 fun a hf=>?_)
    obtain ⟨y12,hy12,hR1⟩:=bs_ hR1
    refine oc hf TF.cl85 (spec_l15All_ok (S:=TT) (Restoration_mkv (x:=y10.1) (H.rt 4 rfl) (H.rt 3 rfl) (H.rowTrue 0 rfl) (H.rt 2 rfl) (H.rowTrue 1 rfl)) hy12) fun v14 w a hp17 hf=>?_
    obtain ⟨A39,c40,F28,A40,c41,F29,A41,c42,E12,A42,c43,F30,A43,c44,E13,A44,c45,F31,rfl,Hc4⟩:=hp17
    have H:=H.comp Hc4 (.inl rfl)
    have H:=H.lend 0 rfl
    have H:=H.lend 1 rfl
    have H:=H.lend 2 rfl
    have H:=H.lend 3 rfl
    refine pz 3 hf fun a hf=>?_
    refine sB 0 hf H TF.sz60 fun w H=>?_
    refine wl_end (blk_n (then_n (reg (pz 3 hf fun a hf=>?_))))
    refine wl_end ?_
    have H:=H.lm 7 27 4095 16 65535
    have hf:=hf.pn [0,2,3,5]
    have H:=H.frontR 1 rfl
    have H:=H.frontD 1 rfl
    have H:=H.frontD 2 rfl
    have H:=H.lm 7 3 7 5 30
    exact then_n ⟨(w64 (k' - 1),y11.2.code,y11.2.at_,y11.2.seed,y12.1.Plan.Network.Nodes,y12.1.Plan.Network.Fibers,y12.1.Plan.Lights,y12.1.Home,y12.1.Down),hR1,A39,c40,F28,A40,c41,F29,A41,c42,E12,A42,c43,F30,A43,c44,E13,hx17,hf,H⟩
   refine wp_skip (blk_n (then_n (reg (pz 3 hf fun a hf=>?_))))
   refine wl_end ?_
   have H:=H.lm 7 7 255 12 4095
   have hf:=hf.pn [0,2,3,5]
   have H:=H.frontR 1 rfl
   have H:=H.frontD 1 rfl
   have H:=H.frontD 2 rfl
   have H:=H.lk 7 3 7 [2,3,4,0]
   exact then_n ⟨(w64 (k' - 1),y11.2.code,y11.2.at_,y11.2.seed,y10.1.Plan.Network.Nodes,y10.1.Plan.Network.Fibers,y10.1.Plan.Lights,y10.1.Home,y10.1.Down),hR1,A32,c33,F24,A33,c34,F25,A34,c35,E10,A35,c36,F26,A36,c37,E11,hx17,hf,H⟩
  refine wp_exit (then_x (then_x (blk_e (?_))))
  have hf:=hf.pn [0,2,3,5]
  have H:=H.lm 7 3 7 4 15
  exact ⟨(k',m,m2,m3,m4,m5,m6,m7,m8),(Option.some.inj hR1).symm,A12,c13,F9,A13,c14,F10,A14,c15,E3,A15,c16,F11,A16,c17,E4,hsm,hf,H⟩
 rintro a w ⟨⟨k2,m9,m10,m11,m12,m13,m14,m15,m16⟩,rfl,A45,c46,F32,A46,c47,F33,A47,c48,E14,A48,c49,F34,A49,c50,E15,hsm,hf,H⟩
 try dsimp only at hsm
 try dsimp only at hF
 refine then_n (sq (reg (lN 0 hf H TF.la60 fun a hf=>?_)))
 refine sB 1 hf H TF.sz60 fun w H=>?_
 refine wer ?_
 have hcell:GoTy.rep w (fun _=>True) [(.slice A m9.length c2),(.int .i64 m10),(.int .u64 m11.n)] (({ code:=m9,at_:=m10,seed:=m11 }:L1CurP):L1CurP):=(L1CurP_mk (x:=({ code:=m9,at_:=m10,seed:=m11 }:L1CurP)) (H.rt 3 rfl))
 have H:=H.frontR 1 rfl
 have H:=H.frontD 1 rfl
 have H:=H.frontD 2 rfl
 obtain rfl:=oi hF
 refine ret_1 hf rfl (rv_cellN hf H 1 TF.la60 rfl rfl rfl) ?_
 have H:=H.lk 4 3 7 []
 exact ⟨_,rfl,_,hcell,⟨fxc hsm,hsm⟩,A45,c46,F32,A46,c47,F33,A47,c48,E14,A48,c49,F34,A49,c50,E15,rfl,H⟩
theorem spec_l1Cur_anyRestoration_ok {S:Nat→Prop} {b0:Nat} {cs0:List Value} {c:L1CurP} {r:Restoration×L1CurP} (hp0:w0.heap[b0]?=some (.cells cs0.toArray 109 (0,0))) (hr0:GoTy.rep w0 S cs0 c) (hS0:¬S b0) (hF:spec_l1Cur_anyRestoration fu c=some r) :
    Calls Tryz.prog 82 [(.pointer (some ⟨b0,0,none⟩))].toArray w0 fun e w'=>∃ v,e=.returned v∧(∃ cs',GoTy.rep w' (fun _=>True) cs' r.2∧(cs'[0]?=cs0[0]?∧r.2.code=c.code)∧(∃ (A0_0:Option Addr) (c0_0:Nat) (F0_0:List Nat) (A0_1:Option Addr) (c0_1:Nat) (F0_1:List Nat) (A0_2:Option Addr) (c0_2:Nat) (E0_2:Go.TypeId) (A0_3:Option Addr) (c0_3:Nat) (A0_4:Option Addr) (c0_4:Nat) (E0_4:Go.TypeId),v=(.agg #[(.slice A0_0 r.1.Plan.Network.Nodes.length c0_0),(.slice A0_1 r.1.Plan.Network.Fibers.length c0_1),(.slice A0_2 r.1.Plan.Lights.length c0_2),(.slice A0_3 r.1.Home.length c0_3),(.slice A0_4 r.1.Down.length c0_4)])∧Mem ⟨w0,[b0]⟩ S [⟨b0,109,cs'⟩] [⟨.sh true,E0_2,A0_2,c0_2,(r.1.Plan.Lights:List Light)⟩,⟨.sh true,E0_4,A0_4,c0_4,(r.1.Down:List Int)⟩] [⟨F0_0,MP.own F0_0 [(.slice A0_0 r.1.Plan.Network.Nodes.length c0_0)] (r.1.Plan.Network.Nodes:List ByteArray)⟩,⟨F0_1,MP.own F0_1 [(.slice A0_1 r.1.Plan.Network.Fibers.length c0_1)] (r.1.Plan.Network.Fibers:List Fiber)⟩] [(true,MP.val [(.slice A0_3 r.1.Home.length c0_3)] (r.1.Home:List Light))] w')):=by
 obtain ⟨A,c2,rfl,hl⟩:=L1CurP_cells hr0
 have H:=Mem.startB S hp0
 have H:=H.pB hS0 hl
 refine en Tryz.func82 fun a hf=>?_
 rw [spec_l1Cur_anyRestoration] at hF
 refine sq (reg (aL hf H TF.zv60 fun b2 a w hf H=>?_))
 refine wr (pz 1 hf fun a hf=>?_)
 obtain ⟨y,hy,hF⟩:=bs_ hF
 refine oc hf TF.cl172 (spec_l1Cur_restoration_ok (S:=NB b0) (H.boxAt 1 rfl) ((L1CurP_mk (x:=c) (H.nb 1 rfl (H.get 0 rfl)))) (fun h=>h rfl) hy) fun v w a hp2 hf=>?_
 obtain ⟨cs2,hr2,⟨hx,hx2⟩,A2,c3,F,A3,c4,F2,A4,c5,E,A5,c6,F3,A6,c7,E2,rfl,Hc⟩:=hp2
 obtain ⟨A7,c8,rfl,hl2⟩:=L1CurP_cells hr2
 obtain ⟨rfl,rfl⟩:=fx_slice hx rfl rfl
 have H:=H.compB 1 rfl Hc (.inl rfl)
 have H:=H.pX 0 rfl hx2
 have H:=H.lend 0 rfl
 have H:=H.lend 1 rfl
 have H:=H.lend 2 rfl
 refine aL hf H TF.zv60 fun b3 a w hf H=>?_
 refine sB 0 hf H TF.sz60 fun w H=>?_
 refine we (sqz (pz 1 hf fun a hf=>?_))
 obtain ⟨y2,hy2,hF⟩:=bs_ hF
 refine oc hf TF.cl121 (spec_l1Cur_pick_ok (S:=NB b0) (H.boxAt 2 rfl) ((L1CurP_mk (x:=y.2) (H.nb 2 rfl (H.get 3 rfl)))) (fun h=>h rfl) mk_int hy2) fun v2 w a hp3 hf=>?_
 obtain ⟨hch,cs3,hbx,hr3,⟨hx3,hx4⟩,hs⟩:=hp3
 obtain rfl:=VR_int hs
 obtain ⟨A8,c9,rfl,hl3⟩:=L1CurP_cells hr3
 obtain ⟨rfl,rfl⟩:=fx_slice hx3 rfl rfl
 have hx5:=hx4.trans hx2
 have H:=H.wroteBox 2 rfl hch hbx
 have H:=H.pX 3 rfl hx4
 refine wl_end (then_n (wp_block (sqz (pz 2 hf fun a hf=>?_))))
 refine wl_end (then_n (ib hF hf (fun hc hF=>?_) fun hc hF=>?_))
 ·refine dw [8] 9 fun w hb=>?_
  have H:=H.keep hb
  refine zp 0 hf trivial fun a hf=>?_
  refine strT (H.lk 1 0 0 []) (fun w H=>trivial) fun hS=>?_
  refine zS 1 [1,6,7,8] rfl rfl rfl rfl hf hS (fun w H=>rq_loadB hf H TF.ls35 0 rfl rfl rfl) fun a hf=>?_
  refine zp 2 hf hS fun a hf=>?_
  obtain ⟨y3,hy3,hF⟩:=bs_ hF
  refine nn 3 rfl (oC hf TF.cl121 (spec_l1Cur_pick_ok (S:=NB b0) (H.boxAt 2 rfl) ((L1CurP_mk (x:=y2.2) (H.nb 2 rfl (H.get 0 rfl)))) (fun h=>h rfl) mk_int hy3) fun v3 w a hp4 hf=>?_)
  obtain ⟨hch2,cs4,hbx2,hr4,⟨hx6,hx7⟩,hs2⟩:=hp4
  obtain rfl:=VR_int hs2
  obtain ⟨A9,c10,rfl,hl4⟩:=L1CurP_cells hr4
  obtain ⟨rfl,rfl⟩:=fx_slice hx6 rfl rfl
  have hx8:=hx7.trans hx5
  have H:=H.wroteBox 2 rfl hch2 hbx2
  have H:=H.pX 0 rfl hx7
  have hS:=H.lk 1 0 0 []
  refine aS hS ?_
  refine zp 4 hf hS fun a hf=>?_
  refine nn 5 rfl (bl hf H 3 ([w64 (y3.1 - 1)]:List Int) [(.int .i64 (w64 (y3.1 - 1)))] (el1 (y:=w64 (y3.1 - 1)) (rfl)) fun A10 a w hf H=>?_)
  have hS:=H.lk 1 0 0 []
  refine aS hS ?_
  obtain ⟨l,hl_,hF⟩:=bs_ hF
  refine nn 6 rfl (op_appR hf H Tryz.underlying35 TF.ai3 rfl (by decide) 2 0 rfl rfl rfl rfl (.inr rfl) hl_ (by decide) fun E3 A11 c11 a w hf H=>?_)
  have hS:=H.lk 1 0 0 []
  refine aS hS ?_
  refine zp 7 hf hS fun a hf=>?_
  refine nn 8 rfl (op_storeB hf H 0 TF.sz35 rfl rfl rfl rfl rfl rfl (nle rfl) fun w H=>?_)
  refine ⟨fun h=>absurd h (by decide),?_⟩
  refine dk ?_
  have hf:=hf.pn [2,3]
  refine blk_n (then_n (sq (reg (lN 0 hf H TF.la60 fun a hf=>?_))))
  refine sB 1 hf H TF.sz60 fun w H=>?_
  refine wer ?_
  have hcell:GoTy.rep w (fun _=>True) [(.slice A y3.2.code.length c2),(.int .i64 y3.2.at_),(.int .u64 y3.2.seed.n)] (y3.2:L1CurP):=(L1CurP_mk (x:=y3.2) (H.rt 0 rfl))
  have H:=H.frontR 2 rfl
  have H:=H.frontR 2 rfl
  have H:=H.frontD 1 rfl
  have H:=H.frontD 1 rfl
  obtain rfl:=oi hF
  refine ret_1 hf rfl (rv_cellN hf H 1 TF.la60 rfl rfl rfl) ?_
  have H:=H.lk 4 3 3 [2]
  exact ⟨_,rfl,_,hcell,⟨fxc hx8,hx8⟩,A2,c3,F,A3,c4,F2,A4,c5,E,A5,c6,A11,c11,E3,rfl,H⟩
 refine sqz (pz 2 hf fun a hf=>?_)
 refine wl_end (then_n (ib hF hf (fun hc2 hF=>?_) fun hc2 hF=>?_))
 ·refine reg (pz 1 hf fun a hf=>?_)
  obtain ⟨y4,hy4,hF⟩:=bs_ hF
  refine oc hf TF.cl56 (spec_l1Cur_anyPlan_ok (S:=NB b0) (H.boxAt 2 rfl) ((L1CurP_mk (x:=y2.2) (H.nb 2 rfl (H.get 0 rfl)))) (fun h=>h rfl) hy4) fun v4 w a hp5 hf=>?_
  obtain ⟨cs5,hr5,⟨hx9,hx10⟩,A12,c12,F4,A13,c13,F5,A14,c14,E4,rfl,Hc2⟩:=hp5
  obtain ⟨A15,c15,rfl,hl5⟩:=L1CurP_cells hr5
  obtain ⟨rfl,rfl⟩:=fx_slice hx9 rfl rfl
  have hx11:=hx10.trans hx5
  have H:=H.compB 2 rfl Hc2 (.inl rfl)
  have H:=H.pX 0 rfl hx10
  have H:=H.lend 0 rfl
  have H:=H.lend 1 rfl
  refine pz 1 hf fun a hf=>?_
  refine sB 0 hf H TF.sz30 fun w H=>?_
  refine wl_end (blk_n (then_n (sq (reg (lN 0 hf H TF.la60 fun a hf=>?_)))))
  refine sB 1 hf H TF.sz60 fun w H=>?_
  have hf:=hf.pn [2]
  refine wer ?_
  have H:=H.lm 7 5 31 9 511
  have hcell:GoTy.rep w (fun _=>True) [(.slice A y4.2.code.length c2),(.int .i64 y4.2.at_),(.int .u64 y4.2.seed.n)] (y4.2:L1CurP):=(L1CurP_mk (x:=y4.2) (H.rt 2 rfl))
  have H:=H.frontR 1 rfl
  have H:=H.frontR 1 rfl
  have H:=H.frontD 1 rfl
  have H:=H.frontD 1 rfl
  obtain rfl:=oi hF
  refine ret_1 hf rfl (rv_cellN hf H 1 TF.la60 rfl rfl rfl) ?_
  have H:=H.lk 4 3 3 [4]
  exact ⟨_,rfl,_,hcell,⟨fxc hx11,hx11⟩,A12,c12,F4,A13,c13,F5,A14,c14,E4,A5,c6,A6,c7,E2,rfl,H⟩
 refine sqz (pz 2 hf fun a hf=>?_)
 refine wl_end (then_n (ib hF hf (fun hc3 hF=>?_) fun hc3 hF=>?_))
 ·refine sqz (pz 1 hf fun a hf=>?_)
  refine lB 0 hf H TF.ls28 fun a hf=>?_
  refine pz 2 hf fun a hf=>?_
  have hf:=hf.pn [2,3,29]
  refine wl_end (then_n (ib hF hf (fun hc4 hF=>?_) fun hc4 hF=>?_))
  ·refine reg (pz 1 hf fun a hf=>?_)
   refine lB 0 hf H TF.ls28 fun a hf=>?_
   obtain ⟨l2,hl2_,hF⟩:=bs_ hF
   refine wl0 rfl (op_sliceI hf H Tryz.underlying28 TF.sz49 1 rfl rfl rfl rfl hl2_ (by decide) fun A16 c16 a hf H=>?_)
   refine pz 1 hf fun a hf=>?_
   refine sB 0 hf H TF.sz28 fun w H=>?_
   refine wl_end (blk_n (then_n (sq (reg (lN 0 hf H TF.la60 fun a hf=>?_)))))
   refine sB 1 hf H TF.sz60 fun w H=>?_
   refine wer ?_
   have hcell:GoTy.rep w (fun _=>True) [(.slice A y2.2.code.length c2),(.int .i64 y2.2.at_),(.int .u64 y2.2.seed.n)] (y2.2:L1CurP):=(L1CurP_mk (x:=y2.2) (H.rt 1 rfl))
   have H:=H.frontR 1 rfl
   have H:=H.frontR 1 rfl
   have H:=H.frontD 1 rfl
   have H:=H.frontD 1 rfl
   obtain rfl:=oi hF
   refine ret_1 hf rfl (rv_cellN hf H 1 TF.la60 rfl rfl rfl) ?_
   have H:=H.lk 4 3 3 [0]
   exact ⟨_,rfl,_,hcell,⟨fxc hx5,hx5⟩,A2,c3,F,A3,c4,F2,A4,c5,E,A16,c16,A6,c7,E2,rfl,H⟩
  refine wp_skip (blk_n (then_n (sq (reg (lN 0 hf H TF.la60 fun a hf=>?_)))))
  refine sB 1 hf H TF.sz60 fun w H=>?_
  refine wer ?_
  have hcell:GoTy.rep w (fun _=>True) [(.slice A y2.2.code.length c2),(.int .i64 y2.2.at_),(.int .u64 y2.2.seed.n)] (y2.2:L1CurP):=(L1CurP_mk (x:=y2.2) (H.rt 0 rfl))
  have H:=H.frontR 1 rfl
  have H:=H.frontR 1 rfl
  have H:=H.frontD 1 rfl
  have H:=H.frontD 1 rfl
  obtain rfl:=oi hF
  refine ret_1 hf rfl (rv_cellN hf H 1 TF.la60 rfl rfl rfl) ?_
  have H:=H.lk 4 3 3 [1]
  exact ⟨_,rfl,_,hcell,⟨fxc hx5,hx5⟩,A2,c3,F,A3,c4,F2,A4,c5,E,A5,c6,A6,c7,E2,rfl,H⟩
 refine sqz (pz 2 hf fun a hf=>?_)
 refine wl_end (then_n (ib hF hf (fun hc5 hF=>?_) fun hc5 hF=>?_))
 ·refine sqz (pz 2 hf fun a hf=>?_)
  refine lB 0 hf H TF.ls28 fun a hf=>?_
  refine pz 2 hf fun a hf=>?_
  have hf:=hf.pn [0,2,3,40]
  refine wl_end (then_n (ib hF hf (fun hc6 hF=>?_) fun hc6 hF=>?_))
  ·refine sqz (pz 2 hf fun a hf=>?_)
   refine lB 0 hf H TF.ls28 fun a hf=>?_
   obtain ⟨e,he,hF⟩:=bs_ hF
   refine wl0 rfl (op_iaddrR hf H Tryz.underlying28 TF.sz49 0 rfl rfl rfl he (by decide) fun p o2 cs6 a hf hA hr6 hk=>?_)
   obtain ⟨A17,c17,rfl,hl6⟩:=Light_cells hr6
   have H:=H.pT hl6
   refine oq hf (rq_loadN hf TF.la49 rfl rfl (fun j c hj=>hk _ c (by simpa using hj))) fun a hf=>?_
   refine aL hf H TF.zv49 fun b4 a w hf H=>?_
   refine sB 0 hf H TF.sz49 fun w H=>?_
   refine wr (pz 1 hf fun a hf=>?_)
   obtain ⟨y5,hy5,hF⟩:=bs_ hF
   refine oc hf TF.cl121 (spec_l1Cur_pick_ok (S:=NB b0) (H.boxAt 3 rfl) ((L1CurP_mk (x:=y2.2) (H.nb 3 rfl (H.get 1 rfl)))) (fun h=>h rfl) mk_int hy5) fun v5 w a hp6 hf=>?_
   obtain ⟨hch3,cs7,hbx3,hr7,⟨hx12,hx13⟩,hs3⟩:=hp6
   obtain rfl:=VR_int hs3
   obtain ⟨A18,c18,rfl,hl7⟩:=L1CurP_cells hr7
   obtain ⟨rfl,rfl⟩:=fx_slice hx12 rfl rfl
   have hx14:=hx13.trans hx5
   have H:=H.wroteBox 3 rfl hch3 hbx3
   have H:=H.pX 1 rfl hx13
   refine pz 3 hf fun a hf=>?_
   refine sB 0 hf H TF.sz3 fun w H=>?_
   refine wl_end (then_n (reg (pz 2 hf fun a hf=>?_)))
   refine lB 1 hf H TF.ls28 fun a hf=>?_
   refine lN 0 hf H TF.la49 fun a hf=>?_
   obtain ⟨e2,he2,hF⟩:=bs_ hF
   refine wl0 rfl (op_iaddrR hf H Tryz.underlying28 TF.sz49 0 rfl rfl rfl he2 (by decide) fun p2 o3 cs8 a hf hA2 hr8 hk2=>?_)
   obtain ⟨A19,c19,rfl,hl8⟩:=Light_cells hr8
   have H:=H.pT hl8
   refine wl0 rfl (op_storeR (e':=({ Id:=e.Id,Route:=e.Route,Block:=({ First:=e.Block.First,Count:=w64 (1 + y5.1) }:Block) }:Light)) (o:=o3) (off:=0) hf H TF.sz49 0 rfl rfl rfl rfl rfl (nle rfl) rfl hA2 he2 (st_full (Light_mk (x:=({ Id:=e.Id,Route:=e.Route,Block:=({ First:=e.Block.First,Count:=w64 (1 + y5.1) }:Block) }:Light)) (H.get 2 rfl))) fun w H=>?_)
   replace hf:Fr a 57 [(2,(.pointer (some ⟨b2,0,none⟩))),(3,(.pointer (some ⟨b3,0,none⟩))),(4,(.pointer (some ⟨b4,0,none⟩))),(51,(.pointer (some ⟨b3,0,none⟩))),(52,(.pointer (some ⟨b3,2,none⟩))),(53,(.slice A4 y.1.Plan.Lights.length c5)),(54,(.agg #[(.int .i64 e.Id),(.int .i64 e.Route.Start),(.slice A17 e.Route.Fibers.length c17),(.int .i64 e.Block.First),(.int .i64 (w64 (1 + y5.1)))])),(55,(.pointer (some ⟨p2,o3 + 0,none⟩)))]:=hf.prune [2,3,4,51,52,53,54,55] rfl
   replace hf:Fr a 57 [(2,(.pointer (some ⟨b2,0,none⟩))),(3,(.pointer (some ⟨b3,0,none⟩))),(4,(.pointer (some ⟨b4,0,none⟩))),(51,(.pointer (some ⟨b3,0,none⟩))),(52,(.pointer (some ⟨b3,2,none⟩))),(53,(.slice A4 (y.1.Plan.Lights.set (0:Int).toNat ({ Id:=e.Id,Route:=e.Route,Block:=({ First:=e.Block.First,Count:=w64 (1 + y5.1) }:Block) }:Light)).length c5)),(54,(.agg #[(.int .i64 e.Id),(.int .i64 e.Route.Start),(.slice A17 e.Route.Fibers.length c17),(.int .i64 e.Block.First),(.int .i64 (w64 (1 + y5.1)))])),(55,(.pointer (some ⟨p2,o3 + 0,none⟩)))]:=by simpa only [List.length_set,Nat.add_zero] using hf
   replace H:Mem ⟨w0,[b0]⟩ S [⟨b4,49,[(.int .i64 e.Id),(.int .i64 e.Route.Start),(.slice A17 e.Route.Fibers.length c17),(.int .i64 e.Block.First),(.int .i64 (w64 (1 + y5.1)))]⟩,⟨b3,60,[(.slice A2 y.1.Plan.Network.Nodes.length c3),(.slice A3 y.1.Plan.Network.Fibers.length c4),(.slice A4 (y.1.Plan.Lights.set (0:Int).toNat ({ Id:=e.Id,Route:=e.Route,Block:=({ First:=e.Block.First,Count:=w64 (1 + y5.1) }:Block) }:Light)).length c5),(.slice A5 y.1.Home.length c6),(.slice A6 y.1.Down.length c7)]⟩,⟨b2,60,[(.slice none 0 0),(.slice none 0 0),(.slice none 0 0),(.slice none 0 0),(.slice none 0 0)]⟩,⟨b0,109,[(.slice A y5.2.code.length c2),(.int .i64 y5.2.at_),(.int .u64 y5.2.seed.n)]⟩] [⟨.sh true,E,A4,c5,(y.1.Plan.Lights.set (0:Int).toNat ({ Id:=e.Id,Route:=e.Route,Block:=({ First:=e.Block.First,Count:=w64 (1 + y5.1) }:Block) }:Light):List Light)⟩,⟨.sh true,E2,A6,c7,(y.1.Down:List Int)⟩] [⟨F,MP.own F [(.slice A2 y.1.Plan.Network.Nodes.length c3)] (y.1.Plan.Network.Nodes:List ByteArray)⟩,⟨F2,MP.own F2 [(.slice A3 y.1.Plan.Network.Fibers.length c4)] (y.1.Plan.Network.Fibers:List Fiber)⟩,⟨F3,MP.own F3 [(.slice A5 y.1.Home.length c6)] (y.1.Home:List Light)⟩] [(true,MP.val [(.slice A19 e2.Route.Fibers.length c19)] (e2.Route.Fibers:List Int)),(false,MP.val [(.slice A y5.2.code.length c2)] (y5.2.code:List By)),(true,MP.val [(.slice A17 e.Route.Fibers.length c17)] (e.Route.Fibers:List Int)),(false,MP.val [(.slice A y2.2.code.length c2)] (y2.2.code:List By)),(true,MP.val [(.slice A5 y.1.Home.length c6)] (y.1.Home:List Light)),(true,MP.val [(.slice A3 y.1.Plan.Network.Fibers.length c4)] (y.1.Plan.Network.Fibers:List Fiber)),(true,MP.val [(.slice A2 y.1.Plan.Network.Nodes.length c3)] (y.1.Plan.Network.Nodes:List ByteArray)),(false,MP.val [(.slice A y.2.code.length c2)] (y.2.code:List By)),(false,MP.val [(.slice A c.code.length c2)] (c.code:List By))] w:=by first | (simp only [List.length_set]; exact H) | (simp only [List.length_set] at H ⊢; exact H)
   refine wl_end (blk_n (then_n (sq (reg (lN 1 hf H TF.la60 fun a hf=>?_)))))
   refine sB 2 hf H TF.sz60 fun w H=>?_
   refine wer ?_
   have hcell:GoTy.rep w (fun _=>True) [(.slice A y5.2.code.length c2),(.int .i64 y5.2.at_),(.int .u64 y5.2.seed.n)] (y5.2:L1CurP):=(L1CurP_mk (x:=y5.2) (H.rt 1 rfl))
   have H:=H.frontR 1 rfl
   have H:=H.frontR 1 rfl
   have H:=H.frontD 1 rfl
   have H:=H.frontD 1 rfl
   obtain rfl:=oi hF
   refine ret_1 hf rfl (rv_cellN hf H 2 TF.la60 rfl rfl rfl) ?_
   have H:=H.lk 8 3 3 [4]
   exact ⟨_,rfl,_,hcell,⟨fxc hx14,hx14⟩,A2,c3,F,A3,c4,F2,A4,c5,E,A5,c6,A6,c7,E2,rfl,H⟩
  refine wp_skip (blk_n (then_n (sq (reg (lN 0 hf H TF.la60 fun a hf=>?_)))))
  refine sB 1 hf H TF.sz60 fun w H=>?_
  refine wer ?_
  have hcell:GoTy.rep w (fun _=>True) [(.slice A y2.2.code.length c2),(.int .i64 y2.2.at_),(.int .u64 y2.2.seed.n)] (y2.2:L1CurP):=(L1CurP_mk (x:=y2.2) (H.rt 0 rfl))
  have H:=H.frontR 1 rfl
  have H:=H.frontR 1 rfl
  have H:=H.frontD 1 rfl
  have H:=H.frontD 1 rfl
  obtain rfl:=oi hF
  refine ret_1 hf rfl (rv_cellN hf H 1 TF.la60 rfl rfl rfl) ?_
  have H:=H.lk 4 3 3 [1]
  exact ⟨_,rfl,_,hcell,⟨fxc hx5,hx5⟩,A2,c3,F,A3,c4,F2,A4,c5,E,A5,c6,A6,c7,E2,rfl,H⟩
 refine wp_skip (blk_n (then_n (sq (reg (lN 0 hf H TF.la60 fun a hf=>?_)))))
 refine sB 1 hf H TF.sz60 fun w H=>?_
 have hf:=hf.pn [2]
 refine wer ?_
 have hcell:GoTy.rep w (fun _=>True) [(.slice A y2.2.code.length c2),(.int .i64 y2.2.at_),(.int .u64 y2.2.seed.n)] (y2.2:L1CurP):=(L1CurP_mk (x:=y2.2) (H.rt 0 rfl))
 have H:=H.frontR 1 rfl
 have H:=H.frontR 1 rfl
 have H:=H.frontD 1 rfl
 have H:=H.frontD 1 rfl
 obtain rfl:=oi hF
 refine ret_1 hf rfl (rv_cellN hf H 1 TF.la60 rfl rfl rfl) ?_
 have H:=H.lk 4 3 3 [1]
 exact ⟨_,rfl,_,hcell,⟨fxc hx5,hx5⟩,A2,c3,F,A3,c4,F2,A4,c5,E,A5,c6,A6,c7,E2,rfl,H⟩
theorem spec_DrawRevertLights_ok {S:Nat→Prop} {v0_:Value} {code:List By} {r:Restoration} (h0:VR w0 S v0_ code) (hF:spec_DrawRevertLights fu code=some r) :
    Calls Tryz.prog 21 [v0_].toArray w0 fun e w'=>∃ v,e=.returned v∧(∃ (A0_0:Option Addr) (c0_0:Nat) (F0_0:List Nat) (A0_1:Option Addr) (c0_1:Nat) (F0_1:List Nat) (A0_2:Option Addr) (c0_2:Nat) (E0_2:Go.TypeId) (A0_3:Option Addr) (c0_3:Nat) (A0_4:Option Addr) (c0_4:Nat) (E0_4:Go.TypeId),v=(.agg #[(.slice A0_0 r.Plan.Network.Nodes.length c0_0),(.slice A0_1 r.Plan.Network.Fibers.length c0_1),(.slice A0_2 r.Plan.Lights.length c0_2),(.slice A0_3 r.Home.length c0_3),(.slice A0_4 r.Down.length c0_4)])∧Mem ⟨w0,[]⟩ S [] [⟨.sh true,E0_2,A0_2,c0_2,(r.Plan.Lights:List Light)⟩,⟨.sh true,E0_4,A0_4,c0_4,(r.Down:List Int)⟩] [⟨F0_0,MP.own F0_0 [(.slice A0_0 r.Plan.Network.Nodes.length c0_0)] (r.Plan.Network.Nodes:List ByteArray)⟩,⟨F0_1,MP.own F0_1 [(.slice A0_1 r.Plan.Network.Fibers.length c0_1)] (r.Plan.Network.Fibers:List Fiber)⟩] [(true,MP.val [(.slice A0_3 r.Home.length c0_3)] (r.Home:List Light))] w'):=by
 obtain ⟨A,c,rfl,hl⟩:=VR_list h0
 have H:=Mem.start ⟨w0,[]⟩ S
 have H:=H.pA hl
 refine en Tryz.func21 fun a hf=>?_
 rw [spec_DrawRevertLights] at hF
 refine sq (reg (aL hf H TF.zv60 fun b' a w hf H=>?_))
 refine wr (pz 1 hf fun a hf=>?_)
 refine oq hf (rq_build hf (cs:=[(.slice A code.length c),(.int .i64 0),(.int .u64 0)]) rfl (fun w=>by kernel_rfl)) fun a hf=>?_
 refine wl0 rfl (op_box hf H rfl rfl (by decide) fun b2 a w hf H=>?_)
 refine pz 1 hf fun a hf=>?_
 refine wr (pz 1 hf fun a hf=>?_)
 obtain ⟨y,hy,hF⟩:=bs_ hF
 refine oc hf TF.cl82 (spec_l1Cur_anyRestoration_ok (S:=NB b2) (H.boxAt 0 rfl) ((L1CurP_mk (x:=({ code:=code,at_:=0,seed:=(⟨0⟩:U64) }:L1CurP)) (H.nb 0 rfl (H.get 0 rfl)))) (fun h=>h rfl) hy) fun v w a hp hf=>?_
 obtain ⟨cs,hr,⟨hx,hx2⟩,A2,c2,F,A3,c3,F2,A4,c4,E,A5,c5,A6,c6,E2,rfl,Hc⟩:=hp
 obtain ⟨A7,c7,rfl,hl2⟩:=L1CurP_cells hr
 obtain ⟨rfl,rfl⟩:=fx_slice hx rfl rfl
 have H:=H.compB 0 rfl Hc (.inl rfl)
 have H:=H.pX 1 rfl hx2
 have H:=H.lend 0 rfl
 have H:=H.lend 1 rfl
 refine aL hf H TF.zv60 fun b3 a w hf H=>?_
 refine sB 0 hf H TF.sz60 fun w H=>?_
 refine wl_end (then_n (sq (sq (reg (lN 0 hf H TF.la60 fun a hf=>?_)))))
 obtain ⟨y2,hy2,hF⟩:=bs_ hF
 refine oc hf TF.cl83 (spec_l15Good_ok (S:=TT) (Restoration_mkv (x:=y.1) (H.rt 1 rfl) (H.rt 0 rfl) (H.rowTrue 0 rfl) (H.rt 3 rfl) (H.rowTrue 1 rfl)) hy2) fun v2 w a hp2 hf=>?_
 obtain ⟨hb,hp2⟩:=hp2
 obtain rfl:=VR_bool hp2
 have H:=H.keep hb
 refine pz 1 hf fun a hf=>?_
 refine iteB hF (fun hc hF=>?_) fun hc hF=>?_
 ·have hf:=hf.lit 12 rfl hc
  refine pz 1 hf fun a hf=>?_
  obtain ⟨y3,hy3,hF⟩:=bs_ hF
  refine wlg hf rfl rfl rfl (oC hf TF.cl84 (spec_l1Cur_one_ok (S:=NB b2) (H.boxAt 1 rfl) ((L1CurP_mk (x:=y.2) (H.nb 1 rfl (H.get 2 rfl)))) (fun h=>h rfl) mk_int hy3) fun v3 w a hp3 hf=>?_)
  obtain ⟨hch,cs2,hbx,hr2,⟨hx3,hx4⟩,hs⟩:=hp3
  obtain rfl:=VR_bool hs
  obtain ⟨A8,c8,rfl,hl3⟩:=L1CurP_cells hr2
  obtain ⟨rfl,rfl⟩:=fx_slice hx3 rfl rfl
  have hx5:=hx4.trans hx2
  have H:=H.wroteBox 1 rfl hch hbx
  have H:=H.pX 2 rfl hx4
  refine pz 1 hf fun a hf=>?_
  refine wl_end (then_n (ib hF hf (fun hc2 hF=>?_) fun hc2 hF=>?_))
  ·refine sq (reg (lN 0 hf H TF.la60 fun a hf=>?_))
   obtain ⟨y4,hy4,hF⟩:=bs_ hF
   refine oc hf TF.cl85 (spec_l15All_ok (S:=TT) (Restoration_mkv (x:=y.1) (H.rt 2 rfl) (H.rt 1 rfl) (H.rowTrue 0 rfl) (H.rt 4 rfl) (H.rowTrue 1 rfl)) hy4) fun v4 w a hp4 hf=>?_
   obtain ⟨A9,c9,F3,A10,c10,F4,A11,c11,E3,A12,c12,F5,A13,c13,E4,A14,c14,F6,rfl,Hc2⟩:=hp4
   have H:=H.comp Hc2 (.inl rfl)
   have H:=H.lend 0 rfl
   have H:=H.lend 1 rfl
   have H:=H.lend 2 rfl
   have H:=H.lend 3 rfl
   refine pz 3 hf fun a hf=>?_
   refine sB 0 hf H TF.sz60 fun w H=>?_
   have hf:=hf.pn [2,3,4]
   refine wl_end (then_n (dw [7] 8 fun w hb=>?_))
   have H:=H.keep hb
   refine strT (H.lk 1 0 0 []) (fun w H=>trivial) fun hS=>?_
   refine zS 0 [0,6,7] rfl rfl rfl rfl hf hS (fun w H=>rq_loadBN hf H TF.la60 0 rfl rfl rfl rfl) fun a hf=>?_
   refine zp 1 hf hS fun a hf=>?_
   refine zp 2 hf hS fun a hf=>?_
   refine zp 3 hf hS fun a hf=>?_
   refine zS 4 [4,5,6,7] rfl rfl rfl rfl hf hS (fun w H=>rq_loadBN hf H TF.la27 0 rfl rfl rfl rfl) fun a hf=>?_
   obtain ⟨y5,hy5,hF⟩:=bs_ hF
   refine nn 5 rfl (oC hf TF.cl87 (spec_l1Cur_some15_ok (S:=NB b2) (H.boxAt 1 rfl) ((L1CurP_mk (x:=y3.2) (H.nb 1 rfl (H.get 4 rfl)))) (fun h=>h rfl) (Network_mkv (x:=y4.1.Plan.Network) (H.nb 1 rfl (H.get 3 rfl)) (H.nb 1 rfl (H.get 2 rfl))) hy5) fun v5 w a hp5 hf=>?_)
   obtain ⟨hch2,cs3,hbx2,hr3,⟨hx6,hx7⟩,hs2⟩:=hp5
   obtain ⟨F7,hp6,hN⟩:=hs2
   obtain ⟨A15,c15,rfl,hl4⟩:=VO_list hp6
   obtain ⟨A16,c16,rfl,hl5⟩:=L1CurP_cells hr3
   obtain ⟨rfl,rfl⟩:=fx_slice hx6 rfl rfl
   have hx8:=hx7.trans hx5
   have H:=H.bO1 1 rfl hch2 hbx2 hN hl4
   have H:=H.pX 4 rfl hx7
   have H:=H.lend 0 rfl
   have hS:=H.lk 1 0 0 []
   refine aS hS ?_
   obtain ⟨y6,hy6,hF⟩:=bs_ hF
   refine nn 6 rfl (oC hf TF.cl86 (spec_l15Repair_ok (S:=TT) (Restoration_mkv (x:=y4.1) (H.rt 5 rfl) (H.rt 4 rfl) (H.rowTrue 0 rfl) (H.rt 3 rfl) (H.rowTrue 1 rfl)) (mk_list (H.rt 0 rfl)) hy6) fun v6 w a hp7 hf=>?_)
   obtain ⟨hb2,F9,hp8,hN2⟩:=hp7
   obtain ⟨A17,c17,F10,A18,c18,F11,A19,c19,F12,A20,c20,F13,A21,c21,F14,rfl,rfl,hl6,hl7,hl8,hl9,hl10⟩:=Restoration_vo hp8
   obtain ⟨Fs,E5,H⟩:=H.addOwnRow hb2 (X:=[(⟨F10,MP.own F10 [(.slice A17 y6.Plan.Network.Nodes.length c17)] (y6.Plan.Network.Nodes:List ByteArray)⟩:DI),(⟨F11,MP.own F11 [(.slice A18 y6.Plan.Network.Fibers.length c18)] (y6.Plan.Network.Fibers:List Fiber)⟩:DI),(⟨F12,MP.own F12 [(.slice A19 y6.Plan.Lights.length c19)] (y6.Plan.Lights:List Light)⟩:DI),(⟨F13,MP.own F13 [(.slice A20 y6.Home.length c20)] (y6.Home:List Light)⟩:DI)]) (by simpa using hN2.1) (ps1 hl6 (ps1 hl7 (ps1 hl8 (ps1 hl9 ps0)))) hl10 (by simpa using hN2.2)
   have H:=H.rowSh 0 rfl
   have H:=H.lend 0 rfl
   have H:=H.lend 1 rfl
   have H:=H.lend 2 rfl
   have H:=H.lend 3 rfl
   have hS:=H.lk 1 0 0 []
   refine aS hS ?_
   refine nn 7 rfl (op_storeB hf H 0 TF.sz60 rfl rfl rfl rfl rfl rfl (nle rfl) fun w H=>?_)
   refine ⟨fun h=>absurd h (by decide),?_⟩
   refine dk ?_
   refine then_n (sq (reg (lN 0 hf H TF.la60 fun a hf=>?_)))
   refine sB 2 hf H TF.sz60 fun w H=>?_
   refine wer ?_
   have H:=H.lm 7 21 2047 16 65535
   have H:=H.frontD 2 rfl
   obtain ⟨Fs2,E6,H,-⟩:=H.thaw rfl
   have H:=H.pA hl
   have H:=H.arg (p:=MP.val [(.slice A y5.2.code.length c)] (y5.2.code:List By)) (by rw [hx8]; exact hl)
   have H:=H.lend 0 rfl
   have H:=H.lend 1 rfl
   have H:=H.lend 2 rfl
   have H:=H.lend 3 rfl
   have H:=H.lend 4 rfl
   have H:=H.lend 5 rfl
   have H:=H.lend 6 rfl
   have H:=H.lend 7 rfl
   have H:=H.lend 8 rfl
   have H:=H.lend 9 rfl
   have H:=H.rowSh 0 rfl
   have H:=H.frontR 1 rfl
   have H:=H.frontR 1 rfl
   have H:=H.frontD 1 rfl
   have H:=H.frontD 1 rfl
   obtain rfl:=oi hF
   refine ret_1 hf rfl (rv_cellN hf H 2 TF.la60 rfl rfl rfl) ?_
   have H:=H.lk 0 3 3 [7]
   exact ⟨_,rfl,A17,c17,F10,A18,c18,F11,A19,c19,E6,A20,c20,A21,c21,E5,rfl,H⟩
  refine wp_skip (then_n (sq (reg (lN 0 hf H TF.la60 fun a hf=>?_))))
  refine sB 2 hf H TF.sz60 fun w H=>?_
  have hf:=hf.pn [2]
  refine wer ?_
  have H:=H.frontR 1 rfl
  have H:=H.frontR 1 rfl
  have H:=H.frontD 1 rfl
  have H:=H.frontD 1 rfl
  obtain rfl:=oi hF
  refine ret_1 hf rfl (rv_cellN hf H 2 TF.la60 rfl rfl rfl) ?_
  have H:=H.lk 0 3 3 [4]
  exact ⟨_,rfl,A2,c2,F,A3,c3,F2,A4,c4,E,A5,c5,A6,c6,E2,rfl,H⟩
 have hf:=hf.lit 12 rfl hc
 refine pz 3 hf fun a hf=>?_
 refine wl_end (then_n (cd_f hf rfl rfl (wp_skip (then_n (sq (reg (lN 0 hf H TF.la60 fun a hf=>?_)))))))
 refine sB 2 hf H TF.sz60 fun w H=>?_
 have hf:=hf.pn [2]
 refine wer ?_
 have H:=H.frontR 1 rfl
 have H:=H.frontR 1 rfl
 have H:=H.frontD 1 rfl
 have H:=H.frontD 1 rfl
 obtain rfl:=oi hF
 refine ret_1 hf rfl (rv_cellN hf H 2 TF.la60 rfl rfl rfl) ?_
 have H:=H.lk 0 3 3 [3]
 exact ⟨_,rfl,A2,c2,F,A3,c3,F2,A4,c4,E,A5,c5,A6,c6,E2,rfl,H⟩
theorem impl_within_ok {S:Nat→Prop} {v0_:Value} {v1_:Value} {v2_:Value} {n':Int} {low:Int} {high:Int} {r:Bool} (h0:VR w0 S v0_ n') (h1:VR w0 S v1_ low) (h2:VR w0 S v2_ high) (hF:impl_within fu n' low high=some r) :
    Calls Tryz.prog 160 [v0_,v1_,v2_].toArray w0 fun e w'=>∃ v,e=.returned v∧(Below w0.heap.size w0 w'∧VR w' (St ⟨w0,[]⟩ S [] [] [] true) v r):=by
 obtain rfl:=VR_int h0
 obtain rfl:=VR_int h1
 obtain rfl:=VR_int h2
 have H:=Mem.start ⟨w0,[]⟩ S
 refine en Tryz.func160 fun a hf=>?_
 rw [impl_within] at hF
 refine sqz (pz 1 hf fun a hf=>?_)
 refine wl_end (then_n (sq ?_))
 obtain ⟨c,hGc,hF⟩:=bs_ hF
 have fh:=hf.prune [] rfl
 have Hm:=H.lk 0 0 0 []
 refine midF 6 (.bool c) fh Hm ?_ fun a w hf H=>?_
 ·refine reg (pz 4 hf fun a hf=>?_)
  refine iteB hGc (fun hc hGc=>?_) fun hc hGc=>?_
  ·have hf:=hf.lit 10 rfl hc
   refine pz 5 hf fun a hf=>?_
   obtain rfl:=oi hGc
   have hf:=hf.pn [6]
   have H:=H.lk 0 0 0 []
   exact wl_end ⟨hf,H⟩
  have hf:=hf.lit 10 rfl hc
  refine pz 5 hf fun a hf=>?_
  obtain rfl:=oi hGc
  have hf:=hf.pn [6]
  have H:=H.lk 0 0 0 []
  exact wl_end ⟨hf,H⟩
 refine then_n (wp_ret (?_))
 obtain rfl:=oi hF
 refine rT hf ?_
 exact ⟨_,rfl,H.bel,mk_bool⟩
theorem impl_isName_ok {S:Nat→Prop} {v0_:Value} {s':ByteArray} {r:Bool} (h0:VR w0 S v0_ s') (hF:impl_isName fu s'=some r) :
    Calls Tryz.prog 158 [v0_].toArray w0 fun e w'=>∃ v,e=.returned v∧(Below w0.heap.size w0 w'∧VR w' (St ⟨w0,[]⟩ S [] [] [] true) v r):=by
 obtain rfl:=VR_str h0
 have H:=Mem.start ⟨w0,[]⟩ S
 refine en Tryz.func158 fun a hf=>?_
 rw [impl_isName] at hF
 refine sqz (pz 1 hf fun a hf=>?_)
 refine we (sqz (pz 3 hf fun a hf=>?_))
 refine wl_end (then_n ?_)
 obtain ⟨out',hB1,hF⟩:=bs_ hF
 have hf:=hf.pn [0,7,8]
 have H:=H.lk 0 0 0 []
 refine loopC (fun (s:Int) (a:Act) (w:World)=>match s with | i=>Fr a 45 [(0,(.string s')),(7,(.int .i64 (s'.size:Int))),(8,(.int .i64 i))]∧Mem ⟨w0,[]⟩ S [] [] [] [] w) (fun k (s:Int)=>impl_isName_L1 fu s' k s=some out') (fun s=>out'=Out.next s) 0 fu hB1 ⟨hf,H⟩ (fun s h=>by cases h) ?_ ?_
 ·rintro fk i a w hR1 hI
  replace hR1:impl_isName_L1 fu s' (fk + 1) i=some out':=hR1
  rw [impl_isName_L1] at hR1
  obtain ⟨hf,H⟩:=hI
  refine sqz (pz 1 hf fun a hf=>?_)
  refine wl_end (then_n (sq (ib hR1 hf (fun hc hR1=>?_) fun hc hR1=>?_)))
  ·refine ws (pz 2 hf fun a hf=>?_)
   refine wl_end (then_n (sq (dw [] 22 fun w hb=>?_)))
   have H:=H.keep hb
   refine zp 0 hf trivial fun a hf=>?_
   refine zp 1 hf trivial fun a hf=>?_
   obtain ⟨e,he,hR1⟩:=bs_ hR1
   refine tP 2 rfl rfl rfl rfl hf (by kernel_rfl) (fun _=>trivial) (fun w=>rq_indexS hf Tryz.underlying9 rfl rfl he) fun a hf=>?_
   refine tP 3 rfl rfl rfl rfl hf (by kernel_rfl) (fun _=>trivial) (fun w=>rq_geK hf rfl rfl) fun a hf=>?_
   refine zp 4 hf trivial fun a hf=>?_
   refine zp 10 hf trivial fun a hf=>?_
   refine zp 11 hf trivial fun a hf=>?_
   obtain ⟨e2,he2,hR1⟩:=bs_ hR1
   refine tP 12 rfl rfl rfl rfl hf (by kernel_rfl) (fun _=>trivial) (fun w=>rq_indexS hf Tryz.underlying9 rfl rfl he2) fun a hf=>?_
   refine tP 13 rfl rfl rfl rfl hf (by kernel_rfl) (fun _=>trivial) (fun w=>rq_geK hf rfl rfl) fun a hf=>?_
   refine zp 14 hf trivial fun a hf=>?_
   refine iteB hR1 (fun hc2 hR1=>?_) fun hc2 hR1=>?_
   ·have hf:=hf.lit 15 rfl hc2
    refine zg 5 hf trivial fun a hf=>?_
    refine zg 6 hf trivial fun a hf=>?_
    obtain ⟨e3,he3,hR1⟩:=bs_ hR1
    refine tPg 7 rfl rfl rfl rfl rfl rfl hf (by kernel_rfl) (fun _=>trivial) (fun w=>rq_indexS hf Tryz.underlying9 rfl rfl he3) fun a hf=>?_
    refine tPg 8 rfl rfl rfl rfl rfl rfl hf (by kernel_rfl) (fun _=>trivial) (fun w=>rq_leK hf rfl rfl) fun a hf=>?_
    refine zp 9 hf trivial fun a hf=>?_
    refine zp 20 hf trivial fun a hf=>?_
    refine iteB hR1 (fun hc3 hR1=>?_) fun hc3 hR1=>?_
    ·have hf:=hf.lit 25 rfl hc3
     refine zg 15 hf trivial fun a hf=>?_
     refine zg 16 hf trivial fun a hf=>?_
     obtain ⟨e4,he4,hR1⟩:=bs_ hR1
     refine tPg 17 rfl rfl rfl rfl rfl rfl hf (by kernel_rfl) (fun _=>trivial) (fun w=>rq_indexS hf Tryz.underlying9 rfl rfl he4) fun a hf=>?_
     refine tPg 18 rfl rfl rfl rfl rfl rfl hf (by kernel_rfl) (fun _=>trivial) (fun w=>rq_leK hf rfl rfl) fun a hf=>?_
     refine zp 19 hf trivial fun a hf=>?_
     refine zp 21 hf trivial fun a hf=>?_
     refine dk ?_
     have hf:=hf.pn [0,3,4,5,7,8,16,17,18,19,26,27,28,29]
     refine then_n (sq ?_)
     obtain ⟨c,hGc,hR1⟩:=bs_ hR1
     have fh:=hf.prune [0,7,8,16,17,18,19,26,27,28,29] rfl
     have Hm:=H.lk 0 0 0 []
     refine midF 40 (.bool c) fh Hm ?_ fun a w hf H=>?_
     ·refine reg (pz 3 hf fun a hf=>?_)
      refine iteB hGc (fun hc4 hGc=>?_) fun hc4 hGc=>?_
      ·have hf:=hf.lit 33 rfl hc4
       refine pz 3 hf fun a hf=>?_
       refine iteB hGc (fun hc5 hGc=>?_) fun hc5 hGc=>?_
       ·have hf:=hf.lit 36 rfl hc5
        refine pz 4 hf fun a hf=>?_
        obtain rfl:=oi hGc
        have hf:=hf.pn [40,0,7,8,16,17,18,19,26,27,28,29]
        have H:=H.lk 0 0 0 []
        exact wl_end ⟨hf,H⟩
       have hf:=hf.lit 36 rfl hc5
       refine pz 4 hf fun a hf=>?_
       obtain rfl:=oi hGc
       have hf:=hf.pn [40,0,7,8,16,17,18,19,26,27,28,29]
       have H:=H.lk 0 0 0 []
       exact wl_end ⟨hf,H⟩
      have hf:=hf.lit 33 rfl hc4
      refine pz 3 hf fun a hf=>?_
      refine wlsu hf rfl rfl rfl rfl (by decide) fun a hf=>?_
      refine wlsu hf rfl rfl rfl rfl (by decide) fun a hf=>?_
      refine pz 2 hf fun a hf=>?_
      obtain rfl:=oi hGc
      have hf:=hf.pn [40,0,7,8,16,17,18,19,26,27,28,29]
      have H:=H.lk 0 0 0 []
      exact wl_end ⟨hf,H⟩
     refine then_n (ib hR1 hf (fun hc6 hR1=>?_) fun hc6 hR1=>?_)
     ·refine sqz (pz 1 hf fun a hf=>?_)
      refine wl_end (then_n (wp_ret (blk_r (then_r (then_r (blk_r (then_r (then_r (?_)))))))))
      obtain rfl:=oi hR1
      replace hF:=on_ret hF
      obtain rfl:=oi hF
      refine rT hf ?_
      exact ⟨_,rfl,H.bel,mk_bool⟩
     refine wp_skip (blk_n (then_n (reg (pz 2 hf fun a hf=>?_))))
     refine wl_end ?_
     have hf:=hf.pn [0,7,8]
     have H:=H.lk 0 0 0 []
     exact then_n ⟨w64 (i + 1),hR1,hf,H⟩
    have hf:=hf.lit 25 rfl hc3
    refine zU 15 hf trivial fun a hf=>?_
    refine zU 16 hf trivial fun a hf=>?_
    refine zU 17 hf trivial fun a hf=>?_
    refine zU 18 hf trivial fun a hf=>?_
    refine zp 19 hf trivial fun a hf=>?_
    refine zp 21 hf trivial fun a hf=>?_
    refine dk ?_
    have hf:=hf.pn [0,3,4,5,7,8,16,17,18,19]
    refine then_n (sq ?_)
    obtain ⟨c2,hGc2,hR1⟩:=bs_ hR1
    have fh2:=hf.prune [0,7,8,16,17,18,19] rfl
    have Hm2:=H.lk 0 0 0 []
    refine midF 40 (.bool c2) fh2 Hm2 ?_ fun a w hf H=>?_
    ·refine reg (pz 3 hf fun a hf=>?_)
     refine iteB hGc2 (fun hc7 hGc2=>?_) fun hc7 hGc2=>?_
     ·have hf:=hf.lit 33 rfl hc7
      refine pz 3 hf fun a hf=>?_
      refine iteB hGc2 (fun hc8 hGc2=>?_) fun hc8 hGc2=>?_
      ·have hf:=hf.lit 36 rfl hc8
       refine pz 4 hf fun a hf=>?_
       obtain rfl:=oi hGc2
       have hf:=hf.pn [40,0,7,8,16,17,18,19]
       have H:=H.lk 0 0 0 []
       exact wl_end ⟨hf,H⟩
      have hf:=hf.lit 36 rfl hc8
      refine pz 4 hf fun a hf=>?_
      obtain rfl:=oi hGc2
      have hf:=hf.pn [40,0,7,8,16,17,18,19]
      have H:=H.lk 0 0 0 []
      exact wl_end ⟨hf,H⟩
     have hf:=hf.lit 33 rfl hc7
     refine pz 3 hf fun a hf=>?_
     refine wlsu hf rfl rfl rfl rfl (by decide) fun a hf=>?_
     refine wlsu hf rfl rfl rfl rfl (by decide) fun a hf=>?_
     refine pz 2 hf fun a hf=>?_
     obtain rfl:=oi hGc2
     have hf:=hf.pn [40,0,7,8,16,17,18,19]
     have H:=H.lk 0 0 0 []
     exact wl_end ⟨hf,H⟩
    refine then_n (ib hR1 hf (fun hc9 hR1=>?_) fun hc9 hR1=>?_)
    ·refine sqz (pz 1 hf fun a hf=>?_)
     refine wl_end (then_n (wp_ret (blk_r (then_r (then_r (blk_r (then_r (then_r (?_)))))))))
     obtain rfl:=oi hR1
     replace hF:=on_ret hF
     obtain rfl:=oi hF
     refine rT hf ?_
     exact ⟨_,rfl,H.bel,mk_bool⟩
    refine wp_skip (blk_n (then_n (reg (pz 2 hf fun a hf=>?_))))
    refine wl_end ?_
    have hf:=hf.pn [0,7,8]
    have H:=H.lk 0 0 0 []
    exact then_n ⟨w64 (i + 1),hR1,hf,H⟩
   have hf:=hf.lit 15 rfl hc2
   refine zU 5 hf trivial fun a hf=>?_
   refine zU 6 hf trivial fun a hf=>?_
   refine zU 7 hf trivial fun a hf=>?_
   refine zU 8 hf trivial fun a hf=>?_
   refine zp 9 hf trivial fun a hf=>?_
   refine zp 20 hf trivial fun a hf=>?_
   refine iteB hR1 (fun hc10 hR1=>?_) fun hc10 hR1=>?_
   ·have hf:=hf.lit 25 rfl hc10
    refine zg 15 hf trivial fun a hf=>?_
    refine zg 16 hf trivial fun a hf=>?_
    obtain ⟨e5,he5,hR1⟩:=bs_ hR1
    refine tPg 17 rfl rfl rfl rfl rfl rfl hf (by kernel_rfl) (fun _=>trivial) (fun w=>rq_indexS hf Tryz.underlying9 rfl rfl he5) fun a hf=>?_
    refine tPg 18 rfl rfl rfl rfl rfl rfl hf (by kernel_rfl) (fun _=>trivial) (fun w=>rq_leK hf rfl rfl) fun a hf=>?_
    refine zp 19 hf trivial fun a hf=>?_
    refine zp 21 hf trivial fun a hf=>?_
    refine dk ?_
    have hf:=hf.pn [0,3,4,5,7,8,26,27,28,29]
    refine then_n (sq ?_)
    obtain ⟨c3,hGc3,hR1⟩:=bs_ hR1
    have fh3:=hf.prune [0,7,8,26,27,28,29] rfl
    have Hm3:=H.lk 0 0 0 []
    refine midF 40 (.bool c3) fh3 Hm3 ?_ fun a w hf H=>?_
    ·refine reg (pz 3 hf fun a hf=>?_)
     refine iteB hGc3 (fun hc11 hGc3=>?_) fun hc11 hGc3=>?_
     ·have hf:=hf.lit 33 rfl hc11
      refine pz 3 hf fun a hf=>?_
      refine iteB hGc3 (fun hc12 hGc3=>?_) fun hc12 hGc3=>?_
      ·have hf:=hf.lit 36 rfl hc12
       refine pz 4 hf fun a hf=>?_
       obtain rfl:=oi hGc3
       have hf:=hf.pn [40,0,7,8,26,27,28,29]
       have H:=H.lk 0 0 0 []
       exact wl_end ⟨hf,H⟩
      have hf:=hf.lit 36 rfl hc12
      refine pz 4 hf fun a hf=>?_
      obtain rfl:=oi hGc3
      have hf:=hf.pn [40,0,7,8,26,27,28,29]
      have H:=H.lk 0 0 0 []
      exact wl_end ⟨hf,H⟩
     have hf:=hf.lit 33 rfl hc11
     refine pz 3 hf fun a hf=>?_
     refine wlsu hf rfl rfl rfl rfl (by decide) fun a hf=>?_
     refine wlsu hf rfl rfl rfl rfl (by decide) fun a hf=>?_
     refine pz 2 hf fun a hf=>?_
     obtain rfl:=oi hGc3
     have hf:=hf.pn [40,0,7,8,26,27,28,29]
     have H:=H.lk 0 0 0 []
     exact wl_end ⟨hf,H⟩
    refine then_n (ib hR1 hf (fun hc13 hR1=>?_) fun hc13 hR1=>?_)
    ·refine sqz (pz 1 hf fun a hf=>?_)
     refine wl_end (then_n (wp_ret (blk_r (then_r (then_r (blk_r (then_r (then_r (?_)))))))))
     obtain rfl:=oi hR1
     replace hF:=on_ret hF
     obtain rfl:=oi hF
     refine rT hf ?_
     exact ⟨_,rfl,H.bel,mk_bool⟩
    refine wp_skip (blk_n (then_n (reg (pz 2 hf fun a hf=>?_))))
    refine wl_end ?_
    have hf:=hf.pn [0,7,8]
    have H:=H.lk 0 0 0 []
    exact then_n ⟨w64 (i + 1),hR1,hf,H⟩
   have hf:=hf.lit 25 rfl hc10
   refine zU 15 hf trivial fun a hf=>?_
   refine zU 16 hf trivial fun a hf=>?_
   refine zU 17 hf trivial fun a hf=>?_
   refine zU 18 hf trivial fun a hf=>?_
   refine zp 19 hf trivial fun a hf=>?_
   refine zp 21 hf trivial fun a hf=>?_
   refine dk ?_
   have hf:=hf.pn [0,3,4,5,7,8]
   refine then_n (sq ?_)
   obtain ⟨c4,hGc4,hR1⟩:=bs_ hR1
   have fh4:=hf.prune [0,7,8] rfl
   have Hm4:=H.lk 0 0 0 []
   refine midF 40 (.bool c4) fh4 Hm4 ?_ fun a w hf H=>?_
   ·refine reg (pz 3 hf fun a hf=>?_)
    refine iteB hGc4 (fun hc14 hGc4=>?_) fun hc14 hGc4=>?_
    ·have hf:=hf.lit 33 rfl hc14
     refine pz 3 hf fun a hf=>?_
     refine iteB hGc4 (fun hc15 hGc4=>?_) fun hc15 hGc4=>?_
     ·have hf:=hf.lit 36 rfl hc15
      refine pz 4 hf fun a hf=>?_
      obtain rfl:=oi hGc4
      have hf:=hf.pn [40,0,7,8]
      have H:=H.lk 0 0 0 []
      exact wl_end ⟨hf,H⟩
     have hf:=hf.lit 36 rfl hc15
     refine pz 4 hf fun a hf=>?_
     obtain rfl:=oi hGc4
     have hf:=hf.pn [40,0,7,8]
     have H:=H.lk 0 0 0 []
     exact wl_end ⟨hf,H⟩
    have hf:=hf.lit 33 rfl hc14
    refine pz 3 hf fun a hf=>?_
    refine wlsu hf rfl rfl rfl rfl (by decide) fun a hf=>?_
    refine wlsu hf rfl rfl rfl rfl (by decide) fun a hf=>?_
    refine pz 2 hf fun a hf=>?_
    obtain rfl:=oi hGc4
    have hf:=hf.pn [40,0,7,8]
    have H:=H.lk 0 0 0 []
    exact wl_end ⟨hf,H⟩
   refine then_n (ib hR1 hf (fun hc16 hR1=>?_) fun hc16 hR1=>?_)
   ·refine sqz (pz 1 hf fun a hf=>?_)
    refine wl_end (then_n (wp_ret (blk_r (then_r (then_r (blk_r (then_r (then_r (?_)))))))))
    obtain rfl:=oi hR1
    replace hF:=on_ret hF
    obtain rfl:=oi hF
    refine rT hf ?_
    exact ⟨_,rfl,H.bel,mk_bool⟩
   refine wp_skip (blk_n (then_n (reg (pz 2 hf fun a hf=>?_))))
   refine wl_end ?_
   have hf:=hf.pn [0,7,8]
   have H:=H.lk 0 0 0 []
   exact then_n ⟨w64 (i + 1),hR1,hf,H⟩
  refine wp_exit (then_x (then_x (blk_e (?_))))
  have hf:=hf.pn [0,7,8]
  have H:=H.lk 0 0 0 []
  exact ⟨i,(Option.some.inj hR1).symm,hf,H⟩
 rintro a w ⟨i2,rfl,hf,H⟩
 replace hF:=on_next hF
 refine then_n (sqz (pz 2 hf fun a hf=>?_))
 obtain ⟨y,hy,hF⟩:=bs_ hF
 refine oc hf TF.cl160 (impl_within_ok (S:=TT) mk_int mk_int mk_int hy) fun v w a hp hf=>?_
 obtain ⟨hb,hp⟩:=hp
 obtain rfl:=VR_bool hp
 have H:=H.keep hb
 refine pz 1 hf fun a hf=>?_
 refine wer ?_
 obtain rfl:=oi hF
 refine rT hf ?_
 exact ⟨_,rfl,H.bel,mk_bool⟩
theorem slices_Index_string_string_ok {S:Nat→Prop} {v0_:Value} {v1_:Value} {s':List ByteArray} {v:ByteArray} {r:Int} (h0:VR w0 S v0_ s') (h1:VR w0 S v1_ v) (hF:slices_Index_string_string fu s' v=some r) :
    Calls Tryz.prog 241 [v0_,v1_].toArray w0 fun e w'=>∃ v,e=.returned v∧(Below w0.heap.size w0 w'∧VR w' (St ⟨w0,[]⟩ S [] [] [] true) v r):=by
 obtain ⟨A,c,rfl,hl⟩:=VR_list h0
 obtain rfl:=VR_str h1
 have H:=Mem.start ⟨w0,[]⟩ S
 have H:=H.pA hl
 refine en Tryz.func241 fun a hf=>?_
 rw [slices_Index_string_string] at hF
 refine sqz (pz 1 hf fun a hf=>?_)
 refine we (sqz (pz 3 hf fun a hf=>?_))
 refine wl_end (then_n ?_)
 obtain ⟨out',hB1,hF⟩:=bs_ hF
 have hf:=hf.pn [0,1,7,8]
 have H:=H.lk 0 0 0 [0]
 refine loopC (fun (s:Int) (a:Act) (w:World)=>match s with | i=>Fr a 19 [(0,(.slice A s'.length c)),(1,(.string v)),(7,(.int .i64 (s'.length:Int))),(8,(.int .i64 i))]∧Mem ⟨w0,[]⟩ S [] [] [] [(false,MP.val [(.slice A s'.length c)] (s':List ByteArray))] w) (fun k (s:Int)=>slices_Index_string_string_L1 fu s' v k s=some out') (fun s=>out'=Out.next s) 0 fu hB1 ⟨hf,H⟩ (fun s h=>by cases h) ?_ ?_
 ·rintro fk i a w hR1 hI
  replace hR1:slices_Index_string_string_L1 fu s' v (fk + 1) i=some out':=hR1
  rw [slices_Index_string_string_L1] at hR1
  obtain ⟨hf,H⟩:=hI
  refine sqz (pz 1 hf fun a hf=>?_)
  refine wl_end (then_n (sq (ib hR1 hf (fun hc hR1=>?_) fun hc hR1=>?_)))
  ·refine ws (pz 2 hf fun a hf=>?_)
   refine wr (pz 3 hf fun a hf=>?_)
   obtain ⟨e,he,hR1⟩:=bs_ hR1
   refine wl0 rfl (op_iaddr hf H Tryz.underlying24 TF.sz9 0 rfl rfl rfl he (by decide) fun p o cs a hf hr H=>?_)
   obtain rfl:=hr
   refine oq hf (rq_loadI hf H TF.ls9 0 0 rfl rfl rfl) fun a hf=>?_
   refine pz 1 hf fun a hf=>?_
   refine wl_end (then_n (ib hR1 hf (fun hc2 hR1=>?_) fun hc2 hR1=>?_))
   ·refine sqz (pz 2 hf fun a hf=>?_)
    have hf:=hf.pn [4]
    refine wl_end (then_n (wp_ret (blk_r (then_r (then_r (blk_r (then_r (then_r (?_)))))))))
    obtain rfl:=oi hR1
    replace hF:=on_ret hF
    obtain rfl:=oi hF
    refine rT hf ?_
    exact ⟨_,rfl,H.bel,mk_int⟩
   refine wp_skip (blk_n (then_n (reg (pz 2 hf fun a hf=>?_))))
   refine wl_end ?_
   have hf:=hf.pn [0,1,7,8]
   have H:=H.lk 0 0 0 [1]
   exact then_n ⟨w64 (i + 1),hR1,hf,H⟩
  refine wp_exit (then_x (then_x (blk_e (?_))))
  have hf:=hf.pn [0,1,7,8]
  have H:=H.lk 0 0 0 [0]
  exact ⟨i,(Option.some.inj hR1).symm,hf,H⟩
 rintro a w ⟨i2,rfl,hf,H⟩
 replace hF:=on_next hF
 refine then_n (sqz (pz 1 hf fun a hf=>?_))
 refine wer ?_
 obtain rfl:=oi hF
 refine rT hf ?_
 exact ⟨_,rfl,H.bel,mk_int⟩
theorem slices_Contains_string_string_ok {S:Nat→Prop} {v0_:Value} {v1_:Value} {s':List ByteArray} {v:ByteArray} {r:Bool} (h0:VR w0 S v0_ s') (h1:VR w0 S v1_ v) (hF:slices_Contains_string_string fu s' v=some r) :
    Calls Tryz.prog 159 [v0_,v1_].toArray w0 fun e w'=>∃ v,e=.returned v∧(Below w0.heap.size w0 w'∧VR w' (St ⟨w0,[]⟩ S [] [] [] true) v r):=by
 obtain ⟨A,c,rfl,hl⟩:=VR_list h0
 obtain rfl:=VR_str h1
 have H:=Mem.start ⟨w0,[]⟩ S
 have H:=H.pA hl
 refine en Tryz.func159 fun a hf=>?_
 rw [slices_Contains_string_string] at hF
 refine sqz (pz 1 hf fun a hf=>?_)
 refine wr (pz 2 hf fun a hf=>?_)
 obtain ⟨y,hy,hF⟩:=bs_ hF
 refine oc hf TF.cl241 (slices_Index_string_string_ok (S:=TT) (mk_list (H.rt 0 rfl)) mk_str hy) fun v2 w a hp hf=>?_
 obtain ⟨hb,hp⟩:=hp
 obtain rfl:=VR_int hp
 have H:=H.keep hb
 refine pz 2 hf fun a hf=>?_
 refine wer ?_
 obtain rfl:=oi hF
 refine rT hf ?_
 exact ⟨_,rfl,H.bel,mk_bool⟩
theorem cmp_isNaN_int_ok {S:Nat→Prop} {v0_:Value} {x1:Int} {r:Bool} (h0:VR w0 S v0_ x1) (hF:cmp_isNaN_int fu x1=some r) :
    Calls Tryz.prog 225 [v0_].toArray w0 fun e w'=>∃ v,e=.returned v∧(Below w0.heap.size w0 w'∧VR w' (St ⟨w0,[]⟩ S [] [] [] true) v r):=by
 obtain rfl:=VR_int h0
 have H:=Mem.start ⟨w0,[]⟩ S
 refine en Tryz.func225 fun a hf=>?_
 rw [cmp_isNaN_int] at hF
 refine sqz (pz 1 hf fun a hf=>?_)
 refine wr (pz 4 hf fun a hf=>?_)
 refine wer ?_
 obtain rfl:=oi hF
 refine rT hf ?_
 exact ⟨_,rfl,H.bel,mk_bool⟩
theorem cmp_Compare_int_ok {S:Nat→Prop} {v0_:Value} {v1_:Value} {x1:Int} {y:Int} {r:Int} (h0:VR w0 S v0_ x1) (h1:VR w0 S v1_ y) (hF:cmp_Compare_int fu x1 y=some r) :
    Calls Tryz.prog 140 [v0_,v1_].toArray w0 fun e w'=>∃ v,e=.returned v∧(Below w0.heap.size w0 w'∧VR w' (St ⟨w0,[]⟩ S [] [] [] true) v r):=by
 obtain rfl:=VR_int h0
 obtain rfl:=VR_int h1
 have H:=Mem.start ⟨w0,[]⟩ S
 refine en Tryz.func140 fun a hf=>?_
 rw [cmp_Compare_int] at hF
 refine sqz (pz 1 hf fun a hf=>?_)
 refine wr (pz 1 hf fun a hf=>?_)
 obtain ⟨y2,hy2,hF⟩:=bs_ hF
 refine oc hf TF.cl225 (cmp_isNaN_int_ok (S:=TT) mk_int hy2) fun v w a hp hf=>?_
 obtain ⟨hb,hp⟩:=hp
 obtain rfl:=VR_bool hp
 have H:=H.keep hb
 refine pz 1 hf fun a hf=>?_
 refine wr (pz 1 hf fun a hf=>?_)
 obtain ⟨y3,hy3,hF⟩:=bs_ hF
 refine oc hf TF.cl225 (cmp_isNaN_int_ok (S:=TT) mk_int hy3) fun v2 w a hp2 hf=>?_
 obtain ⟨hb2,hp2⟩:=hp2
 obtain rfl:=VR_bool hp2
 have H:=H.keep hb2
 refine pz 1 hf fun a hf=>?_
 refine we (sqz (pz 1 hf fun a hf=>?_))
 refine wl_end (then_n (ib hF hf (fun hc hF=>?_) fun hc hF=>?_))
 ·refine sq (sqz (pz 1 hf fun a hf=>?_))
  refine wl_end (then_n (ib hF hf (fun hc2 hF=>?_) fun hc2 hF=>?_))
  ·refine sqz (pz 1 hf fun a hf=>?_)
   refine wl_end (then_n (wp_ret (then_r (then_r (?_)))))
   obtain rfl:=oi hF
   refine rT hf ?_
   exact ⟨_,rfl,H.bel,mk_int⟩
  refine wp_skip (then_n (sqz (pz 1 hf fun a hf=>?_)))
  refine wl_end (then_n (wp_ret (then_r (?_))))
  obtain rfl:=oi hF
  refine rT hf ?_
  exact ⟨_,rfl,H.bel,mk_int⟩
 refine wp_skip (then_n (sq (sqz (pz 1 hf fun a hf=>?_))))
 refine wl_end (then_n (ib hF hf (fun hc3 hF=>?_) fun hc3 hF=>?_))
 ·refine sqz (pz 1 hf fun a hf=>?_)
  refine wl_end (then_n (wp_ret (then_r (?_))))
  obtain rfl:=oi hF
  refine rT hf ?_
  exact ⟨_,rfl,H.bel,mk_int⟩
 refine wp_skip (then_n (sq (sqz (pz 3 hf fun a hf=>?_))))
 refine wl_end (then_n (ib hF hf (fun hc4 hF=>?_) fun hc4 hF=>?_))
 ·refine sqz (pz 1 hf fun a hf=>?_)
  have hf:=hf.pn [4]
  refine wl_end (then_n (wp_ret (then_r (?_))))
  obtain rfl:=oi hF
  refine rT hf ?_
  exact ⟨_,rfl,H.bel,mk_int⟩
 refine wp_skip (then_n (sq (sqz (pz 3 hf fun a hf=>?_))))
 have hf:=hf.pn [19]
 refine wl_end (then_n (ib hF hf (fun hc5 hF=>?_) fun hc5 hF=>?_))
 ·refine sqz (pz 1 hf fun a hf=>?_)
  refine wl_end (then_n (wp_ret (then_r (?_))))
  obtain rfl:=oi hF
  refine rT hf ?_
  exact ⟨_,rfl,H.bel,mk_int⟩
 refine wp_skip (then_n (sqz (pz 1 hf fun a hf=>?_)))
 refine wer ?_
 obtain rfl:=oi hF
 refine rT hf ?_
 exact ⟨_,rfl,H.bel,mk_int⟩
theorem cmp_Or_int_ok {S:Nat→Prop} {v0_:Value} {vals:List Int} {r:Int} (h0:VR w0 S v0_ vals) (hF:cmp_Or_int fu vals=some r) :
    Calls Tryz.prog 242 [v0_].toArray w0 fun e w'=>∃ v,e=.returned v∧(Below w0.heap.size w0 w'∧VR w' (St ⟨w0,[]⟩ S [] [] [] true) v r):=by
 obtain ⟨A,c,rfl,hl⟩:=VR_list h0
 have H:=Mem.start ⟨w0,[]⟩ S
 have H:=H.pA hl
 refine en Tryz.func242 fun a hf=>?_
 rw [cmp_Or_int] at hF
 refine sqz (pz 1 hf fun a hf=>?_)
 refine wr (pz 1 hf fun a hf=>?_)
 refine we (sqz (pz 3 hf fun a hf=>?_))
 refine wl_end (then_n ?_)
 obtain ⟨out',hB1,hF⟩:=bs_ hF
 have hf:=hf.pn [3,6,7,8]
 have H:=H.lk 0 0 0 [0]
 refine loopC (fun (s:Int) (a:Act) (w:World)=>match s with | i=>Fr a 18 [(3,(.int .i64 0)),(6,(.slice A vals.length c)),(7,(.int .i64 (vals.length:Int))),(8,(.int .i64 i))]∧Mem ⟨w0,[]⟩ S [] [] [] [(false,MP.val [(.slice A vals.length c)] (vals:List Int))] w) (fun k (s:Int)=>cmp_Or_int_L1 fu vals k s=some out') (fun s=>out'=Out.next s) 0 fu hB1 ⟨hf,H⟩ (fun s h=>by cases h) ?_ ?_
 ·rintro fk i a w hR1 hI
  replace hR1:cmp_Or_int_L1 fu vals (fk + 1) i=some out':=hR1
  rw [cmp_Or_int_L1] at hR1
  obtain ⟨hf,H⟩:=hI
  refine sqz (pz 1 hf fun a hf=>?_)
  refine wl_end (then_n (sq (ib hR1 hf (fun hc hR1=>?_) fun hc hR1=>?_)))
  ·refine wp_skip (then_n (sq (wp_block (sq (reg ?_)))))
   obtain ⟨e,he,hR1⟩:=bs_ hR1
   refine wl0 rfl (op_iaddr hf H Tryz.underlying35 TF.sz3 0 rfl rfl rfl he (by decide) fun p o cs a hf hr H=>?_)
   obtain rfl:=hr
   refine oq hf (rq_loadI hf H TF.ls3 0 0 rfl rfl rfl) fun a hf=>?_
   refine pz 1 hf fun a hf=>?_
   refine wr (pz 3 hf fun a hf=>?_)
   refine wl_end (then_n (ib hR1 hf (fun hc2 hR1=>?_) fun hc2 hR1=>?_))
   ·refine sqz (pz 2 hf fun a hf=>?_)
    refine wl_end (then_n (wp_ret (blk_r (then_r (then_r (blk_r (then_r (then_r (?_)))))))))
    obtain rfl:=oi hR1
    replace hF:=on_ret hF
    obtain rfl:=oi hF
    refine rT hf ?_
    exact ⟨_,rfl,H.bel,mk_int⟩
   refine wp_skip (blk_n (then_n (reg (pz 2 hf fun a hf=>?_))))
   refine wl_end ?_
   have hf:=hf.pn [3,6,7,8]
   have H:=H.lk 0 0 0 [1]
   exact then_n ⟨w64 (i + 1),hR1,hf,H⟩
  refine wp_exit (then_x (then_x (blk_e (?_))))
  have hf:=hf.pn [3,6,7,8]
  have H:=H.lk 0 0 0 [0]
  exact ⟨i,(Option.some.inj hR1).symm,hf,H⟩
 rintro a w ⟨i2,rfl,hf,H⟩
 replace hF:=on_next hF
 refine then_n (sqz (pz 2 hf fun a hf=>?_))
 refine wer ?_
 obtain rfl:=oi hF
 refine rT hf ?_
 exact ⟨_,rfl,H.bel,mk_int⟩
theorem impl_compareFibers_ok {S:Nat→Prop} {v0_:Value} {v1_:Value} {a':Fiber} {b':Fiber} {r:Int} (h0:VR w0 S v0_ a') (h1:VR w0 S v1_ b') (hF:impl_compareFibers fu a' b'=some r) :
    Calls Tryz.prog 161 [v0_,v1_].toArray w0 fun e w'=>∃ v,e=.returned v∧(Below w0.heap.size w0 w'∧VR w' (St ⟨w0,[]⟩ S [] [] [] true) v r):=by
 obtain rfl:=Fiber_open h0
 obtain rfl:=Fiber_open h1
 have H:=Mem.start ⟨w0,[]⟩ S
 refine en Tryz.func161 fun a hf=>?_
 rw [impl_compareFibers] at hF
 refine bx hf H fun b2 a w hf H=>?_
 refine wl0 rfl (op_box hf H rfl rfl (by decide) fun b3 a w hf H=>?_)
 refine pz 1 hf fun a hf=>?_
 refine wl_end (then_n (sq (dw [] 23 fun w hb=>?_)))
 have H:=H.keep hb
 refine zp 0 hf trivial fun a hf=>?_
 refine strT (H.lk 2 0 0 []) (fun w H=>trivial) fun hS=>?_
 refine zS 1 [] rfl rfl rfl rfl hf hS (fun w H=>rq_loadB hf H TF.ls3 0 rfl rfl rfl) fun a hf=>?_
 refine zp 2 hf hS fun a hf=>?_
 refine strT H (fun w H=>H.lk 2 0 0 []) fun hS=>?_
 refine zS 3 [] rfl rfl rfl rfl hf hS (fun w H=>rq_loadB hf H TF.ls3 0 rfl rfl rfl) fun a hf=>?_
 refine zp 5 hf hS fun a hf=>?_
 refine zS 6 [] rfl rfl rfl rfl hf hS (fun w H=>rq_loadB hf H TF.ls3 1 rfl rfl rfl) fun a hf=>?_
 refine zp 7 hf hS fun a hf=>?_
 refine zS 8 [] rfl rfl rfl rfl hf hS (fun w H=>rq_loadB hf H TF.ls3 0 rfl rfl rfl) fun a hf=>?_
 refine zp 10 hf hS fun a hf=>?_
 refine zS 11 [] rfl rfl rfl rfl hf hS (fun w H=>rq_loadB hf H TF.ls3 1 rfl rfl rfl) fun a hf=>?_
 refine zp 12 hf hS fun a hf=>?_
 refine zS 13 [] rfl rfl rfl rfl hf hS (fun w H=>rq_loadB hf H TF.ls3 0 rfl rfl rfl) fun a hf=>?_
 refine zp 15 hf hS fun a hf=>?_
 refine zS 16 [] rfl rfl rfl rfl hf hS (fun w H=>rq_loadB hf H TF.ls3 1 rfl rfl rfl) fun a hf=>?_
 refine zp 17 hf hS fun a hf=>?_
 refine zS 18 [] rfl rfl rfl rfl hf hS (fun w H=>rq_loadB hf H TF.ls3 0 rfl rfl rfl) fun a hf=>?_
 obtain ⟨y,hy,hF⟩:=bs_ hF
 refine nn 4 rfl (oC hf TF.cl140 (cmp_Compare_int_ok (S:=TT) mk_int mk_int hy) fun v w a hp hf=>?_)
 obtain ⟨hb,hp⟩:=hp
 obtain rfl:=VR_int hp
 have H:=H.keep hb
 have hS:=H
 refine aS hS ?_
 obtain ⟨y2,hy2,hF⟩:=bs_ hF
 refine nn 9 rfl (oC hf TF.cl140 (cmp_Compare_int_ok (S:=TT) mk_int mk_int hy2) fun v2 w a hp2 hf=>?_)
 obtain ⟨hb2,hp2⟩:=hp2
 obtain rfl:=VR_int hp2
 have H:=H.keep hb2
 have hS:=H
 refine aS hS ?_
 obtain ⟨y3,hy3,hF⟩:=bs_ hF
 refine nn 14 rfl (oC hf TF.cl140 (cmp_Compare_int_ok (S:=TT) mk_int mk_int hy3) fun v3 w a hp3 hf=>?_)
 obtain ⟨hb3,hp3⟩:=hp3
 obtain rfl:=VR_int hp3
 have H:=H.keep hb3
 have hS:=H
 refine aS hS ?_
 obtain ⟨y4,hy4,hF⟩:=bs_ hF
 refine nn 19 rfl (oC hf TF.cl140 (cmp_Compare_int_ok (S:=TT) mk_int mk_int hy4) fun v4 w a hp4 hf=>?_)
 obtain ⟨hb4,hp4⟩:=hp4
 obtain rfl:=VR_int hp4
 have H:=H.keep hb4
 have hS:=H
 refine aS hS ?_
 refine nn 20 rfl (bl hf H 3 ([y,y2,y3,y4]:List Int) [(.int .i64 y),(.int .i64 y2),(.int .i64 y3),(.int .i64 y4)] (elI [y,y2,y3,y4]) fun A a w hf H=>?_)
 have hS:=H.lk 3 0 0 []
 refine aS hS ?_
 obtain ⟨y5,hy5,hF⟩:=bs_ hF
 refine nn 21 rfl (oC hf TF.cl242 (cmp_Or_int_ok (S:=TT) (mk_list (H.rowTrue 0 rfl)) hy5) fun v5 w a hp5 hf=>?_)
 obtain ⟨hb5,hp5⟩:=hp5
 obtain rfl:=VR_int hp5
 have H:=H.keep hb5
 have hS:=H.lk 3 0 0 []
 refine aS hS ?_
 refine zp 22 hf hS fun a hf=>?_
 refine dk ?_
 have hf:=hf.pn [4]
 refine then_n (wp_ret (?_))
 obtain rfl:=oi hF
 refine rT hf ?_
 exact ⟨_,rfl,H.bel,mk_int⟩
theorem impl_IsValidNetwork_ok {S:Nat→Prop} {v0_:Value} {n':Network} {r:Bool} (h0:VR w0 S v0_ n') (hF:impl_IsValidNetwork fu n'=some r) :
    Calls Tryz.prog 65 [v0_].toArray w0 fun e w'=>∃ v,e=.returned v∧(Below w0.heap.size w0 w'∧VR w' (St ⟨w0,[]⟩ S [] [] [] true) v r):=by
 obtain ⟨A,c,A2,c2,rfl,hl,hl2⟩:=Network_open h0
 have H:=Mem.start ⟨w0,[]⟩ S
 have H:=H.pA hl
 have H:=H.pA hl2
 refine en Tryz.func65 fun a hf=>?_
 rw [impl_IsValidNetwork] at hF
 refine bx hf H fun b' a w hf H=>?_
 refine pz 1 hf fun a hf=>?_
 refine we (sqz (pz 1 hf fun a hf=>?_))
 refine lB 0 hf H TF.ls24 fun a hf=>?_
 refine pz 2 hf fun a hf=>?_
 refine wl_end (then_n ?_)
 obtain ⟨out',hB1,hF⟩:=bs_ hF
 have hf:=hf.pn [1,8,9,10]
 have H:=H.lk 1 0 0 [0,1]
 refine loopC (fun (s:Int) (a:Act) (w:World)=>match s with | i=>Fr a 91 [(1,(.pointer (some ⟨b',0,none⟩))),(8,(.slice A n'.Nodes.length c)),(9,(.int .i64 (n'.Nodes.length:Int))),(10,(.int .i64 i))]∧Mem ⟨w0,[]⟩ S [⟨b',27,[(.slice A n'.Nodes.length c),(.slice A2 n'.Fibers.length c2)]⟩] [] [] [(false,MP.val [(.slice A2 n'.Fibers.length c2)] (n'.Fibers:List Fiber)),(false,MP.val [(.slice A n'.Nodes.length c)] (n'.Nodes:List ByteArray))] w) (fun k (s:Int)=>impl_IsValidNetwork_L1 fu n' k s=some out') (fun s=>out'=Out.next s) 0 fu hB1 ⟨hf,H⟩ (fun s h=>by cases h) ?_ ?_
 ·rintro fk i a w hR1 hI
  replace hR1:impl_IsValidNetwork_L1 fu n' (fk + 1) i=some out':=hR1
  rw [impl_IsValidNetwork_L1] at hR1
  obtain ⟨hf,H⟩:=hI
  refine sqz (pz 1 hf fun a hf=>?_)
  refine wl_end (then_n (sq (ib hR1 hf (fun hc hR1=>?_) fun hc hR1=>?_)))
  ·refine ws (pz 1 hf fun a hf=>?_)
   obtain ⟨e,he,hR1⟩:=bs_ hR1
   refine wl0 rfl (op_iaddr hf H Tryz.underlying24 TF.sz9 1 rfl rfl rfl he (by decide) fun p o cs a hf hr H=>?_)
   obtain rfl:=hr
   refine oq hf (rq_loadI hf H TF.ls9 0 0 rfl rfl rfl) fun a hf=>?_
   refine pz 2 hf fun a hf=>?_
   refine wl_end (then_n (sq ?_))
   obtain ⟨c3,hGc3,hR1⟩:=bs_ hR1
   have fh:=hf.prune [1,8,9,10] rfl
   have Hm:=H.lk 1 0 0 [1,2]
   refine midF 25 (.bool c3) fh Hm ?_ fun a w hf H=>?_
   ·refine reg (pz 1 hf fun a hf=>?_)
    obtain ⟨y,hy,hGc3⟩:=bs_ hGc3
    refine oc hf TF.cl158 (impl_isName_ok (S:=TT) mk_str hy) fun v w a hp hf=>?_
    obtain ⟨hb,hp⟩:=hp
    obtain rfl:=VR_bool hp
    have H:=H.keep hb
    refine pz 2 hf fun a hf=>?_
    refine iteB hGc3 (fun hc2 hGc3=>?_) fun hc2 hGc3=>?_
    ·have hf:=hf.lit 18 rfl hc2
     refine pz 7 hf fun a hf=>?_
     obtain rfl:=oi hGc3
     have hf:=hf.pn [25,1,8,9,10]
     have H:=H.lk 1 0 0 [1,2]
     exact wl_end ⟨hf,H⟩
    have hf:=hf.lit 18 rfl hc2
    refine pz 1 hf fun a hf=>?_
    refine wlg hf rfl rfl rfl (op_q hf (rq_loadB hf H TF.ls24 0 rfl rfl rfl) rfl (by decide) fun a hf=>?_)
    refine pz 1 hf fun a hf=>?_
    obtain ⟨l,hl_,hGc3⟩:=bs_ hGc3
    refine wlg hf rfl rfl rfl (op_sliceI hf H Tryz.underlying24 TF.sz9 2 rfl rfl rfl rfl hl_ (by decide) fun A3 c4 a hf H=>?_)
    refine pz 1 hf fun a hf=>?_
    obtain ⟨y2,hy2,hGc3⟩:=bs_ hGc3
    refine wlg hf rfl rfl rfl (oC hf TF.cl159 (slices_Contains_string_string_ok (S:=TT) (mk_list (H.rt 0 rfl)) mk_str hy2) fun v2 w a hp2 hf=>?_)
    obtain ⟨hb2,hp2⟩:=hp2
    obtain rfl:=VR_bool hp2
    have H:=H.keep hb2
    refine pz 1 hf fun a hf=>?_
    obtain rfl:=oi hGc3
    have hf:=hf.pn [25,1,8,9,10]
    have H:=H.lk 1 0 0 [2,3]
    exact wl_end ⟨hf,H⟩
   refine then_n (ib hR1 hf (fun hc3 hR1=>?_) fun hc3 hR1=>?_)
   ·refine sqz (pz 1 hf fun a hf=>?_)
    refine wl_end (then_n (wp_ret (blk_r (then_r (then_r (blk_r (then_r (then_r (?_)))))))))
    obtain rfl:=oi hR1
    replace hF:=on_ret hF
    obtain rfl:=oi hF
    refine rT hf ?_
    exact ⟨_,rfl,H.bel,mk_bool⟩
   refine wp_skip (blk_n (then_n (reg (pz 2 hf fun a hf=>?_))))
   refine wl_end ?_
   have hf:=hf.pn [1,8,9,10]
   have H:=H.lk 1 0 0 [0,1]
   exact then_n ⟨w64 (i + 1),hR1,hf,H⟩
  refine wp_exit (then_x (then_x (blk_e (?_))))
  have hf:=hf.pn [1,8,9,10]
  have H:=H.lk 1 0 0 [0,1]
  exact ⟨i,(Option.some.inj hR1).symm,hf,H⟩
 rintro a w ⟨i2,rfl,hf,H⟩
 replace hF:=on_next hF
 refine then_n (sq (sqz (pz 1 hf fun a hf=>?_)))
 refine lB 0 hf H TF.ls25 fun a hf=>?_
 refine pz 2 hf fun a hf=>?_
 refine wl_end (then_n ?_)
 obtain ⟨out2,hB1,hF⟩:=bs_ hF
 have hf:=hf.pn [1,28,29,30]
 have H:=H.lk 1 0 0 [0,1]
 refine loopC (fun (s:Int) (a:Act) (w:World)=>match s with | i3=>Fr a 91 [(1,(.pointer (some ⟨b',0,none⟩))),(28,(.slice A2 n'.Fibers.length c2)),(29,(.int .i64 (n'.Fibers.length:Int))),(30,(.int .i64 i3))]∧Mem ⟨w0,[]⟩ S [⟨b',27,[(.slice A n'.Nodes.length c),(.slice A2 n'.Fibers.length c2)]⟩] [] [] [(false,MP.val [(.slice A2 n'.Fibers.length c2)] (n'.Fibers:List Fiber)),(false,MP.val [(.slice A n'.Nodes.length c)] (n'.Nodes:List ByteArray))] w) (fun k (s:Int)=>impl_IsValidNetwork_L2 fu n' k s=some out2) (fun s=>out2=Out.next s) 0 fu hB1 ⟨hf,H⟩ (fun s h=>by cases h) ?_ ?_
 ·rintro fk i3 a w hR1 hI
  replace hR1:impl_IsValidNetwork_L2 fu n' (fk + 1) i3=some out2:=hR1
  rw [impl_IsValidNetwork_L2] at hR1
  obtain ⟨hf,H⟩:=hI
  refine sqz (pz 1 hf fun a hf=>?_)
  refine wl_end (then_n (sq (ib hR1 hf (fun hc4 hR1=>?_) fun hc4 hR1=>?_)))
  ·refine ws (pz 1 hf fun a hf=>?_)
   obtain ⟨e2,he2,hR1⟩:=bs_ hR1
   refine wl0 rfl (op_iaddr hf H Tryz.underlying25 TF.sz180 0 rfl rfl rfl he2 (by decide) fun p2 o2 cs2 a hf hr2 H=>?_)
   obtain rfl:=Fiber_cells hr2
   refine oq hf (rq_loadIN hf H TF.la180 0 0 rfl rfl rfl rfl) fun a hf=>?_
   refine aL hf H TF.zv180 fun b2 a w hf H=>?_
   refine pz 1 hf fun a hf=>?_
   refine sB 0 hf H TF.sz180 fun w H=>?_
   refine wl_end (then_n (sq ?_))
   obtain ⟨c5,hGc5,hR1⟩:=bs_ hR1
   have fh2:=hf.prune [1,28,29,30] rfl
   have Hm2:=H.lk 2 0 0 [1,2]
   refine midF 79 (.bool c5) fh2 Hm2 ?_ fun a w hf H=>?_
   ·refine dw [] 45 fun w hb=>?_
    have H:=H.keep hb
    refine zp 0 hf trivial fun a hf=>?_
    refine strT (H.lk 1 0 0 []) (fun w H=>trivial) fun hS=>?_
    refine zS 1 [] rfl rfl rfl rfl hf hS (fun w H=>rq_loadB hf H TF.ls3 0 rfl rfl rfl) fun a hf=>?_
    refine zp 2 hf hS fun a hf=>?_
    refine zp 3 hf hS fun a hf=>?_
    refine iteB hGc5 (fun hc5 hGc5=>?_) fun hc5 hGc5=>?_
    ·have hf:=hf.lit 38 rfl hc5
     refine zU 4 hf hS fun a hf=>?_
     refine zU 5 hf hS fun a hf=>?_
     refine zU 6 hf hS fun a hf=>?_
     refine zU 7 hf hS fun a hf=>?_
     refine zU 8 hf hS fun a hf=>?_
     refine zp 9 hf hS fun a hf=>?_
     refine zp 10 hf hS fun a hf=>?_
     refine zU 11 hf hS fun a hf=>?_
     refine zU 12 hf hS fun a hf=>?_
     refine zU 13 hf hS fun a hf=>?_
     refine zU 14 hf hS fun a hf=>?_
     refine zU 15 hf hS fun a hf=>?_
     refine zU 16 hf hS fun a hf=>?_
     refine zp 17 hf hS fun a hf=>?_
     refine zp 18 hf hS fun a hf=>?_
     refine zU 19 hf hS fun a hf=>?_
     refine zU 20 hf hS fun a hf=>?_
     refine zU 21 hf hS fun a hf=>?_
     refine zU 22 hf hS fun a hf=>?_
     refine zp 23 hf hS fun a hf=>?_
     refine zp 24 hf hS fun a hf=>?_
     refine zU 25 hf hS fun a hf=>?_
     refine zU 26 hf hS fun a hf=>?_
     refine zU 27 hf hS fun a hf=>?_
     refine zU 28 hf hS fun a hf=>?_
     refine zp 29 hf hS fun a hf=>?_
     refine zp 30 hf hS fun a hf=>?_
     refine zU 31 hf hS fun a hf=>?_
     refine zU 32 hf hS fun a hf=>?_
     refine zU 33 hf hS fun a hf=>?_
     refine zV 34 hf hS fun a hf=>?_
     refine zV 35 hf hS fun a hf=>?_
     refine zV 36 hf hS fun a hf=>?_
     refine zV 37 hf hS fun a hf=>?_
     refine zV 38 hf hS fun a hf=>?_
     refine zV 39 hf hS fun a hf=>?_
     refine zV 40 hf hS fun a hf=>?_
     refine zV 41 hf hS fun a hf=>?_
     refine zV 42 hf hS fun a hf=>?_
     refine zU 43 hf hS fun a hf=>?_
     refine zp 44 hf hS fun a hf=>?_
     refine dk ?_
     obtain rfl:=oi hGc5
     have hf:=hf.pn [79,1,28,29,30]
     have H:=H.lk 2 0 0 [1,2]
     exact ⟨hf,H⟩
    have hf:=hf.lit 38 rfl hc5
    refine zg 4 hf hS fun a hf=>?_
    refine tSg 5 [] rfl rfl rfl rfl rfl rfl hf (by kernel_rfl) (by kernel_rfl) hS (fun w H=>rq_loadB hf H TF.ls3 0 rfl rfl rfl) fun a hf=>?_
    refine zg 6 hf hS fun a hf=>?_
    refine tSg 7 [] rfl rfl rfl rfl rfl rfl hf (by kernel_rfl) (by kernel_rfl) hS (fun w H=>rq_loadB hf H TF.ls3 0 rfl rfl rfl) fun a hf=>?_
    refine zg 8 hf hS fun a hf=>?_
    refine zp 9 hf hS fun a hf=>?_
    refine zp 10 hf hS fun a hf=>?_
    refine iteB hGc5 (fun hc6 hGc5=>?_) fun hc6 hGc5=>?_
    ·have hf:=hf.lit 45 rfl hc6
     refine zU 11 hf hS fun a hf=>?_
     refine zU 12 hf hS fun a hf=>?_
     refine zU 13 hf hS fun a hf=>?_
     refine zU 14 hf hS fun a hf=>?_
     refine zU 15 hf hS fun a hf=>?_
     refine zU 16 hf hS fun a hf=>?_
     refine zp 17 hf hS fun a hf=>?_
     refine zp 18 hf hS fun a hf=>?_
     refine zU 19 hf hS fun a hf=>?_
     refine zU 20 hf hS fun a hf=>?_
     refine zU 21 hf hS fun a hf=>?_
     refine zU 22 hf hS fun a hf=>?_
     refine zp 23 hf hS fun a hf=>?_
     refine zp 24 hf hS fun a hf=>?_
     refine zU 25 hf hS fun a hf=>?_
     refine zU 26 hf hS fun a hf=>?_
     refine zU 27 hf hS fun a hf=>?_
     refine zU 28 hf hS fun a hf=>?_
     refine zp 29 hf hS fun a hf=>?_
     refine zp 30 hf hS fun a hf=>?_
     refine zU 31 hf hS fun a hf=>?_
     refine zU 32 hf hS fun a hf=>?_
     refine zU 33 hf hS fun a hf=>?_
     refine zV 34 hf hS fun a hf=>?_
     refine zV 35 hf hS fun a hf=>?_
     refine zV 36 hf hS fun a hf=>?_
     refine zV 37 hf hS fun a hf=>?_
     refine zV 38 hf hS fun a hf=>?_
     refine zV 39 hf hS fun a hf=>?_
     refine zV 40 hf hS fun a hf=>?_
     refine zV 41 hf hS fun a hf=>?_
     refine zV 42 hf hS fun a hf=>?_
     refine zU 43 hf hS fun a hf=>?_
     refine zp 44 hf hS fun a hf=>?_
     refine dk ?_
     obtain rfl:=oi hGc5
     have hf:=hf.pn [79,1,28,29,30]
     have H:=H.lk 2 0 0 [1,2]
     exact ⟨hf,H⟩
    have hf:=hf.lit 45 rfl hc6
    refine zg 11 hf hS fun a hf=>?_
    refine tSg 12 [] rfl rfl rfl rfl rfl rfl hf (by kernel_rfl) (by kernel_rfl) hS (fun w H=>rq_loadB hf H TF.ls3 0 rfl rfl rfl) fun a hf=>?_
    refine zg 13 hf hS fun a hf=>?_
    refine strT (H.lk 3 0 0 []) (fun w H=>H.lk 1 0 0 []) fun hS=>?_
    refine tSg 14 [] rfl rfl rfl rfl rfl rfl hf (by kernel_rfl) (by kernel_rfl) hS (fun w H=>rq_loadB hf H TF.ls24 1 rfl rfl rfl) fun a hf=>?_
    refine zg 15 hf hS fun a hf=>?_
    refine zg 16 hf hS fun a hf=>?_
    refine zp 17 hf hS fun a hf=>?_
    refine zp 18 hf hS fun a hf=>?_
    refine iteB hGc5 (fun hc7 hGc5=>?_) fun hc7 hGc5=>?_
    ·have hf:=hf.lit 53 rfl hc7
     refine zU 19 hf hS fun a hf=>?_
     refine zU 20 hf hS fun a hf=>?_
     refine zU 21 hf hS fun a hf=>?_
     refine zU 22 hf hS fun a hf=>?_
     refine zp 23 hf hS fun a hf=>?_
     refine zp 24 hf hS fun a hf=>?_
     refine zU 25 hf hS fun a hf=>?_
     refine zU 26 hf hS fun a hf=>?_
     refine zU 27 hf hS fun a hf=>?_
     refine zU 28 hf hS fun a hf=>?_
     refine zp 29 hf hS fun a hf=>?_
     refine zp 30 hf hS fun a hf=>?_
     refine zU 31 hf hS fun a hf=>?_
     refine zU 32 hf hS fun a hf=>?_
     refine zU 33 hf hS fun a hf=>?_
     refine zV 34 hf hS fun a hf=>?_
     refine zV 35 hf hS fun a hf=>?_
     refine zV 36 hf hS fun a hf=>?_
     refine zV 37 hf hS fun a hf=>?_
     refine zV 38 hf hS fun a hf=>?_
     refine zV 39 hf hS fun a hf=>?_
     refine zV 40 hf hS fun a hf=>?_
     refine zV 41 hf hS fun a hf=>?_
     refine zV 42 hf hS fun a hf=>?_
     refine zU 43 hf hS fun a hf=>?_
     refine zp 44 hf hS fun a hf=>?_
     refine dk ?_
     obtain rfl:=oi hGc5
     have hf:=hf.pn [79,1,28,29,30]
     have H:=H.lk 2 0 0 [1,2]
     exact ⟨hf,H⟩
    have hf:=hf.lit 53 rfl hc7
    refine zg 19 hf hS fun a hf=>?_
    refine tSg 20 [] rfl rfl rfl rfl rfl rfl hf (by kernel_rfl) (by kernel_rfl) hS (fun w H=>rq_loadB hf H TF.ls3 0 rfl rfl rfl) fun a hf=>?_
    obtain ⟨y3,hy3,hGc5⟩:=bs_ hGc5
    refine n1g 21 (by kernel_rfl) rfl rfl rfl rfl hf (oC hf TF.cl160 (impl_within_ok (S:=TT) mk_int mk_int mk_int hy3) fun v3 w a hp3 hf=>?_)
    obtain ⟨hb3,hp3⟩:=hp3
    obtain rfl:=VR_bool hp3
    have H:=H.keep hb3
    have hS:=H.lk 3 0 0 []
    refine aS hS ?_
    refine zg 22 hf hS fun a hf=>?_
    refine zp 23 hf hS fun a hf=>?_
    refine zp 24 hf hS fun a hf=>?_
    refine iteB hGc5 (fun hc8 hGc5=>?_) fun hc8 hGc5=>?_
    ·have hf:=hf.lit 59 rfl hc8
     refine zU 25 hf hS fun a hf=>?_
     refine zU 26 hf hS fun a hf=>?_
     refine zU 27 hf hS fun a hf=>?_
     refine zU 28 hf hS fun a hf=>?_
     refine zp 29 hf hS fun a hf=>?_
     refine zp 30 hf hS fun a hf=>?_
     refine zU 31 hf hS fun a hf=>?_
     refine zU 32 hf hS fun a hf=>?_
     refine zU 33 hf hS fun a hf=>?_
     refine zV 34 hf hS fun a hf=>?_
     refine zV 35 hf hS fun a hf=>?_
     refine zV 36 hf hS fun a hf=>?_
     refine zV 37 hf hS fun a hf=>?_
     refine zV 38 hf hS fun a hf=>?_
     refine zV 39 hf hS fun a hf=>?_
     refine zV 40 hf hS fun a hf=>?_
     refine zV 41 hf hS fun a hf=>?_
     refine zV 42 hf hS fun a hf=>?_
     refine zU 43 hf hS fun a hf=>?_
     refine zp 44 hf hS fun a hf=>?_
     refine dk ?_
     obtain rfl:=oi hGc5
     have hf:=hf.pn [79,1,28,29,30]
     have H:=H.lk 2 0 0 [1,2]
     exact ⟨hf,H⟩
    have hf:=hf.lit 59 rfl hc8
    refine zg 25 hf hS fun a hf=>?_
    refine tSg 26 [] rfl rfl rfl rfl rfl rfl hf (by kernel_rfl) (by kernel_rfl) hS (fun w H=>rq_loadB hf H TF.ls3 0 rfl rfl rfl) fun a hf=>?_
    obtain ⟨y4,hy4,hGc5⟩:=bs_ hGc5
    refine n1g 27 (by kernel_rfl) rfl rfl rfl rfl hf (oC hf TF.cl160 (impl_within_ok (S:=TT) mk_int mk_int mk_int hy4) fun v4 w a hp4 hf=>?_)
    obtain ⟨hb4,hp4⟩:=hp4
    obtain rfl:=VR_bool hp4
    have H:=H.keep hb4
    have hS:=H.lk 3 0 0 []
    refine aS hS ?_
    refine zg 28 hf hS fun a hf=>?_
    refine zp 29 hf hS fun a hf=>?_
    refine zp 30 hf hS fun a hf=>?_
    refine iteB hGc5 (fun hc9 hGc5=>?_) fun hc9 hGc5=>?_
    ·have hf:=hf.lit 65 rfl hc9
     refine zU 31 hf hS fun a hf=>?_
     refine zU 32 hf hS fun a hf=>?_
     refine zU 33 hf hS fun a hf=>?_
     refine zV 34 hf hS fun a hf=>?_
     refine zV 35 hf hS fun a hf=>?_
     refine zV 36 hf hS fun a hf=>?_
     refine zV 37 hf hS fun a hf=>?_
     refine zV 38 hf hS fun a hf=>?_
     refine zV 39 hf hS fun a hf=>?_
     refine zV 40 hf hS fun a hf=>?_
     refine zV 41 hf hS fun a hf=>?_
     refine zV 42 hf hS fun a hf=>?_
     refine zU 43 hf hS fun a hf=>?_
     refine zp 44 hf hS fun a hf=>?_
     refine dk ?_
     obtain rfl:=oi hGc5
     have hf:=hf.pn [79,1,28,29,30]
     have H:=H.lk 2 0 0 [1,2]
     exact ⟨hf,H⟩
    have hf:=hf.lit 65 rfl hc9
    refine zg 31 hf hS fun a hf=>?_
    refine zg 32 hf hS fun a hf=>?_
    refine zg 33 hf hS fun a hf=>?_
    refine iteB hGc5 (fun hc10 hGc5=>?_) fun hc10 hGc5=>?_
    ·have hf:=hf.lit 68 rfl hc10
     refine zg 34 hf hS fun a hf=>?_
     refine tSg 35 [] rfl rfl rfl rfl rfl rfl hf (by kernel_rfl) (by kernel_rfl) hS (fun w H=>rq_loadB hf H TF.ls25 1 rfl rfl rfl) fun a hf=>?_
     refine zg 36 hf hS fun a hf=>?_
     refine zg 37 hf hS fun a hf=>?_
     obtain ⟨e3,he3,hGc5⟩:=bs_ hGc5
     obtain ⟨p3,o3,cs3,hx,hr3,H⟩:=pre_iaddr H Tryz.underlying25 TF.sz180 1 rfl he3
     refine tPg 38 rfl rfl rfl rfl rfl rfl hf (by kernel_rfl) (fun _=>hS) (fun w=>rq_iaddrE hf rfl rfl rfl hx w) fun a hf=>?_
     obtain rfl:=Fiber_cells hr3
     refine strT (H.lk 3 0 0 [0]) (fun w H=>H.lk 3 0 0 []) fun hS=>?_
     refine tSg 39 [] rfl rfl rfl rfl rfl rfl hf (by kernel_rfl) (by kernel_rfl) hS (fun w H=>rq_loadIN hf H TF.la180 0 0 rfl rfl rfl rfl) fun a hf=>?_
     refine tSg 40 [] rfl rfl rfl rfl rfl rfl hf (by kernel_rfl) (by kernel_rfl) hS (fun w H=>rq_loadBN hf H TF.la180 0 rfl rfl rfl rfl) fun a hf=>?_
     obtain ⟨y5,hy5,hGc5⟩:=bs_ hGc5
     refine n1g 41 (by kernel_rfl) rfl rfl rfl rfl hf (oC hf TF.cl161 (impl_compareFibers_ok (S:=TT) Fiber_mkv Fiber_mkv hy5) fun v5 w a hp5 hf=>?_)
     obtain ⟨hb5,hp5⟩:=hp5
     obtain rfl:=VR_int hp5
     have H:=H.keep hb5
     have hS:=H.lk 3 0 0 [0]
     refine aS hS ?_
     refine zg 42 hf hS fun a hf=>?_
     refine zg 43 hf hS fun a hf=>?_
     refine zp 44 hf hS fun a hf=>?_
     refine dk ?_
     obtain rfl:=oi hGc5
     have hf:=hf.pn [79,1,28,29,30]
     have H:=H.lk 2 0 0 [2,3]
     exact ⟨hf,H⟩
    have hf:=hf.lit 68 rfl hc10
    refine zU 34 hf hS fun a hf=>?_
    refine zU 35 hf hS fun a hf=>?_
    refine zU 36 hf hS fun a hf=>?_
    refine zU 37 hf hS fun a hf=>?_
    refine zU 38 hf hS fun a hf=>?_
    refine zU 39 hf hS fun a hf=>?_
    refine zU 40 hf hS fun a hf=>?_
    refine zU 41 hf hS fun a hf=>?_
    refine zU 42 hf hS fun a hf=>?_
    refine zg 43 hf hS fun a hf=>?_
    refine zp 44 hf hS fun a hf=>?_
    refine dk ?_
    obtain rfl:=oi hGc5
    have hf:=hf.pn [79,1,28,29,30]
    have H:=H.lk 2 0 0 [1,2]
    exact ⟨hf,H⟩
   refine then_n (ib hR1 hf (fun hc11 hR1=>?_) fun hc11 hR1=>?_)
   ·refine sqz (pz 1 hf fun a hf=>?_)
    refine wl_end (then_n (wp_ret (blk_r (then_r (then_r (blk_r (then_r (then_r (?_)))))))))
    obtain rfl:=oi hR1
    replace hF:=on_ret hF
    obtain rfl:=oi hF
    refine rT hf ?_
    exact ⟨_,rfl,H.bel,mk_bool⟩
   refine wp_skip (blk_n (then_n (reg (pz 2 hf fun a hf=>?_))))
   refine wl_end ?_
   have hf:=hf.pn [1,28,29,30]
   have H:=H.lk 1 0 0 [0,1]
   exact then_n ⟨w64 (i3 + 1),hR1,hf,H⟩
  refine wp_exit (then_x (then_x (blk_e (?_))))
  have hf:=hf.pn [1,28,29,30]
  have H:=H.lk 1 0 0 [0,1]
  exact ⟨i3,(Option.some.inj hR1).symm,hf,H⟩
 rintro a w ⟨i4,rfl,hf,H⟩
 replace hF:=on_next hF
 refine then_n (sq ?_)
 obtain ⟨c6,hGc6,hF⟩:=bs_ hF
 have fh3:=hf.prune [] rfl
 have Hm3:=H.lk 0 0 0 []
 refine midF 2 (.bool c6) fh3 Hm3 ?_ fun a w hf H=>?_
 ·refine reg (pz 1 hf fun a hf=>?_)
  refine lB 0 hf H TF.ls24 fun a hf=>?_
  refine pz 1 hf fun a hf=>?_
  obtain ⟨y6,hy6,hGc6⟩:=bs_ hGc6
  refine oc hf TF.cl160 (impl_within_ok (S:=TT) mk_int mk_int mk_int hy6) fun v6 w a hp6 hf=>?_
  obtain ⟨hb6,hp6⟩:=hp6
  obtain rfl:=VR_bool hp6
  have H:=H.keep hb6
  refine pz 1 hf fun a hf=>?_
  refine iteB hGc6 (fun hc12 hGc6=>?_) fun hc12 hGc6=>?_
  ·have hf:=hf.lit 85 rfl hc12
   refine pz 1 hf fun a hf=>?_
   refine wlg hf rfl rfl rfl (op_q hf (rq_loadB hf H TF.ls25 0 rfl rfl rfl) rfl (by decide) fun a hf=>?_)
   refine pz 4 hf fun a hf=>?_
   obtain rfl:=oi hGc6
   have hf:=hf.pn [2]
   have H:=H.lk 0 0 0 []
   exact wl_end ⟨hf,H⟩
  have hf:=hf.lit 85 rfl hc12
  refine pz 6 hf fun a hf=>?_
  obtain rfl:=oi hGc6
  have hf:=hf.pn [2]
  have H:=H.lk 0 0 0 []
  exact wl_end ⟨hf,H⟩
 refine then_n (wp_ret (?_))
 obtain rfl:=oi hF
 refine rT hf ?_
 exact ⟨_,rfl,H.bel,mk_bool⟩
theorem impl_otherEnd_ok {S:Nat→Prop} {v0_:Value} {v1_:Value} {f:Fiber} {node:Int} {r:Int} (h0:VR w0 S v0_ f) (h1:VR w0 S v1_ node) (hF:impl_otherEnd fu f node=some r) :
    Calls Tryz.prog 162 [v0_,v1_].toArray w0 fun e w'=>∃ v,e=.returned v∧(Below w0.heap.size w0 w'∧VR w' (St ⟨w0,[]⟩ S [] [] [] true) v r):=by
 obtain rfl:=Fiber_open h0
 obtain rfl:=VR_int h1
 have H:=Mem.start ⟨w0,[]⟩ S
 refine en Tryz.func162 fun a hf=>?_
 rw [impl_otherEnd] at hF
 refine bx hf H fun b' a w hf H=>?_
 refine pz 1 hf fun a hf=>?_
 refine we (sqz (pz 1 hf fun a hf=>?_))
 refine wl_end (then_n (wp_block (sqz (pz 1 hf fun a hf=>?_))))
 refine lB 0 hf H TF.ls3 fun a hf=>?_
 refine pz 2 hf fun a hf=>?_
 refine wl_end (then_n (ib hF hf (fun hc hF=>?_) fun hc hF=>?_))
 ·refine sqz (pz 1 hf fun a hf=>?_)
  refine lB 0 hf H TF.ls3 fun a hf=>?_
  refine pz 1 hf fun a hf=>?_
  refine wl_end (then_n (wp_ret (blk_r (then_r (?_)))))
  obtain rfl:=oi hF
  refine rT hf ?_
  exact ⟨_,rfl,H.bel,mk_int⟩
 refine sqz (pz 1 hf fun a hf=>?_)
 refine lB 0 hf H TF.ls3 fun a hf=>?_
 refine pz 2 hf fun a hf=>?_
 refine wl_end (then_n (ib hF hf (fun hc2 hF=>?_) fun hc2 hF=>?_))
 ·refine sqz (pz 1 hf fun a hf=>?_)
  refine lB 0 hf H TF.ls3 fun a hf=>?_
  refine pz 1 hf fun a hf=>?_
  have hf:=hf.pn [4]
  refine wl_end (then_n (wp_ret (blk_r (then_r (?_)))))
  obtain rfl:=oi hF
  refine rT hf ?_
  exact ⟨_,rfl,H.bel,mk_int⟩
 refine wp_skip (blk_n (then_n (sqz (pz 1 hf fun a hf=>?_))))
 refine wer ?_
 obtain rfl:=oi hF
 refine rT hf ?_
 exact ⟨_,rfl,H.bel,mk_int⟩
theorem slices_Index_int_int_ok {S:Nat→Prop} {v0_:Value} {v1_:Value} {s':List Int} {v:Int} {r:Int} (h0:VR w0 S v0_ s') (h1:VR w0 S v1_ v) (hF:slices_Index_int_int fu s' v=some r) :
    Calls Tryz.prog 165 [v0_,v1_].toArray w0 fun e w'=>∃ v,e=.returned v∧(Below w0.heap.size w0 w'∧VR w' (St ⟨w0,[]⟩ S [] [] [] true) v r):=by
 obtain ⟨A,c,rfl,hl⟩:=VR_list h0
 obtain rfl:=VR_int h1
 have H:=Mem.start ⟨w0,[]⟩ S
 have H:=H.pA hl
 refine en Tryz.func165 fun a hf=>?_
 rw [slices_Index_int_int] at hF
 refine sqz (pz 1 hf fun a hf=>?_)
 refine we (sqz (pz 3 hf fun a hf=>?_))
 refine wl_end (then_n ?_)
 obtain ⟨out',hB1,hF⟩:=bs_ hF
 have hf:=hf.pn [0,1,7,8]
 have H:=H.lk 0 0 0 [0]
 refine loopC (fun (s:Int) (a:Act) (w:World)=>match s with | i=>Fr a 19 [(0,(.slice A s'.length c)),(1,(.int .i64 v)),(7,(.int .i64 (s'.length:Int))),(8,(.int .i64 i))]∧Mem ⟨w0,[]⟩ S [] [] [] [(false,MP.val [(.slice A s'.length c)] (s':List Int))] w) (fun k (s:Int)=>slices_Index_int_int_L1 fu s' v k s=some out') (fun s=>out'=Out.next s) 0 fu hB1 ⟨hf,H⟩ (fun s h=>by cases h) ?_ ?_
 ·rintro fk i a w hR1 hI
  replace hR1:slices_Index_int_int_L1 fu s' v (fk + 1) i=some out':=hR1
  rw [slices_Index_int_int_L1] at hR1
  obtain ⟨hf,H⟩:=hI
  refine sqz (pz 1 hf fun a hf=>?_)
  refine wl_end (then_n (sq (ib hR1 hf (fun hc hR1=>?_) fun hc hR1=>?_)))
  ·refine ws (pz 2 hf fun a hf=>?_)
   refine wr (pz 3 hf fun a hf=>?_)
   obtain ⟨e,he,hR1⟩:=bs_ hR1
   refine wl0 rfl (op_iaddr hf H Tryz.underlying35 TF.sz3 0 rfl rfl rfl he (by decide) fun p o cs a hf hr H=>?_)
   obtain rfl:=hr
   refine oq hf (rq_loadI hf H TF.ls3 0 0 rfl rfl rfl) fun a hf=>?_
   refine pz 1 hf fun a hf=>?_
   refine wl_end (then_n (ib hR1 hf (fun hc2 hR1=>?_) fun hc2 hR1=>?_))
   ·refine sqz (pz 2 hf fun a hf=>?_)
    have hf:=hf.pn [4]
    refine wl_end (then_n (wp_ret (blk_r (then_r (then_r (blk_r (then_r (then_r (?_)))))))))
    obtain rfl:=oi hR1
    replace hF:=on_ret hF
    obtain rfl:=oi hF
    refine rT hf ?_
    exact ⟨_,rfl,H.bel,mk_int⟩
   refine wp_skip (blk_n (then_n (reg (pz 2 hf fun a hf=>?_))))
   refine wl_end ?_
   have hf:=hf.pn [0,1,7,8]
   have H:=H.lk 0 0 0 [1]
   exact then_n ⟨w64 (i + 1),hR1,hf,H⟩
  refine wp_exit (then_x (then_x (blk_e (?_))))
  have hf:=hf.pn [0,1,7,8]
  have H:=H.lk 0 0 0 [0]
  exact ⟨i,(Option.some.inj hR1).symm,hf,H⟩
 rintro a w ⟨i2,rfl,hf,H⟩
 replace hF:=on_next hF
 refine then_n (sqz (pz 1 hf fun a hf=>?_))
 refine wer ?_
 obtain rfl:=oi hF
 refine rT hf ?_
 exact ⟨_,rfl,H.bel,mk_int⟩
theorem slices_Contains_int_int_ok {S:Nat→Prop} {v0_:Value} {v1_:Value} {s':List Int} {v:Int} {r:Bool} (h0:VR w0 S v0_ s') (h1:VR w0 S v1_ v) (hF:slices_Contains_int_int fu s' v=some r) :
    Calls Tryz.prog 72 [v0_,v1_].toArray w0 fun e w'=>∃ v,e=.returned v∧(Below w0.heap.size w0 w'∧VR w' (St ⟨w0,[]⟩ S [] [] [] true) v r):=by
 obtain ⟨A,c,rfl,hl⟩:=VR_list h0
 obtain rfl:=VR_int h1
 have H:=Mem.start ⟨w0,[]⟩ S
 have H:=H.pA hl
 refine en Tryz.func72 fun a hf=>?_
 rw [slices_Contains_int_int] at hF
 refine sqz (pz 1 hf fun a hf=>?_)
 refine wr (pz 2 hf fun a hf=>?_)
 obtain ⟨y,hy,hF⟩:=bs_ hF
 refine oc hf TF.cl165 (slices_Index_int_int_ok (S:=TT) (mk_list (H.rt 0 rfl)) mk_int hy) fun v2 w a hp hf=>?_
 obtain ⟨hb,hp⟩:=hp
 obtain rfl:=VR_int hp
 have H:=H.keep hb
 refine pz 2 hf fun a hf=>?_
 refine wer ?_
 obtain rfl:=oi hF
 refine rT hf ?_
 exact ⟨_,rfl,H.bel,mk_bool⟩
theorem impl_visited_ok {S:Nat→Prop} {v0_:Value} {v1_:Value} {n':Network} {r':Route} {r:List Int×Bool} (h0:VR w0 S v0_ n') (h1:VR w0 S v1_ r') (hF:impl_visited fu n' r'=some r) :
    Calls Tryz.prog 66 [v0_,v1_].toArray w0 fun e w'=>∃ v,e=.returned v∧(Below w0.heap.size w0 w'∧∃ F0,∃ u0 u1,v=.tuple #[u0,u1]∧VO w' F0 u0 r.1∧VR w' (St ⟨w0,[]⟩ S [] [] [] true) u1 r.2∧New w0 w' F0):=by
 obtain ⟨A,c,A2,c2,rfl,hl,hl2⟩:=Network_open h0
 obtain ⟨A3,c3,rfl,hl3⟩:=Route_open h1
 have H:=Mem.start ⟨w0,[]⟩ S
 have H:=H.pA hl
 have H:=H.pA hl2
 have H:=H.pA hl3
 refine en Tryz.func66 fun a hf=>?_
 rw [impl_visited] at hF
 refine bx hf H fun b' a w hf H=>?_
 refine wl0 rfl (op_box hf H rfl rfl (by decide) fun b2 a w hf H=>?_)
 refine pz 2 hf fun a hf=>?_
 refine wl_end (then_n (sq (sq ?_)))
 obtain ⟨c4,hGc4,hF⟩:=bs_ hF
 have fh:=hf.prune [2,3] rfl
 have Hm:=H.lm 3 0 0 3 7
 refine midF 23 (.bool c4) fh Hm ?_ fun a w hf H=>?_
 ·refine reg (pz 1 hf fun a hf=>?_)
  refine lB 0 hf H TF.ls3 fun a hf=>?_
  refine pz 1 hf fun a hf=>?_
  refine lB 1 hf H TF.ls24 fun a hf=>?_
  refine pz 2 hf fun a hf=>?_
  obtain ⟨y,hy,hGc4⟩:=bs_ hGc4
  refine oc hf TF.cl160 (impl_within_ok (S:=TT) mk_int mk_int mk_int hy) fun v w a hp hf=>?_
  obtain ⟨hb,hp⟩:=hp
  obtain rfl:=VR_bool hp
  have H:=H.keep hb
  refine pz 2 hf fun a hf=>?_
  refine iteB hGc4 (fun hc hGc4=>?_) fun hc hGc4=>?_
  ·have hf:=hf.lit 18 rfl hc
   refine pz 5 hf fun a hf=>?_
   obtain rfl:=oi hGc4
   have hf:=hf.pn [23,2,3]
   have H:=H.lm 3 0 0 3 7
   exact wl_end ⟨hf,H⟩
  have hf:=hf.lit 18 rfl hc
  refine pz 1 hf fun a hf=>?_
  refine wlg hf rfl rfl rfl (op_q hf (rq_loadB hf H TF.ls35 0 rfl rfl rfl) rfl (by decide) fun a hf=>?_)
  refine pz 3 hf fun a hf=>?_
  obtain rfl:=oi hGc4
  have hf:=hf.pn [23,2,3]
  have H:=H.lm 3 0 0 3 7
  exact wl_end ⟨hf,H⟩
 refine then_n (ib hF hf (fun hc2 hF=>?_) fun hc2 hF=>?_)
 ·refine sqz (pz 2 hf fun a hf=>?_)
  refine wl_end (then_n (wp_ret (then_r (?_))))
  have H:=H.ownNil (Int)
  have H:=H.lend 0 rfl
  obtain rfl:=oi hF
  refine ret_2 hf rfl (rv_tmp hf rfl) (rv_tmp hf rfl) ?_
  have hN:=H.ends1
  exact ⟨_,rfl,H.bel,[],_,_,rfl,(mko_list (H.ownAt 0 rfl)),mk_bool,by first | exact hN | simpa using hN⟩
 refine wp_skip (then_n (sq (dw [] 7 fun w hb=>?_)))
 have H:=H.keep hb
 refine zp 0 hf trivial fun a hf=>?_
 refine strT (H.lk 1 0 0 []) (fun w H=>trivial) fun hS=>?_
 refine zS 1 [] rfl rfl rfl rfl hf hS (fun w H=>rq_loadB hf H TF.ls3 0 rfl rfl rfl) fun a hf=>?_
 refine zp 3 hf hS fun a hf=>?_
 refine zS 4 [] rfl rfl rfl rfl hf hS (fun w H=>rq_loadB hf H TF.ls3 0 rfl rfl rfl) fun a hf=>?_
 refine nn 2 rfl (bl hf H 3 ([r'.Start]:List Int) [(.int .i64 r'.Start)] (el1 (y:=r'.Start) (rfl)) fun A4 a w hf H=>?_)
 have hS:=H.lk 1 0 0 []
 refine aS hS ?_
 refine zp 5 hf hS fun a hf=>?_
 refine zp 6 hf hS fun a hf=>?_
 refine dk ?_
 refine then_n (sq (sqz (pz 1 hf fun a hf=>?_)))
 refine lB 0 hf H TF.ls35 fun a hf=>?_
 refine pz 2 hf fun a hf=>?_
 refine wl_end (then_n ?_)
 obtain ⟨out2,hB1,hF⟩:=bs_ hF
 have hf:=hf.pn [2,6,7,30,31,32]
 have H:=H.lm 2 1 0 3 7
 refine loopC (fun (s:List Int×Int×Int) (a:Act) (w:World)=>match s with | (out',at',i)=>∃ (A5:Option Addr) (c5:Nat) (E:Go.TypeId),Fr a 63 [(2,(.pointer (some ⟨b',0,none⟩))),(6,(.slice A5 out'.length c5)),(7,(.int .i64 at')),(30,(.slice A3 r'.Fibers.length c3)),(31,(.int .i64 (r'.Fibers.length:Int))),(32,(.int .i64 i))]∧Mem ⟨w0,[]⟩ S [⟨b',27,[(.slice A n'.Nodes.length c),(.slice A2 n'.Fibers.length c2)]⟩] [⟨.sh true,E,A5,c5,(out':List Int)⟩] [] [(false,MP.val [(.slice A3 r'.Fibers.length c3)] (r'.Fibers:List Int)),(false,MP.val [(.slice A2 n'.Fibers.length c2)] (n'.Fibers:List Fiber)),(false,MP.val [(.slice A n'.Nodes.length c)] (n'.Nodes:List ByteArray))] w) (fun k (s:List Int×Int×Int)=>impl_visited_L1 fu n' r' k s.1 s.2.1 s.2.2=some out2) (fun s=>out2=Out.next s) ([r'.Start],r'.Start,0) fu hB1 ⟨A4,1,3,hf,H⟩ (fun s h=>by cases h) ?_ ?_
 ·rintro fk ⟨out',at',i⟩ a w hR1 hI
  replace hR1:impl_visited_L1 fu n' r' (fk + 1) out' at' i=some out2:=hR1
  rw [impl_visited_L1] at hR1
  obtain ⟨A5,c5,E,hf,H⟩:=hI
  refine sqz (pz 1 hf fun a hf=>?_)
  refine wl_end (then_n (sq (ib hR1 hf (fun hc3 hR1=>?_) fun hc3 hR1=>?_)))
  ·refine wp_skip (then_n (sq (wp_block (sq (reg ?_)))))
   obtain ⟨e,he,hR1⟩:=bs_ hR1
   refine wl0 rfl (op_iaddr hf H Tryz.underlying35 TF.sz3 0 rfl rfl rfl he (by decide) fun p o cs a hf hr H=>?_)
   obtain rfl:=hr
   refine oq hf (rq_loadI hf H TF.ls3 0 0 rfl rfl rfl) fun a hf=>?_
   refine pz 1 hf fun a hf=>?_
   refine we (sqz (pz 2 hf fun a hf=>?_))
   refine lB 0 hf H TF.ls25 fun a hf=>?_
   refine pz 2 hf fun a hf=>?_
   obtain ⟨y2,hy2,hR1⟩:=bs_ hR1
   refine oc hf TF.cl160 (impl_within_ok (S:=TT) mk_int mk_int mk_int hy2) fun v2 w a hp2 hf=>?_
   obtain ⟨hb2,hp2⟩:=hp2
   obtain rfl:=VR_bool hp2
   have H:=H.keep hb2
   refine pz 1 hf fun a hf=>?_
   refine wl_end (then_n (ib hR1 hf (fun hc4 hR1=>?_) fun hc4 hR1=>?_))
   ·refine sqz (pz 2 hf fun a hf=>?_)
    have hf:=hf.pn [4,5]
    refine wl_end (then_n (wp_ret (then_r (blk_r (then_r (then_r (blk_r (then_r (then_r (?_))))))))))
    have H:=H.ownNil (Int)
    have H:=H.lend 0 rfl
    obtain rfl:=oi hR1
    replace hF:=on_ret hF
    obtain rfl:=oi hF
    refine ret_2 hf rfl (rv_tmp hf rfl) (rv_tmp hf rfl) ?_
    have hN:=H.ends1
    exact ⟨_,rfl,H.bel,[],_,_,rfl,(mko_list (H.ownAt 0 rfl)),mk_bool,by first | exact hN | simpa using hN⟩
   refine wp_skip (then_n (sqz (pz 1 hf fun a hf=>?_)))
   refine lB 0 hf H TF.ls25 fun a hf=>?_
   refine pz 1 hf fun a hf=>?_
   obtain ⟨e2,he2,hR1⟩:=bs_ hR1
   refine wl0 rfl (op_iaddr hf H Tryz.underlying25 TF.sz180 2 rfl rfl rfl he2 (by decide) fun p2 o2 cs2 a hf hr2 H=>?_)
   obtain rfl:=Fiber_cells hr2
   refine oq hf (rq_loadIN hf H TF.la180 0 0 rfl rfl rfl rfl) fun a hf=>?_
   refine pz 1 hf fun a hf=>?_
   obtain ⟨y3,hy3,hR1⟩:=bs_ hR1
   refine oc hf TF.cl162 (impl_otherEnd_ok (S:=TT) Fiber_mkv mk_int hy3) fun v3 w a hp3 hf=>?_
   obtain ⟨hb3,hp3⟩:=hp3
   obtain rfl:=VR_int hp3
   have H:=H.keep hb3
   refine pz 1 hf fun a hf=>?_
   have hf:=hf.pn [2,6,7,30,31,32]
   refine wl_end (then_n (sq (sq ?_)))
   obtain ⟨c6,hGc6,hR1⟩:=bs_ hR1
   have fh2:=hf.prune [2,6,7,30,31,32] rfl
   have Hm2:=H.lm 1 1 0 5 28
   refine midF 56 (.bool c6) fh2 Hm2 ?_ fun a w hf H=>?_
   ·refine reg (pz 3 hf fun a hf=>?_)
    refine iteB hGc6 (fun hc5 hGc6=>?_) fun hc5 hGc6=>?_
    ·have hf:=hf.lit 52 rfl hc5
     refine pz 4 hf fun a hf=>?_
     obtain rfl:=oi hGc6
     have hf:=hf.pn [56,2,6,7,30,31,32]
     have H:=H.lm 1 1 0 5 28
     exact wl_end ⟨hf,H⟩
    have hf:=hf.lit 52 rfl hc5
    refine pz 2 hf fun a hf=>?_
    obtain ⟨y4,hy4,hGc6⟩:=bs_ hGc6
    refine wlg hf rfl rfl rfl (oC hf TF.cl72 (slices_Contains_int_int_ok (S:=TT) (mk_list (H.rowTrue 0 rfl)) mk_int hy4) fun v4 w a hp4 hf=>?_)
    obtain ⟨hb4,hp4⟩:=hp4
    obtain rfl:=VR_bool hp4
    have H:=H.keep hb4
    refine pz 1 hf fun a hf=>?_
    obtain rfl:=oi hGc6
    have hf:=hf.pn [56,2,6,7,30,31,32]
    have H:=H.lm 1 1 0 5 28
    exact wl_end ⟨hf,H⟩
   refine then_n (ib hR1 hf (fun hc6 hR1=>?_) fun hc6 hR1=>?_)
   ·refine sqz (pz 2 hf fun a hf=>?_)
    refine wl_end (then_n (wp_ret (then_r (blk_r (then_r (then_r (blk_r (then_r (then_r (?_))))))))))
    have H:=H.ownNil (Int)
    have H:=H.lend 0 rfl
    obtain rfl:=oi hR1
    replace hF:=on_ret hF
    obtain rfl:=oi hF
    refine ret_2 hf rfl (rv_tmp hf rfl) (rv_tmp hf rfl) ?_
    have hN:=H.ends1
    exact ⟨_,rfl,H.bel,[],_,_,rfl,(mko_list (H.ownAt 0 rfl)),mk_bool,by first | exact hN | simpa using hN⟩
   refine wp_skip (then_n (reg (pz 2 hf fun a hf=>?_)))
   refine wl0 rfl (bl hf H 3 ([y3]:List Int) [(.int .i64 y3)] (el1 (y:=y3) (rfl)) fun A6 a w hf H=>?_)
   obtain ⟨l,hl_,hR1⟩:=bs_ hR1
   refine wl0 rfl (op_appR hf H Tryz.underlying35 TF.ai3 rfl (by decide) 1 0 rfl rfl rfl rfl (.inr rfl) hl_ (by decide) fun E2 A7 c7 a w hf H=>?_)
   refine pz 1 hf fun a hf=>?_
   refine wl_end (blk_n (then_n (reg (pz 2 hf fun a hf=>?_))))
   refine wl_end ?_
   have hf:=hf.pn [2,6,7,30,31,32]
   have H:=H.lm 1 2 0 3 7
   exact then_n ⟨(l,y3,w64 (i + 1)),hR1,A7,c7,E2,hf,H⟩
  refine wp_exit (then_x (then_x (blk_e (?_))))
  have hf:=hf.pn [2,6,7,30,31,32]
  have H:=H.lm 1 1 0 3 7
  exact ⟨(out',at',i),(Option.some.inj hR1).symm,A5,c5,E,hf,H⟩
 rintro a w ⟨⟨out3,at2,i2⟩,rfl,A8,c8,E3,hf,H⟩
 replace hF:=on_next hF
 try dsimp only at hF
 refine then_n (sqz (pz 3 hf fun a hf=>?_))
 refine wer ?_
 have H:=H.rowOwn 0 rfl rfl
 obtain ⟨F,H⟩:=H.freezeOwn 0 rfl
 have H:=H.lend 0 rfl
 obtain rfl:=oi hF
 refine ret_2 hf rfl (rv_tmp hf rfl) (rv_tmp hf rfl) ?_
 have hN:=H.ends1
 exact ⟨_,rfl,H.bel,F,_,_,rfl,(mko_list (H.ownAt 0 rfl)),mk_bool,by first | exact hN | simpa using hN⟩
theorem impl_IsValidBlock_ok {S:Nat→Prop} {v0_:Value} {b':Block} {r:Bool} (h0:VR w0 S v0_ b') (hF:impl_IsValidBlock fu b'=some r) :
    Calls Tryz.prog 166 [v0_].toArray w0 fun e w'=>∃ v,e=.returned v∧(Below w0.heap.size w0 w'∧VR w' (St ⟨w0,[]⟩ S [] [] [] true) v r):=by
 obtain rfl:=Block_open h0
 have H:=Mem.start ⟨w0,[]⟩ S
 refine en Tryz.func166 fun a hf=>?_
 rw [impl_IsValidBlock] at hF
 refine bx hf H fun b2 a w hf H=>?_
 refine pz 1 hf fun a hf=>?_
 refine wl_end (then_n (sq ?_))
 obtain ⟨c,hGc,hF⟩:=bs_ hF
 have fh:=hf.prune [] rfl
 have Hm:=H.lk 0 0 0 []
 refine midF 2 (.bool c) fh Hm ?_ fun a w hf H=>?_
 ·refine reg (pz 1 hf fun a hf=>?_)
  refine lB 0 hf H TF.ls3 fun a hf=>?_
  refine pz 2 hf fun a hf=>?_
  refine iteB hGc (fun hc hGc=>?_) fun hc hGc=>?_
  ·have hf:=hf.lit 6 rfl hc
   refine pz 1 hf fun a hf=>?_
   refine wlg hf rfl rfl rfl (op_q hf (rq_loadB hf H TF.ls3 0 rfl rfl rfl) rfl (by decide) fun a hf=>?_)
   obtain ⟨y,hy,hGc⟩:=bs_ hGc
   refine wlg hf rfl rfl rfl (oC hf TF.cl160 (impl_within_ok (S:=TT) mk_int mk_int mk_int hy) fun v w a hp hf=>?_)
   obtain ⟨hb,hp⟩:=hp
   obtain rfl:=VR_bool hp
   have H:=H.keep hb
   refine pz 2 hf fun a hf=>?_
   refine iteB hGc (fun hc2 hGc=>?_) fun hc2 hGc=>?_
   ·have hf:=hf.lit 11 rfl hc2
    refine pz 1 hf fun a hf=>?_
    refine wlg hf rfl rfl rfl (op_q hf (rq_loadB hf H TF.ls3 0 rfl rfl rfl) rfl (by decide) fun a hf=>?_)
    refine pz 1 hf fun a hf=>?_
    refine wlg hf rfl rfl rfl (op_q hf (rq_loadB hf H TF.ls3 0 rfl rfl rfl) rfl (by decide) fun a hf=>?_)
    refine pz 4 hf fun a hf=>?_
    obtain rfl:=oi hGc
    have hf:=hf.pn [2]
    have H:=H.lk 0 0 0 []
    exact wl_end ⟨hf,H⟩
   have hf:=hf.lit 11 rfl hc2
   refine pz 8 hf fun a hf=>?_
   obtain rfl:=oi hGc
   have hf:=hf.pn [2]
   have H:=H.lk 0 0 0 []
   exact wl_end ⟨hf,H⟩
  have hf:=hf.lit 6 rfl hc
  refine pz 13 hf fun a hf=>?_
  obtain rfl:=oi hGc
  have hf:=hf.pn [2]
  have H:=H.lk 0 0 0 []
  exact wl_end ⟨hf,H⟩
 refine then_n (wp_ret (?_))
 obtain rfl:=oi hF
 refine rT hf ?_
 exact ⟨_,rfl,H.bel,mk_bool⟩
theorem impl_isLight_ok {S:Nat→Prop} {v0_:Value} {v1_:Value} {n':Network} {x1:Light} {r:Bool} (h0:VR w0 S v0_ n') (h1:VR w0 S v1_ x1) (hF:impl_isLight fu n' x1=some r) :
    Calls Tryz.prog 74 [v0_,v1_].toArray w0 fun e w'=>∃ v,e=.returned v∧(Below w0.heap.size w0 w'∧VR w' (St ⟨w0,[]⟩ S [] [] [] true) v r):=by
 obtain ⟨A,c,A2,c2,rfl,hl,hl2⟩:=Network_open h0
 obtain ⟨A3,c3,rfl,hl3⟩:=Light_open h1
 have H:=Mem.start ⟨w0,[]⟩ S
 have H:=H.pA hl
 have H:=H.pA hl2
 have H:=H.pA hl3
 refine en Tryz.func74 fun a hf=>?_
 rw [impl_isLight] at hF
 refine bx hf H fun b' a w hf H=>?_
 refine wl0 rfl (op_box hf H rfl rfl (by decide) fun b2 a w hf H=>?_)
 refine pz 1 hf fun a hf=>?_
 refine wr (lN 1 hf H TF.la27 fun a hf=>?_)
 refine pz 1 hf fun a hf=>?_
 refine lN 0 hf H TF.la45 fun a hf=>?_
 obtain ⟨y,hy,hF⟩:=bs_ hF
 refine oc hf TF.cl66 (impl_visited_ok (S:=TT) (Network_mkv (x:=n') (H.rt 2 rfl) (H.rt 1 rfl)) (Route_mkv (x:=x1.Route) (H.rt 0 rfl)) hy) fun v w a hp hf=>?_
 obtain ⟨hb,F,v2,v3,rfl,hp2,hp3,hN⟩:=hp
 obtain ⟨A4,c4,rfl,hl4⟩:=VO_list hp2
 obtain rfl:=VR_bool hp3
 have H:=H.aO1 hb hN hl4
 have H:=H.lend 0 rfl
 refine pz 5 hf fun a hf=>?_
 refine wl_end (then_n (sq ?_))
 obtain ⟨c5,hGc5,hF⟩:=bs_ hF
 have fh:=hf.prune [] rfl
 have Hm:=H.lk 0 0 0 []
 refine midF 4 (.bool c5) fh Hm ?_ fun a w hf H=>?_
 ·refine reg (pz 2 hf fun a hf=>?_)
  refine iteB hGc5 (fun hc hGc5=>?_) fun hc hGc5=>?_
  ·have hf:=hf.lit 15 rfl hc
   refine pz 1 hf fun a hf=>?_
   refine wlg hf rfl rfl rfl (op_q hf (rq_loadB hf H TF.ls3 0 rfl rfl rfl) rfl (by decide) fun a hf=>?_)
   obtain ⟨y2,hy2,hGc5⟩:=bs_ hGc5
   refine wlg hf rfl rfl rfl (oC hf TF.cl160 (impl_within_ok (S:=TT) mk_int mk_int mk_int hy2) fun v4 w a hp4 hf=>?_)
   obtain ⟨hb2,hp4⟩:=hp4
   obtain rfl:=VR_bool hp4
   have H:=H.keep hb2
   refine pz 2 hf fun a hf=>?_
   refine iteB hGc5 (fun hc2 hGc5=>?_) fun hc2 hGc5=>?_
   ·have hf:=hf.lit 20 rfl hc2
    refine pz 1 hf fun a hf=>?_
    refine wlg hf rfl rfl rfl (op_q hf (rq_loadBN hf H TF.la47 0 rfl rfl rfl rfl) rfl (by decide) fun a hf=>?_)
    obtain ⟨y3,hy3,hGc5⟩:=bs_ hGc5
    refine wlg hf rfl rfl rfl (oC hf TF.cl166 (impl_IsValidBlock_ok (S:=TT) Block_mkv hy3) fun v5 w a hp5 hf=>?_)
    obtain ⟨hb3,hp5⟩:=hp5
    obtain rfl:=VR_bool hp5
    have H:=H.keep hb3
    refine pz 2 hf fun a hf=>?_
    obtain rfl:=oi hGc5
    have hf:=hf.pn [4]
    have H:=H.lk 0 0 0 []
    exact wl_end ⟨hf,H⟩
   have hf:=hf.lit 20 rfl hc2
   refine pz 5 hf fun a hf=>?_
   obtain rfl:=oi hGc5
   have hf:=hf.pn [4]
   have H:=H.lk 0 0 0 []
   exact wl_end ⟨hf,H⟩
  have hf:=hf.lit 15 rfl hc
  refine pz 10 hf fun a hf=>?_
  obtain rfl:=oi hGc5
  have hf:=hf.pn [4]
  have H:=H.lk 0 0 0 []
  exact wl_end ⟨hf,H⟩
 refine then_n (wp_ret (?_))
 obtain rfl:=oi hF
 refine rT hf ?_
 exact ⟨_,rfl,H.bel,mk_bool⟩
theorem impl_maskOf_ok {S:Nat→Prop} {v0_:Value} {b':Block} {r:Int} (h0:VR w0 S v0_ b') (hF:impl_maskOf fu b'=some r) :
    Calls Tryz.prog 167 [v0_].toArray w0 fun e w'=>∃ v,e=.returned v∧(Below w0.heap.size w0 w'∧VR w' (St ⟨w0,[]⟩ S [] [] [] true) v r):=by
 obtain rfl:=Block_open h0
 have H:=Mem.start ⟨w0,[]⟩ S
 refine en Tryz.func167 fun a hf=>?_
 rw [impl_maskOf] at hF
 refine bx hf H fun b2 a w hf H=>?_
 refine pz 1 hf fun a hf=>?_
 refine wl_end (then_n (sq (dw [] 8 fun w hb=>?_)))
 have H:=H.keep hb
 refine zp 0 hf trivial fun a hf=>?_
 refine strT H (fun w H=>trivial) fun hS=>?_
 refine zS 1 [] rfl rfl rfl rfl hf hS (fun w H=>rq_loadB hf H TF.ls3 0 rfl rfl rfl) fun a hf=>?_
 obtain ⟨q,hq,hF⟩:=bs_ hF
 refine zP 2 rfl rfl rfl rfl hf hS (fun w=>rq_shl hf rfl rfl hq) fun a hf=>?_
 refine zp 3 hf hS fun a hf=>?_
 refine zp 4 hf hS fun a hf=>?_
 refine zS 5 [] rfl rfl rfl rfl hf hS (fun w H=>rq_loadB hf H TF.ls3 0 rfl rfl rfl) fun a hf=>?_
 obtain ⟨q2,hq2,hF⟩:=bs_ hF
 refine zP 6 rfl rfl rfl rfl hf hS (fun w=>rq_shl hf rfl rfl hq2) fun a hf=>?_
 refine zp 7 hf hS fun a hf=>?_
 refine dk ?_
 refine then_n (wp_ret (?_))
 obtain rfl:=oi hF
 refine rT hf ?_
 exact ⟨_,rfl,H.bel,mk_int⟩
theorem math_bits_Len64_ok {S:Nat→Prop} {v0_:Value} {x1:U64} {r:Int} (h0:VR w0 S v0_ x1) (hF:math_bits_Len64 fu x1=some r) :
    Calls Tryz.prog 281 [v0_].toArray w0 fun e w'=>∃ v,e=.returned v∧(Below w0.heap.size w0 w'∧VR w' (St ⟨w0,[]⟩ S [] [] [] true) v r):=by
 obtain rfl:=VR_u64 h0
 have H:=Mem.start ⟨w0,[]⟩ S
 refine en Tryz.func281 fun a hf=>?_
 rw [math_bits_Len64] at hF
 refine sqz (pz 1 hf fun a hf=>?_)
 refine we (sqz (pz 1 hf fun a hf=>?_))
 refine oq hf (rq_geK hf rfl rfl) fun a hf=>?_
 refine wl_end (then_n (ib hF hf (fun hc hF=>?_) fun hc hF=>?_))
 ·cases hF
 refine wp_skip (then_n (sq (sqz (pz 1 hf fun a hf=>?_))))
 refine oq hf (rq_geK hf rfl rfl) fun a hf=>?_
 refine wl_end (then_n (ib hF hf (fun hc2 hF=>?_) fun hc2 hF=>?_))
 ·cases hF
 refine wp_skip (then_n (sq (sqz (pz 1 hf fun a hf=>?_))))
 refine oq hf (rq_geK hf rfl rfl) fun a hf=>?_
 refine wl_end (then_n (ib hF hf (fun hc3 hF=>?_) fun hc3 hF=>?_))
 ·cases hF
 refine wp_skip (then_n (sqz (pz 2 hf fun a hf=>?_)))
 refine oq hf (rq_conv u8w Tryz.underlying107 Tryz.underlying5 hf rfl) fun a hf=>?_
 obtain ⟨e,he,hF⟩:=bs_ hF
 refine oq hf (rq_indexS hf Tryz.underlying9 rfl rfl he) fun a hf=>?_
 refine oq hf (rq_conv i64w Tryz.underlying5 Tryz.underlying3 hf rfl) fun a hf=>?_
 refine pz 2 hf fun a hf=>?_
 have hf:=hf.pn [2]
 refine wer ?_
 obtain rfl:=oi hF
 refine rT hf ?_
 exact ⟨_,rfl,H.bel,mk_int⟩
theorem math_bits_Len_ok {S:Nat→Prop} {v0_:Value} {x1:U64} {r:Int} (h0:VR w0 S v0_ x1) (hF:math_bits_Len fu x1=some r) :
    Calls Tryz.prog 218 [v0_].toArray w0 fun e w'=>∃ v,e=.returned v∧(Below w0.heap.size w0 w'∧VR w' (St ⟨w0,[]⟩ S [] [] [] true) v r):=by
 obtain rfl:=VR_u64 h0
 have H:=Mem.start ⟨w0,[]⟩ S
 refine en Tryz.func218 fun a hf=>?_
 rw [math_bits_Len] at hF
 refine sqz (pz 1 hf fun a hf=>?_)
 refine wl_end (then_n (sq (cd_f hf rfl rfl (wp_skip (then_n (sqz (pz 1 hf fun a hf=>?_)))))))
 obtain ⟨y,hy,hF⟩:=bs_ hF
 refine oc hf TF.cl281 (math_bits_Len64_ok (S:=TT) mk_u64 hy) fun v w a hp hf=>?_
 obtain ⟨hb,hp⟩:=hp
 obtain rfl:=VR_int hp
 have H:=H.keep hb
 refine pz 1 hf fun a hf=>?_
 refine wer ?_
 obtain rfl:=oi hF
 refine rT hf ?_
 exact ⟨_,rfl,H.bel,mk_int⟩
theorem cmp_Less_int_ok {S:Nat→Prop} {v0_:Value} {v1_:Value} {x1:Int} {y:Int} {r:Bool} (h0:VR w0 S v0_ x1) (h1:VR w0 S v1_ y) (hF:cmp_Less_int fu x1 y=some r) :
    Calls Tryz.prog 277 [v0_,v1_].toArray w0 fun e w'=>∃ v,e=.returned v∧(Below w0.heap.size w0 w'∧VR w' (St ⟨w0,[]⟩ S [] [] [] true) v r):=by
 obtain rfl:=VR_int h0
 obtain rfl:=VR_int h1
 have H:=Mem.start ⟨w0,[]⟩ S
 refine en Tryz.func277 fun a hf=>?_
 rw [cmp_Less_int] at hF
 refine sqz (pz 1 hf fun a hf=>?_)
 refine wl_end (then_n (sq ?_))
 obtain ⟨c,hGc,hF⟩:=bs_ hF
 have fh:=hf.prune [] rfl
 have Hm:=H.lk 0 0 0 []
 refine midF 4 (.bool c) fh Hm ?_ fun a w hf H=>?_
 ·refine reg (pz 1 hf fun a hf=>?_)
  obtain ⟨y2,hy2,hGc⟩:=bs_ hGc
  refine oc hf TF.cl225 (cmp_isNaN_int_ok (S:=TT) mk_int hy2) fun v w a hp hf=>?_
  obtain ⟨hb,hp⟩:=hp
  obtain rfl:=VR_bool hp
  have H:=H.keep hb
  refine pz 1 hf fun a hf=>?_
  refine iteB hGc (fun hc hGc=>?_) fun hc hGc=>?_
  ·have hf:=hf.lit 7 rfl hc
   refine pz 1 hf fun a hf=>?_
   obtain ⟨y3,hy3,hGc⟩:=bs_ hGc
   refine wlg hf rfl rfl rfl (oC hf TF.cl225 (cmp_isNaN_int_ok (S:=TT) mk_int hy3) fun v2 w a hp2 hf=>?_)
   obtain ⟨hb2,hp2⟩:=hp2
   obtain rfl:=VR_bool hp2
   have H:=H.keep hb2
   refine pz 3 hf fun a hf=>?_
   refine iteB hGc (fun hc2 hGc=>?_) fun hc2 hGc=>?_
   ·have hf:=hf.lit 12 rfl hc2
    refine pz 5 hf fun a hf=>?_
    obtain rfl:=oi hGc
    have hf:=hf.pn [4]
    have H:=H.lk 0 0 0 []
    exact wl_end ⟨hf,H⟩
   have hf:=hf.lit 12 rfl hc2
   refine pz 5 hf fun a hf=>?_
   obtain rfl:=oi hGc
   have hf:=hf.pn [4]
   have H:=H.lk 0 0 0 []
   exact wl_end ⟨hf,H⟩
  have hf:=hf.lit 7 rfl hc
  refine pz 10 hf fun a hf=>?_
  obtain rfl:=oi hGc
  have hf:=hf.pn [4]
  have H:=H.lk 0 0 0 []
  exact wl_end ⟨hf,H⟩
 refine then_n (wp_ret (?_))
 obtain rfl:=oi hF
 refine rT hf ?_
 exact ⟨_,rfl,H.bel,mk_bool⟩
end AT
