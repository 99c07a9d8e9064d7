/- The Go functions do what is told of them, by program (gen.py). -/
import Derived.Test.YtlemonjnolciiaaGreatWFnReverting0
set_option linter.unusedVariables false
set_option linter.unusedSimpArgs false
set_option maxRecDepth 100000
set_option maxHeartbeats 1000000
namespace AT
open Go Go.RowKit Go.Proofs
variable {fu:Nat} {w0:World}
theorem spec_l1Cur_plan_ok {S:Nat→Prop} {b0:Nat} {cs0:List Value} {c:L1CurP} {r:Plan×L1CurP} (hp0:w0.heap[b0]?=some (.cells cs0.toArray 109 (0,0))) (hr0:GoTy.rep w0 S cs0 c) (hS0:¬S b0) (hF:spec_l1Cur_plan fu c=some r) :
    Calls Tryz.prog 141 [(.pointer (some ⟨b0,0,none⟩))].toArray w0 fun e w'=>∃ v,e=.returned v∧(∃ cs',GoTy.rep w' (fun _=>True) cs' r.2∧(cs'[0]?=cs0[0]?∧r.2.code=c.code)∧(∃ (A0_0:Option Addr) (c0_0:Nat) (F0_0:List Nat) (A0_1:Option Addr) (c0_1:Nat) (F0_1:List Nat) (A0_2:Option Addr) (c0_2:Nat) (E0_2:Go.TypeId),v=(.agg #[(.slice A0_0 r.1.Network.Nodes.length c0_0),(.slice A0_1 r.1.Network.Fibers.length c0_1),(.slice A0_2 r.1.Lights.length c0_2)])∧Mem ⟨w0,[b0]⟩ S [⟨b0,109,cs'⟩] [⟨.sh true,E0_2,A0_2,c0_2,(r.1.Lights:List Light)⟩] [⟨F0_0,MP.own F0_0 [(.slice A0_0 r.1.Network.Nodes.length c0_0)] (r.1.Network.Nodes:List ByteArray)⟩,⟨F0_1,MP.own F0_1 [(.slice A0_1 r.1.Network.Fibers.length c0_1)] (r.1.Network.Fibers:List Fiber)⟩] [] w')):=by
 obtain ⟨A,c2,rfl,hl⟩:=L1CurP_cells hr0
 have H:=Mem.startB S hp0
 have H:=H.pB hS0 hl
 refine en Tryz.func141 fun a hf=>?_
 rw [spec_l1Cur_plan] at hF
 refine sq (reg (aL hf H TF.zv30 fun b2 a w hf H=>?_))
 refine wr (pz 1 hf fun a hf=>?_)
 obtain ⟨y,hy,hF⟩:=bs_ hF
 refine oc hf TF.cl226 (spec_l1Cur_linked_ok (S:=NB b0) (H.boxAt 1 rfl) ((L1CurP_mk (x:=c) (H.nb 1 rfl (H.get 0 rfl)))) (fun h=>h rfl) hy) fun v w a hp2 hf=>?_
 obtain ⟨hch,cs2,hbx,hr2,⟨hx,hx2⟩,hs⟩:=hp2
 obtain ⟨F,hp3,hN⟩:=hs
 obtain ⟨A2,c3,F2,A3,c4,F3,rfl,rfl,hl2,hl3⟩:=Network_vo hp3
 obtain ⟨A4,c5,rfl,hl4⟩:=L1CurP_cells hr2
 obtain ⟨rfl,rfl⟩:=fx_slice hx rfl rfl
 have H:=H.bO2 1 rfl hch hbx hN hl2 hl3
 have H:=H.pX 0 rfl hx2
 have H:=H.lend 0 rfl
 have H:=H.lend 1 rfl
 refine oq hf (rq_build hf (cs:=[(.slice A2 y.1.Nodes.length c3),(.slice A3 y.1.Fibers.length c4),(.slice none 0 0)]) rfl (fun w=>by kernel_rfl)) fun a hf=>?_
 refine aL hf H TF.zv30 fun b3 a w hf H=>?_
 refine sB 0 hf H TF.sz30 fun w H=>?_
 refine we (sqz (pz 1 hf fun a hf=>?_))
 obtain ⟨y2,hy2,hF⟩:=bs_ hF
 refine oc hf TF.cl121 (spec_l1Cur_pick_ok (S:=NB b0) (H.boxAt 2 rfl) ((L1CurP_mk (x:=y.2) (H.nb 2 rfl (H.get 2 rfl)))) (fun h=>h rfl) mk_int hy2) fun v2 w a hp4 hf=>?_
 obtain ⟨hch2,cs3,hbx2,hr3,⟨hx3,hx4⟩,hs2⟩:=hp4
 obtain rfl:=VR_int hs2
 obtain ⟨A5,c6,rfl,hl5⟩:=L1CurP_cells hr3
 obtain ⟨rfl,rfl⟩:=fx_slice hx3 rfl rfl
 have hx5:=hx4.trans hx2
 have H:=H.wroteBox 2 rfl hch2 hbx2
 have H:=H.pX 2 rfl hx4
 refine pz 1 hf fun a hf=>?_
 refine wl_end (then_n ?_)
 have H:=H.nilRow (Light) (.ow []) rfl rfl 49
 have H:=H.rowSh 0 rfl
 obtain ⟨out',hB1,hF⟩:=bs_ hF
 have hf:=hf.pn [0,2,3,4]
 have H:=H.frontD 1 rfl
 have H:=H.lm 7 1 3 3 7
 refine loopC (fun (s:Int×List ByteArray×List Fiber×List Light×List By×Int×U64) (a:Act) (w:World)=>match s with | (n',m,m2,m3,m4,m5,m6)=>∃ (A6:Option Addr) (c7:Nat) (F4:List Nat) (A7:Option Addr) (c8:Nat) (F5:List Nat) (A8:Option Addr) (c9:Nat) (E:Go.TypeId),m4=c.code∧Fr a 61 [(0,(.pointer (some ⟨b0,0,none⟩))),(2,(.pointer (some ⟨b2,0,none⟩))),(3,(.pointer (some ⟨b3,0,none⟩))),(4,(.int .i64 n'))]∧Mem ⟨w0,[b0]⟩ S [⟨b3,30,[(.slice A6 m.length c7),(.slice A7 m2.length c8),(.slice A8 m3.length c9)]⟩,⟨b2,30,[(.slice none 0 0),(.slice none 0 0),(.slice none 0 0)]⟩,⟨b0,109,[(.slice A m4.length c2),(.int .i64 m5),(.int .u64 m6.n)]⟩] [⟨.sh true,E,A8,c9,(m3:List Light)⟩] [⟨F5,MP.own F5 [(.slice A7 m2.length c8)] (m2:List Fiber)⟩,⟨F4,MP.own F4 [(.slice A6 m.length c7)] (m:List ByteArray)⟩] [(false,MP.val [(.slice A m4.length c2)] (m4:List By)),(true,MP.val [(.slice A7 m2.length c8)] (m2:List Fiber)),(true,MP.val [(.slice A6 m.length c7)] (m:List ByteArray))] w) (fun k (s:Int×List ByteArray×List Fiber×List Light×List By×Int×U64)=>spec_l1Cur_plan_L1 fu k s.1 s.2.1 s.2.2.1 s.2.2.2.1 s.2.2.2.2.1 s.2.2.2.2.2.1 s.2.2.2.2.2.2=some out') (fun s=>out'=s) (y2.1,y.1.Nodes,y.1.Fibers,([]:List Light),y2.2.code,y2.2.at_,y2.2.seed) fu hB1 ⟨A2,c3,F2,A3,c4,F3,none,0,49,hx5,hf,H⟩ (fun s h=>by cases h) ?_ ?_
 ·rintro fk ⟨n',m,m2,m3,m4,m5,m6⟩ a w hR1 hI
  replace hR1:spec_l1Cur_plan_L1 fu (fk + 1) n' m m2 m3 m4 m5 m6=some out':=hR1
  rw [spec_l1Cur_plan_L1] at hR1
  obtain ⟨A6,c7,F4,A7,c8,F5,A8,c9,E,hsm,hf,H⟩:=hI
  refine sq (sqz (pz 2 hf fun a hf=>?_))
  refine wl_end (then_n (ib hR1 hf (fun hc hR1=>?_) fun hc hR1=>?_))
  ·refine ws (pz 2 hf fun a hf=>?_)
   refine lN 0 hf H TF.la27 fun a hf=>?_
   obtain ⟨y3,hy3,hR1⟩:=bs_ hR1
   refine oc hf TF.cl227 (spec_l1Cur_routed_ok (S:=NB b0) (H.boxAt 2 rfl) ((L1CurP_mk (x:=({ code:=m4,at_:=m5,seed:=m6 }:L1CurP)) (H.nb 2 rfl (H.get 0 rfl)))) (fun h=>h rfl) (Network_mkv (x:=({ Nodes:=m,Fibers:=m2 }:Network)) (H.nb 2 rfl (H.get 2 rfl)) (H.nb 2 rfl (H.get 1 rfl))) hy3) fun v3 w a hp5 hf=>?_
   obtain ⟨hch3,cs4,hbx3,hr4,⟨hx6,hx7⟩,hs3⟩:=hp5
   obtain ⟨F6,hp6,hN2⟩:=hs3
   obtain ⟨A9,c10,F7,rfl,rfl,hl6⟩:=Route_vo hp6
   obtain ⟨A10,c11,rfl,hl7⟩:=L1CurP_cells hr4
   obtain ⟨rfl,rfl⟩:=fx_slice hx6 rfl rfl
   have hx8:=hx7.trans hsm
   have H:=H.bO1 2 rfl hch3 hbx3 hN2 hl6
   have H:=H.pX 0 rfl hx7
   have H:=H.lend 0 rfl
   refine aL hf H TF.zv45 fun b4 a w hf H=>?_
   refine sB 0 hf H TF.sz45 fun w H=>?_
   refine wr (pz 1 hf fun a hf=>?_)
   obtain ⟨y4,hy4,hR1⟩:=bs_ hR1
   refine oc hf TF.cl121 (spec_l1Cur_pick_ok (S:=NB b0) (H.boxAt 3 rfl) ((L1CurP_mk (x:=y3.2) (H.nb 3 rfl (H.get 1 rfl)))) (fun h=>h rfl) mk_int hy4) fun v4 w a hp7 hf=>?_
   obtain ⟨hch4,cs5,hbx4,hr5,⟨hx9,hx10⟩,hs4⟩:=hp7
   obtain rfl:=VR_int hs4
   obtain ⟨A11,c12,rfl,hl8⟩:=L1CurP_cells hr5
   obtain ⟨rfl,rfl⟩:=fx_slice hx9 rfl rfl
   have hx11:=hx10.trans hx8
   have H:=H.wroteBox 3 rfl hch4 hbx4
   have H:=H.pX 1 rfl hx10
   refine pz 2 hf fun a hf=>?_
   refine wr (lN 1 hf H TF.la30 fun a hf=>?_)
   refine lN 0 hf H TF.la45 fun a hf=>?_
   obtain ⟨y5,hy5,hR1⟩:=bs_ hR1
   refine oc hf TF.cl185 (spec_l9Along_ok (S:=TT) (Plan_mkv (x:=({ Network:=({ Nodes:=m,Fibers:=m2 }:Network),Lights:=m3 }:Plan)) (H.rt 5 rfl) (H.rt 4 rfl) (H.rowTrue 0 rfl)) (Route_mkv (x:=y3.1) (H.rt 1 rfl)) hy5) fun v5 w a hp8 hf=>?_
   obtain ⟨hb,hp8⟩:=hp8
   obtain rfl:=VR_int hp8
   have H:=H.keep hb
   refine pz 1 hf fun a hf=>?_
   obtain ⟨y6,hy6,hR1⟩:=bs_ hR1
   refine oc hf TF.cl228 (spec_l8Fits_ok (S:=TT) mk_int mk_int hy6) fun v6 w a hp9 hf=>?_
   obtain ⟨hb2,F8,hp10,hN3⟩:=hp9
   obtain ⟨A12,c13,rfl,hl9⟩:=VO_list hp10
   have H:=H.aO1 hb2 hN3 hl9
   have H:=H.lend 0 rfl
   refine pz 1 hf fun a hf=>?_
   have hf:=hf.pn [0,2,3,4,5,6,7]
   refine wr (pz 3 hf fun a hf=>?_)
   refine wl_end (then_n (ib hR1 hf (fun hc2 hR1=>?_) fun hc2 hR1=>?_))
   ·refine sqz (pz 1 hf fun a hf=>?_)
    obtain ⟨e,he,hR1⟩:=bs_ hR1
    refine wl0 rfl (op_iaddr hf H Tryz.underlying35 TF.sz3 0 rfl rfl rfl he (by decide) fun p o2 cs6 a hf hr6 H=>?_)
    obtain rfl:=hr6
    refine oq hf (rq_loadI hf H TF.ls3 0 0 rfl rfl rfl) fun a hf=>?_
    refine pz 1 hf fun a hf=>?_
    refine we (sqz (pz 1 hf fun a hf=>?_))
    obtain ⟨y7,hy7,hR1⟩:=bs_ hR1
    refine oc hf TF.cl84 (spec_l1Cur_one_ok (S:=NB b0) (H.boxAt 3 rfl) ((L1CurP_mk (x:=y4.2) (H.nb 3 rfl (H.get 2 rfl)))) (fun h=>h rfl) mk_int hy7) fun v7 w a hp11 hf=>?_
    obtain ⟨hch5,cs7,hbx5,hr7,⟨hx12,hx13⟩,hs5⟩:=hp11
    obtain rfl:=VR_bool hs5
    obtain ⟨A13,c14,rfl,hl10⟩:=L1CurP_cells hr7
    obtain ⟨rfl,rfl⟩:=fx_slice hx12 rfl rfl
    have hx14:=hx13.trans hx11
    have H:=H.wroteBox 3 rfl hch5 hbx5
    have H:=H.pX 2 rfl hx13
    refine wl_end (then_n (ib hR1 hf (fun hc3 hR1=>?_) fun hc3 hR1=>?_))
    ·refine reg (pz 4 hf fun a hf=>?_)
     obtain ⟨y8,hy8,hR1⟩:=bs_ hR1
     refine oc hf TF.cl121 (spec_l1Cur_pick_ok (S:=NB b0) (H.boxAt 3 rfl) ((L1CurP_mk (x:=y7.2) (H.nb 3 rfl (H.get 0 rfl)))) (fun h=>h rfl) mk_int hy8) fun v8 w a hp12 hf=>?_
     obtain ⟨hch6,cs8,hbx6,hr8,⟨hx15,hx16⟩,hs6⟩:=hp12
     obtain rfl:=VR_int hs6
     obtain ⟨A14,c15,rfl,hl11⟩:=L1CurP_cells hr8
     obtain ⟨rfl,rfl⟩:=fx_slice hx15 rfl rfl
     have hx17:=hx16.trans hx14
     have H:=H.wroteBox 3 rfl hch6 hbx6
     have H:=H.pX 0 rfl hx16
     obtain ⟨e2,he2,hR1⟩:=bs_ hR1
     refine wl0 rfl (op_iaddr hf H Tryz.underlying35 TF.sz3 3 rfl rfl rfl he2 (by decide) fun p2 o3 cs9 a hf hr9 H=>?_)
     obtain rfl:=hr9
     refine oq hf (rq_loadI hf H TF.ls3 0 0 rfl rfl rfl) fun a hf=>?_
     refine pz 1 hf fun a hf=>?_
     have hf:=hf.pn [0,2,3,4,5,6,8]
     refine wl_end (then_n (dw [15] 16 fun w hb=>?_))
     have H:=H.keep hb
     refine strT (H.lk 2 0 0 []) (fun w H=>trivial) fun hS=>?_
     refine zS 0 [0,14,15] rfl rfl rfl rfl hf hS (fun w H=>rq_loadBN hf H TF.la30 0 rfl rfl rfl rfl) fun a hf=>?_
     refine zp 1 hf hS fun a hf=>?_
     refine zS 2 [2,3,4,5,8,13,14,15] rfl rfl rfl rfl hf hS (fun w H=>rq_loadB hf H TF.ls28 0 rfl rfl rfl) fun a hf=>?_
     refine zp 3 hf hS fun a hf=>?_
     refine zp 4 hf hS fun a hf=>?_
     refine zp 5 hf hS fun a hf=>?_
     refine zp 6 hf hS fun a hf=>?_
     refine strT (H.lk 3 0 0 []) (fun w H=>H.lk 2 0 0 []) fun hS=>?_
     refine zS 9 [9,13,14,15] rfl rfl rfl rfl hf hS (fun w H=>rq_loadBN hf H TF.la45 0 rfl rfl rfl rfl) fun a hf=>?_
     refine zp 10 hf hS fun a hf=>?_
     refine zp 11 hf hS fun a hf=>?_
     refine zP 12 rfl rfl rfl rfl hf hS (fun w=>rq_build hf (cs:=[(.int .i64 e2),(.int .i64 (w64 (1 + y4.1)))]) rfl (fun w=>by kernel_rfl)) fun a hf=>?_
     obtain ⟨y9,hy9,hR1⟩:=bs_ hR1
     refine nn 7 rfl (oC hf TF.cl121 (spec_l1Cur_pick_ok (S:=NB b0) (H.boxAt 3 rfl) ((L1CurP_mk (x:=y8.2) (H.nb 3 rfl (H.get 1 rfl)))) (fun h=>h rfl) mk_int hy9) fun v9 w a hp13 hf=>?_)
     obtain ⟨hch7,cs10,hbx7,hr10,⟨hx18,hx19⟩,hs7⟩:=hp13
     obtain rfl:=VR_int hs7
     obtain ⟨A15,c16,rfl,hl12⟩:=L1CurP_cells hr10
     obtain ⟨rfl,rfl⟩:=fx_slice hx18 rfl rfl
     have hx20:=hx19.trans hx17
     have H:=H.wroteBox 3 rfl hch7 hbx7
     have H:=H.pX 1 rfl hx19
     have hS:=H.lk 3 0 0 []
     refine aS hS ?_
     refine zp 8 hf hS fun a hf=>?_
     refine zP 13 rfl rfl rfl rfl hf hS (fun w=>rq_build hf (cs:=[(.int .i64 (w64 ((w64 ((w64 ((m3.length:Int) * 3)) + 1)) + y9.1))),(.int .i64 y3.1.Start),(.slice A9 y3.1.Fibers.length c10),(.int .i64 e2),(.int .i64 (w64 (1 + y4.1)))]) rfl (fun w=>by kernel_rfl)) fun a hf=>?_
     obtain ⟨y10,hy10,hR1⟩:=bs_ hR1
     refine nn 14 rfl (oC hf TF.cl187 (spec_l9Put_ok (S:=TT) (Plan_mkv (x:=({ Network:=({ Nodes:=m,Fibers:=m2 }:Network),Lights:=m3 }:Plan)) (H.rt 11 rfl) (H.rt 10 rfl) (H.rowTrue 0 rfl)) (Light_mkv (x:=({ Id:=w64 ((w64 ((w64 ((m3.length:Int) * 3)) + 1)) + y9.1),Route:=y3.1,Block:=({ First:=e2,Count:=w64 (1 + y4.1) }:Block) }:Light)) (H.rt 7 rfl)) hy10) fun v10 w a hp14 hf=>?_)
     obtain ⟨A16,c17,F10,A17,c18,F11,A18,c19,E2,rfl,Hc⟩:=hp14
     have H:=H.comp Hc (.inl rfl)
     have H:=H.lend 0 rfl
     have H:=H.lend 1 rfl
     have hS:=H.lk 3 0 0 []
     refine aS hS ?_
     refine nn 15 rfl (op_storeB hf H 1 TF.sz30 rfl rfl rfl rfl rfl rfl (nle rfl) fun w H=>?_)
     refine ⟨fun h=>absurd h (by decide),?_⟩
     refine dk ?_
     have hf:=hf.pn [0,2,3,4]
     refine blk_n (then_n (reg (pz 3 hf fun a hf=>?_)))
     refine wl_end ?_
     have H:=H.lm 15 1 63 14 16383
     have hf:=hf.pn [0,2,3,4]
     have H:=H.frontD 1 rfl
     have H:=H.lk 14 1 3 [2,0,1]
     exact then_n ⟨(w64 (n' - 1),y10.Network.Nodes,y10.Network.Fibers,y10.Lights,y9.2.code,y9.2.at_,y9.2.seed),hR1,A16,c17,F10,A17,c18,F11,A18,c19,E2,hx20,hf,H⟩
    refine wp_skip (then_n (dw [15] 16 fun w hb=>?_))
    have H:=H.keep hb
    refine strT (H.lk 2 0 0 []) (fun w H=>trivial) fun hS=>?_
    refine zS 0 [0,14,15] rfl rfl rfl rfl hf hS (fun w H=>rq_loadBN hf H TF.la30 0 rfl rfl rfl rfl) fun a hf=>?_
    refine zp 1 hf hS fun a hf=>?_
    refine zS 2 [2,3,4,5,8,13,14,15] rfl rfl rfl rfl hf hS (fun w H=>rq_loadB hf H TF.ls28 0 rfl rfl rfl) fun a hf=>?_
    refine zp 3 hf hS fun a hf=>?_
    refine zp 4 hf hS fun a hf=>?_
    refine zp 5 hf hS fun a hf=>?_
    refine zp 6 hf hS fun a hf=>?_
    refine strT (H.lk 3 0 0 []) (fun w H=>H.lk 2 0 0 []) fun hS=>?_
    refine zS 9 [9,13,14,15] rfl rfl rfl rfl hf hS (fun w H=>rq_loadBN hf H TF.la45 0 rfl rfl rfl rfl) fun a hf=>?_
    refine zp 10 hf hS fun a hf=>?_
    refine zp 11 hf hS fun a hf=>?_
    refine zP 12 rfl rfl rfl rfl hf hS (fun w=>rq_build hf (cs:=[(.int .i64 e),(.int .i64 (w64 (1 + y4.1)))]) rfl (fun w=>by kernel_rfl)) fun a hf=>?_
    obtain ⟨y11,hy11,hR1⟩:=bs_ hR1
    refine nn 7 rfl (oC hf TF.cl121 (spec_l1Cur_pick_ok (S:=NB b0) (H.boxAt 3 rfl) ((L1CurP_mk (x:=y7.2) (H.nb 3 rfl (H.get 0 rfl)))) (fun h=>h rfl) mk_int hy11) fun v11 w a hp15 hf=>?_)
    obtain ⟨hch8,cs11,hbx8,hr11,⟨hx21,hx22⟩,hs8⟩:=hp15
    obtain rfl:=VR_int hs8
    obtain ⟨A19,c20,rfl,hl13⟩:=L1CurP_cells hr11
    obtain ⟨rfl,rfl⟩:=fx_slice hx21 rfl rfl
    have hx23:=hx22.trans hx14
    have H:=H.wroteBox 3 rfl hch8 hbx8
    have H:=H.pX 0 rfl hx22
    have hS:=H.lk 3 0 0 []
    refine aS hS ?_
    refine zp 8 hf hS fun a hf=>?_
    refine zP 13 rfl rfl rfl rfl hf hS (fun w=>rq_build hf (cs:=[(.int .i64 (w64 ((w64 ((w64 ((m3.length:Int) * 3)) + 1)) + y11.1))),(.int .i64 y3.1.Start),(.slice A9 y3.1.Fibers.length c10),(.int .i64 e),(.int .i64 (w64 (1 + y4.1)))]) rfl (fun w=>by kernel_rfl)) fun a hf=>?_
    obtain ⟨y12,hy12,hR1⟩:=bs_ hR1
    refine nn 14 rfl (oC hf TF.cl187 (spec_l9Put_ok (S:=TT) (Plan_mkv (x:=({ Network:=({ Nodes:=m,Fibers:=m2 }:Network),Lights:=m3 }:Plan)) (H.rt 9 rfl) (H.rt 8 rfl) (H.rowTrue 0 rfl)) (Light_mkv (x:=({ Id:=w64 ((w64 ((w64 ((m3.length:Int) * 3)) + 1)) + y11.1),Route:=y3.1,Block:=({ First:=e,Count:=w64 (1 + y4.1) }:Block) }:Light)) (H.rt 5 rfl)) hy12) fun v12 w a hp16 hf=>?_)
    obtain ⟨A20,c21,F12,A21,c22,F13,A22,c23,E3,rfl,Hc2⟩:=hp16
    have H:=H.comp Hc2 (.inl rfl)
    have H:=H.lend 0 rfl
    have H:=H.lend 1 rfl
    have hS:=H.lk 3 0 0 []
    refine aS hS ?_
    refine nn 15 rfl (op_storeB hf H 1 TF.sz30 rfl rfl rfl rfl rfl rfl (nle rfl) fun w H=>?_)
    refine ⟨fun h=>absurd h (by decide),?_⟩
    refine dk ?_
    have hf:=hf.pn [0,2,3,4]
    refine blk_n (then_n (reg (pz 3 hf fun a hf=>?_)))
    refine wl_end ?_
    have H:=H.lm 15 1 63 12 4095
    have hf:=hf.pn [0,2,3,4]
    have H:=H.frontD 1 rfl
    have H:=H.lk 14 1 3 [2,0,1]
    exact then_n ⟨(w64 (n' - 1),y12.Network.Nodes,y12.Network.Fibers,y12.Lights,y11.2.code,y11.2.at_,y11.2.seed),hR1,A20,c21,F12,A21,c22,F13,A22,c23,E3,hx23,hf,H⟩
   refine wp_skip (blk_n (then_n (reg (pz 3 hf fun a hf=>?_))))
   refine wl_end ?_
   have hf:=hf.pn [0,2,3,4]
   have H:=H.lm 14 1 12 7 98
   exact then_n ⟨(w64 (n' - 1),m,m2,m3,y4.2.code,y4.2.at_,y4.2.seed),hR1,A6,c7,F4,A7,c8,F5,A8,c9,E,hx11,hf,H⟩
  refine wp_exit (then_x (then_x (blk_e (?_))))
  have hf:=hf.pn [0,2,3,4]
  have H:=H.lm 7 1 3 3 7
  exact ⟨(n',m,m2,m3,m4,m5,m6),(Option.some.inj hR1).symm,A6,c7,F4,A7,c8,F5,A8,c9,E,hsm,hf,H⟩
 rintro a w ⟨⟨n2,m7,m8,m9,m10,m11,m12⟩,rfl,A23,c24,F14,A24,c25,F15,A25,c26,E4,hsm,hf,H⟩
 try dsimp only at hsm
 try dsimp only at hF
 refine then_n (sq (reg (lN 0 hf H TF.la30 fun a hf=>?_)))
 refine sB 1 hf H TF.sz30 fun w H=>?_
 refine wer ?_
 have hcell:GoTy.rep w (fun _=>True) [(.slice A m10.length c2),(.int .i64 m11),(.int .u64 m12.n)] (({ code:=m10,at_:=m11,seed:=m12 }:L1CurP):L1CurP):=(L1CurP_mk (x:=({ code:=m10,at_:=m11,seed:=m12 }:L1CurP)) (H.rt 0 rfl))
 have H:=H.frontD 1 rfl
 obtain rfl:=oi hF
 refine ret_1 hf rfl (rv_cellN hf H 1 TF.la30 rfl rfl rfl) ?_
 have H:=H.lk 4 1 3 []
 exact ⟨_,rfl,_,hcell,⟨fxc hsm,hsm⟩,A23,c24,F14,A24,c25,F15,A25,c26,E4,rfl,H⟩
theorem spec_l1Cur_block_ok {S:Nat→Prop} {b0:Nat} {cs0:List Value} {c:L1CurP} {r:Block×L1CurP} (hp0:w0.heap[b0]?=some (.cells cs0.toArray 109 (0,0))) (hr0:GoTy.rep w0 S cs0 c) (hS0:¬S b0) (hF:spec_l1Cur_block fu c=some r) :
    Calls Tryz.prog 143 [(.pointer (some ⟨b0,0,none⟩))].toArray w0 fun e w'=>∃ v,e=.returned v∧(Chg w0 w' [b0]∧∃ cs',w'.heap[b0]?=some (.cells cs'.toArray 109 (0,0))∧GoTy.rep w' (St ⟨w0,[b0]⟩ S [⟨b0,109,cs'⟩] [] [] false) cs' r.2∧(cs'[0]?=cs0[0]?∧r.2.code=c.code)∧VR w' (St ⟨w0,[b0]⟩ S [⟨b0,109,cs'⟩] [] [] true) v r.1):=by
 obtain ⟨A,c2,rfl,hl⟩:=L1CurP_cells hr0
 have H:=Mem.startB S hp0
 have H:=H.pB hS0 hl
 refine en Tryz.func143 fun a hf=>?_
 rw [spec_l1Cur_block] at hF
 refine sq (reg (aL hf H TF.zv47 fun b2 a w hf H=>?_))
 refine we (sqz (pz 1 hf fun a hf=>?_))
 obtain ⟨y,hy,hF⟩:=bs_ hF
 refine oc hf TF.cl84 (spec_l1Cur_one_ok (S:=NB b0) (H.boxAt 1 rfl) ((L1CurP_mk (x:=c) (H.nb 1 rfl (H.get 0 rfl)))) (fun h=>h rfl) mk_int hy) fun v w a hp2 hf=>?_
 obtain ⟨hch,cs2,hbx,hr2,⟨hx,hx2⟩,hs⟩:=hp2
 obtain rfl:=VR_bool hs
 obtain ⟨A2,c3,rfl,hl2⟩:=L1CurP_cells hr2
 obtain ⟨rfl,rfl⟩:=fx_slice hx rfl rfl
 have H:=H.wroteBox 1 rfl hch hbx
 have H:=H.pX 0 rfl hx2
 refine wl_end (then_n (ib hF hf (fun hc hF=>?_) fun hc hF=>?_))
 ·refine sqz (pz 1 hf fun a hf=>?_)
  obtain ⟨y2,hy2,hF⟩:=bs_ hF
  refine oc hf TF.cl121 (spec_l1Cur_pick_ok (S:=NB b0) (H.boxAt 1 rfl) ((L1CurP_mk (x:=y.2) (H.nb 1 rfl (H.get 0 rfl)))) (fun h=>h rfl) mk_int hy2) fun v2 w a hp3 hf=>?_
  obtain ⟨hch2,cs3,hbx2,hr3,⟨hx3,hx4⟩,hs2⟩:=hp3
  obtain rfl:=VR_int hs2
  obtain ⟨A3,c4,rfl,hl3⟩:=L1CurP_cells hr3
  obtain ⟨rfl,rfl⟩:=fx_slice hx3 rfl rfl
  have hx5:=hx4.trans hx2
  have H:=H.wroteBox 1 rfl hch2 hbx2
  have H:=H.pX 0 rfl hx4
  refine pz 2 hf fun a hf=>?_
  obtain ⟨y3,hy3,hF⟩:=bs_ hF
  refine oc hf TF.cl121 (spec_l1Cur_pick_ok (S:=NB b0) (H.boxAt 1 rfl) ((L1CurP_mk (x:=y2.2) (H.nb 1 rfl (H.get 0 rfl)))) (fun h=>h rfl) mk_int hy3) fun v3 w a hp4 hf=>?_
  obtain ⟨hch3,cs4,hbx3,hr4,⟨hx6,hx7⟩,hs3⟩:=hp4
  obtain rfl:=VR_int hs3
  obtain ⟨A4,c5,rfl,hl4⟩:=L1CurP_cells hr4
  obtain ⟨rfl,rfl⟩:=fx_slice hx6 rfl rfl
  have hx8:=hx7.trans hx5
  have H:=H.wroteBox 1 rfl hch3 hbx3
  have H:=H.pX 0 rfl hx7
  refine pz 1 hf fun a hf=>?_
  refine oq hf (rq_build hf (cs:=[(.int .i64 (w64 (y2.1 - 1))),(.int .i64 (w64 (y3.1 - 1)))]) rfl (fun w=>by kernel_rfl)) fun a hf=>?_
  refine sB 0 hf H TF.sz47 fun w H=>?_
  refine wl_end (then_n (wp_ret (then_r (?_))))
  obtain rfl:=oi hF
  refine ret_1 hf rfl (rv_cellN hf H 0 TF.la47 rfl rfl rfl) ?_
  exact ⟨_,rfl,H.chg,_,H.boxAt 1 rfl,(L1CurP_mk (x:=y3.2) (eB 1 (H.get 0 rfl))),⟨fxc hx8,hx8⟩,Block_mkv⟩
 refine wp_skip (then_n (sqz (pz 1 hf fun a hf=>?_)))
 obtain ⟨y4,hy4,hF⟩:=bs_ hF
 refine oc hf TF.cl121 (spec_l1Cur_pick_ok (S:=NB b0) (H.boxAt 1 rfl) ((L1CurP_mk (x:=y.2) (H.nb 1 rfl (H.get 0 rfl)))) (fun h=>h rfl) mk_int hy4) fun v4 w a hp5 hf=>?_
 obtain ⟨hch4,cs5,hbx4,hr5,⟨hx9,hx10⟩,hs4⟩:=hp5
 obtain rfl:=VR_int hs4
 obtain ⟨A5,c6,rfl,hl5⟩:=L1CurP_cells hr5
 obtain ⟨rfl,rfl⟩:=fx_slice hx9 rfl rfl
 have hx11:=hx10.trans hx2
 have H:=H.wroteBox 1 rfl hch4 hbx4
 have H:=H.pX 0 rfl hx10
 refine pz 2 hf fun a hf=>?_
 refine wr (pz 4 hf fun a hf=>?_)
 obtain ⟨y5,hy5,hF⟩:=bs_ hF
 refine oc hf TF.cl121 (spec_l1Cur_pick_ok (S:=NB b0) (H.boxAt 1 rfl) ((L1CurP_mk (x:=y4.2) (H.nb 1 rfl (H.get 0 rfl)))) (fun h=>h rfl) mk_int hy5) fun v5 w a hp6 hf=>?_
 obtain ⟨hch5,cs6,hbx5,hr6,⟨hx12,hx13⟩,hs5⟩:=hp6
 obtain rfl:=VR_int hs5
 obtain ⟨A6,c7,rfl,hl6⟩:=L1CurP_cells hr6
 obtain ⟨rfl,rfl⟩:=fx_slice hx12 rfl rfl
 have hx14:=hx13.trans hx11
 have H:=H.wroteBox 1 rfl hch5 hbx5
 have H:=H.pX 0 rfl hx13
 refine pz 1 hf fun a hf=>?_
 refine oq hf (rq_build hf (cs:=[(.int .i64 y5.1),(.int .i64 (w64 (1 + y4.1)))]) rfl (fun w=>by kernel_rfl)) fun a hf=>?_
 refine sB 0 hf H TF.sz47 fun w H=>?_
 have hf:=hf.pn [2]
 refine wer ?_
 obtain rfl:=oi hF
 refine ret_1 hf rfl (rv_cellN hf H 0 TF.la47 rfl rfl rfl) ?_
 exact ⟨_,rfl,H.chg,_,H.boxAt 1 rfl,(L1CurP_mk (x:=y5.2) (eB 1 (H.get 0 rfl))),⟨fxc hx14,hx14⟩,Block_mkv⟩
theorem spec_l1Cur_anyRoute_ok {S:Nat→Prop} {b0:Nat} {cs0:List Value} {v1_:Value} {c:L1CurP} {n':Network} {r:Route×L1CurP} (hp0:w0.heap[b0]?=some (.cells cs0.toArray 109 (0,0))) (hr0:GoTy.rep w0 S cs0 c) (hS0:¬S b0) (h1:VR w0 S v1_ n') (hF:spec_l1Cur_anyRoute fu c n'=some r) :
    Calls Tryz.prog 144 [(.pointer (some ⟨b0,0,none⟩)),v1_].toArray w0 fun e w'=>∃ v,e=.returned v∧(Chg w0 w' [b0]∧∃ cs',w'.heap[b0]?=some (.cells cs'.toArray 109 (0,0))∧GoTy.rep w' (St ⟨w0,[b0]⟩ S [⟨b0,109,cs'⟩] [] [] false) cs' r.2∧(cs'[0]?=cs0[0]?∧r.2.code=c.code)∧∃ F0,VO w' F0 v r.1∧New w0 w' F0):=by
 obtain ⟨A,c2,rfl,hl⟩:=L1CurP_cells hr0
 obtain ⟨A2,c3,A3,c4,rfl,hl2,hl3⟩:=Network_open h1
 have H:=Mem.startB S hp0
 have H:=H.pB hS0 hl
 have H:=H.pB hS0 hl2
 have H:=H.pB hS0 hl3
 refine en Tryz.func144 fun a hf=>?_
 rw [spec_l1Cur_anyRoute] at hF
 refine bx hf H fun b3 a w hf H=>?_
 refine aL hf H TF.zv45 fun b4 a w hf H=>?_
 refine wr (pz 1 hf fun a hf=>?_)
 refine lN 1 hf H TF.la27 fun a hf=>?_
 obtain ⟨y,hy,hF⟩:=bs_ hF
 refine oc hf TF.cl229 (spec_l1Cur_route_ok (S:=NB b0) (H.boxAt 2 rfl) ((L1CurP_mk (x:=c) (H.nb 2 rfl (H.get 2 rfl)))) (fun h=>h rfl) (Network_mkv (x:=n') (H.nb 2 rfl (H.get 1 rfl)) (H.nb 2 rfl (H.get 0 rfl))) hy) fun v w a hp3 hf=>?_
 obtain ⟨hch,cs3,hbx,hr3,⟨hx,hx2⟩,hs⟩:=hp3
 obtain ⟨F,hp4,hN⟩:=hs
 obtain ⟨A4,c5,F2,rfl,rfl,hl4⟩:=Route_vo hp4
 obtain ⟨A5,c6,rfl,hl5⟩:=L1CurP_cells hr3
 obtain ⟨rfl,rfl⟩:=fx_slice hx rfl rfl
 have H:=H.bO1 2 rfl hch hbx hN hl4
 have H:=H.pX 2 rfl hx2
 have H:=H.lend 0 rfl
 refine aL hf H TF.zv45 fun b5 a w hf H=>?_
 refine sB 0 hf H TF.sz45 fun w H=>?_
 refine we (sqz (pz 1 hf fun a hf=>?_))
 obtain ⟨y2,hy2,hF⟩:=bs_ hF
 refine oc hf TF.cl121 (spec_l1Cur_pick_ok (S:=NB b0) (H.boxAt 3 rfl) ((L1CurP_mk (x:=y.2) (H.nb 3 rfl (H.get 1 rfl)))) (fun h=>h rfl) mk_int hy2) fun v2 w a hp5 hf=>?_
 obtain ⟨hch2,cs4,hbx2,hr4,⟨hx3,hx4⟩,hs2⟩:=hp5
 obtain rfl:=VR_int hs2
 obtain ⟨A6,c7,rfl,hl6⟩:=L1CurP_cells hr4
 obtain ⟨rfl,rfl⟩:=fx_slice hx3 rfl rfl
 have hx5:=hx4.trans hx2
 have H:=H.wroteBox 3 rfl hch2 hbx2
 have H:=H.pX 1 rfl hx4
 refine wl_end (then_n (wp_block (sqz (pz 2 hf fun a hf=>?_))))
 refine wl_end (then_n (ib hF hf (fun hc hF=>?_) fun hc hF=>?_))
 ·refine reg (pz 1 hf fun a hf=>?_)
  obtain ⟨y3,hy3,hF⟩:=bs_ hF
  refine oc hf TF.cl121 (spec_l1Cur_pick_ok (S:=NB b0) (H.boxAt 3 rfl) ((L1CurP_mk (x:=y2.2) (H.nb 3 rfl (H.get 0 rfl)))) (fun h=>h rfl) mk_int hy3) fun v3 w a hp6 hf=>?_
  obtain ⟨hch3,cs5,hbx3,hr5,⟨hx6,hx7⟩,hs3⟩:=hp6
  obtain rfl:=VR_int hs3
  obtain ⟨A7,c8,rfl,hl7⟩:=L1CurP_cells hr5
  obtain ⟨rfl,rfl⟩:=fx_slice hx6 rfl rfl
  have hx8:=hx7.trans hx5
  have H:=H.wroteBox 3 rfl hch3 hbx3
  have H:=H.pX 0 rfl hx7
  refine pz 2 hf fun a hf=>?_
  refine sB 0 hf H TF.sz3 fun w H=>?_
  have hf:=hf.pn [4,5]
  refine wl_end (blk_n (then_n (sq (reg (lN 0 hf H TF.la45 fun a hf=>?_)))))
  refine sB 1 hf H TF.sz45 fun w H=>?_
  refine wer ?_
  obtain rfl:=oi hF
  refine ret_1 hf rfl (rv_cellN hf H 1 TF.la45 rfl rfl rfl) ?_
  have hN:=H.endsB1 3 rfl
  exact ⟨_,rfl,H.chg,_,H.boxAt 3 rfl,(L1CurP_mk (x:=y3.2) (eB 3 (H.get 0 rfl))),⟨fxc hx8,hx8⟩,F2,⟨_,Route_ownmk (x:=({ Start:=w64 (y3.1 - 1),Fibers:=y.1.Fibers }:Route)) (H.ownAt 0 rfl),rfl⟩,by first | exact hN | simpa using hN⟩
 refine sqz (pz 2 hf fun a hf=>?_)
 refine wl_end (then_n (ib hF hf (fun hc2 hF=>?_) fun hc2 hF=>?_))
 ·refine dw [6,8] 9 fun w hb=>?_
  have H:=H.keep hb
  refine zp 0 hf trivial fun a hf=>?_
  refine strT (H.lk 1 0 0 []) (fun w H=>trivial) fun hS=>?_
  refine zS 1 [1,6,7,8] rfl rfl rfl rfl hf hS (fun w H=>rq_loadB hf H TF.ls35 0 rfl rfl rfl) fun a hf=>?_
  refine zp 2 hf hS fun a hf=>?_
  obtain ⟨y4,hy4,hF⟩:=bs_ hF
  refine nn 3 rfl (oC hf TF.cl121 (spec_l1Cur_pick_ok (S:=NB b0) (H.boxAt 3 rfl) ((L1CurP_mk (x:=y2.2) (H.nb 3 rfl (H.get 0 rfl)))) (fun h=>h rfl) mk_int hy4) fun v4 w a hp7 hf=>?_)
  obtain ⟨hch4,cs6,hbx4,hr6,⟨hx9,hx10⟩,hs4⟩:=hp7
  obtain rfl:=VR_int hs4
  obtain ⟨A8,c9,rfl,hl8⟩:=L1CurP_cells hr6
  obtain ⟨rfl,rfl⟩:=fx_slice hx9 rfl rfl
  have hx11:=hx10.trans hx5
  have H:=H.wroteBox 3 rfl hch4 hbx4
  have H:=H.pX 0 rfl hx10
  have hS:=H.lk 1 0 0 []
  refine aS hS ?_
  refine zp 4 hf hS fun a hf=>?_
  refine nn 5 rfl (bl hf H 3 ([w64 (y4.1 - 1)]:List Int) [(.int .i64 (w64 (y4.1 - 1)))] (el1 (y:=w64 (y4.1 - 1)) (rfl)) fun A9 a w hf H=>?_)
  have hS:=H.lk 1 0 0 []
  refine aS hS ?_
  obtain ⟨Fs,E,H,-⟩:=H.thaw rfl
  have H:=H.rowSh 0 rfl
  have H:=H.pB hS0 hl
  have H:=H.pB hS0 hl2
  have H:=H.pB hS0 hl3
  have H:=H.argB (by simpa using hS0) (p:=MP.val [(.slice A y4.2.code.length c2)] (y4.2.code:List By)) (by rw [hx11]; exact hl)
  obtain ⟨l,hl_,hF⟩:=bs_ hF
  refine nn 6 rfl (op_appR hf H Tryz.underlying35 TF.ai3 rfl (by decide) 0 1 rfl rfl rfl rfl (.inr rfl) hl_ (by decide) fun E2 A10 c10 a w hf H=>?_)
  refine ⟨fun h=>absurd h (by decide),?_⟩
  refine tp 7 rfl rfl hf (by kernel_rfl) (fun h=>absurd h (by decide)) rfl fun a hf=>?_
  refine nn 8 rfl (op_storeB hf H 0 TF.sz35 rfl rfl rfl rfl rfl rfl (nle rfl) fun w H=>?_)
  refine ⟨fun h=>absurd h (by decide),?_⟩
  refine dk ?_
  have hf:=hf.pn [4,5]
  refine blk_n (then_n (sq (reg (lN 0 hf H TF.la45 fun a hf=>?_))))
  refine sB 1 hf H TF.sz45 fun w H=>?_
  refine wer ?_
  have H:=H.rowOwn 0 rfl rfl
  obtain ⟨F3,H⟩:=H.freezeOwn 0 rfl
  have H:=H.lend 0 rfl
  obtain rfl:=oi hF
  refine ret_1 hf rfl (rv_cellN hf H 1 TF.la45 rfl rfl rfl) ?_
  have hN:=H.endsB1 3 rfl
  exact ⟨_,rfl,H.chg,_,H.boxAt 3 rfl,(L1CurP_mk (x:=y4.2) (eB 3 (H.get 1 rfl))),⟨fxc hx11,hx11⟩,F3,⟨_,Route_ownmk (x:=({ Start:=y.1.Start,Fibers:=l }:Route)) (H.ownAt 0 rfl),rfl⟩,by first | exact hN | simpa using hN⟩
 refine sqz (pz 2 hf fun a hf=>?_)
 refine wl_end (then_n (ib hF hf (fun hc3 hF=>?_) fun hc3 hF=>?_))
 ·refine reg (wl0 rfl (bl hf H 3 ([]:List Int) [] el0 fun A11 a w hf H=>?_))
  refine pz 1 hf fun a hf=>?_
  refine sB 0 hf H TF.sz35 fun w H=>?_
  have hf:=hf.pn [4,5]
  refine wl_end (blk_n (then_n (sq (reg (lN 0 hf H TF.la45 fun a hf=>?_)))))
  refine sB 1 hf H TF.sz45 fun w H=>?_
  refine wer ?_
  have H:=H.rowOwn 0 rfl rfl
  obtain ⟨F4,H⟩:=H.freezeOwn 0 rfl
  have H:=H.lend 0 rfl
  obtain rfl:=oi hF
  refine ret_1 hf rfl (rv_cellN hf H 1 TF.la45 rfl rfl rfl) ?_
  have hN:=H.endsB1 3 rfl
  exact ⟨_,rfl,H.chg,_,H.boxAt 3 rfl,(L1CurP_mk (x:=y2.2) (eB 3 (H.get 1 rfl))),⟨fxc hx5,hx5⟩,F4,⟨_,Route_ownmk (x:=({ Start:=y.1.Start,Fibers:=([]:List Int) }:Route)) (H.ownAt 0 rfl),rfl⟩,by first | exact hN | simpa using hN⟩
 refine sqz (pz 2 hf fun a hf=>?_)
 have hf:=hf.pn [4,5,31]
 refine wl_end (then_n (ib hF hf (fun hc4 hF=>?_) fun hc4 hF=>?_))
 ·refine sqz (pz 1 hf fun a hf=>?_)
  refine lB 0 hf H TF.ls35 fun a hf=>?_
  refine pz 2 hf fun a hf=>?_
  refine wl_end (then_n (ib hF hf (fun hc5 hF=>?_) fun hc5 hF=>?_))
  ·refine dw [11,13] 14 fun w hb=>?_
   have H:=H.keep hb
   refine zp 0 hf trivial fun a hf=>?_
   refine strT (H.lk 1 0 0 []) (fun w H=>trivial) fun hS=>?_
   refine zS 1 [1,11,12,13] rfl rfl rfl rfl hf hS (fun w H=>rq_loadB hf H TF.ls35 0 rfl rfl rfl) fun a hf=>?_
   refine zp 2 hf hS fun a hf=>?_
   refine zS 3 [3,8,9,10,11,12,13] rfl rfl rfl rfl hf hS (fun w H=>rq_loadB hf H TF.ls35 0 rfl rfl rfl) fun a hf=>?_
   refine zp 4 hf hS fun a hf=>?_
   refine zS 5 [5,6,7,8,9,10,11,12,13] rfl rfl rfl rfl hf hS (fun w H=>rq_loadB hf H TF.ls35 0 rfl rfl rfl) fun a hf=>?_
   refine zp 6 hf hS fun a hf=>?_
   refine zp 7 hf hS fun a hf=>?_
   obtain ⟨e,he,hF⟩:=bs_ hF
   obtain ⟨p,o3,cs7,hx12,hr7,H⟩:=pre_iaddr H Tryz.underlying35 TF.sz3 1 rfl he
   refine zP 8 rfl rfl rfl rfl hf hS (fun w=>rq_iaddrE hf rfl rfl rfl hx12 w) fun a hf=>?_
   obtain rfl:=hr7
   refine strT (H.lk 1 0 0 [0]) (fun w H=>H.lk 1 0 0 []) fun hS=>?_
   refine zS 9 [9,10,11,12,13] rfl rfl rfl rfl hf hS (fun w H=>rq_loadI hf H TF.ls3 0 0 rfl rfl rfl) fun a hf=>?_
   refine nn 10 rfl (bl hf H 3 ([e]:List Int) [(.int .i64 e)] (el1 (y:=e) (rfl)) fun A12 a w hf H=>?_)
   have hS:=H.lk 1 0 0 [0]
   refine aS hS ?_
   obtain ⟨Fs2,E3,H,-⟩:=H.thaw rfl
   have H:=H.rowSh 0 rfl
   have H:=H.pB hS0 hl
   have H:=H.pB hS0 hl2
   have H:=H.pB hS0 hl3
   have H:=H.argB (by simpa using hS0) (p:=MP.val [(.slice A y2.2.code.length c2)] (y2.2.code:List By)) (by rw [hx5]; exact hl)
   obtain ⟨l2,hl2_,hF⟩:=bs_ hF
   refine nn 11 rfl (op_appR hf H Tryz.underlying35 TF.ai3 rfl (by decide) 0 1 rfl rfl rfl rfl (.inr rfl) hl2_ (by decide) fun E4 A13 c11 a w hf H=>?_)
   refine ⟨fun h=>absurd h (by decide),?_⟩
   refine tp 12 rfl rfl hf (by kernel_rfl) (fun h=>absurd h (by decide)) rfl fun a hf=>?_
   refine nn 13 rfl (op_storeB hf H 0 TF.sz35 rfl rfl rfl rfl rfl rfl (nle rfl) fun w H=>?_)
   refine ⟨fun h=>absurd h (by decide),?_⟩
   refine dk ?_
   have hf:=hf.pn [4,5]
   refine blk_n (then_n (sq (reg (lN 0 hf H TF.la45 fun a hf=>?_))))
   refine sB 1 hf H TF.sz45 fun w H=>?_
   refine wer ?_
   have H:=H.rowOwn 0 rfl rfl
   obtain ⟨F5,H⟩:=H.freezeOwn 0 rfl
   have H:=H.lend 0 rfl
   obtain rfl:=oi hF
   refine ret_1 hf rfl (rv_cellN hf H 1 TF.la45 rfl rfl rfl) ?_
   have hN:=H.endsB1 3 rfl
   exact ⟨_,rfl,H.chg,_,H.boxAt 3 rfl,(L1CurP_mk (x:=y2.2) (eB 3 (H.get 1 rfl))),⟨fxc hx5,hx5⟩,F5,⟨_,Route_ownmk (x:=({ Start:=y.1.Start,Fibers:=l2 }:Route)) (H.ownAt 0 rfl),rfl⟩,by first | exact hN | simpa using hN⟩
  refine wp_skip (blk_n (then_n (sq (reg (lN 0 hf H TF.la45 fun a hf=>?_)))))
  refine sB 1 hf H TF.sz45 fun w H=>?_
  refine wer ?_
  obtain rfl:=oi hF
  refine ret_1 hf rfl (rv_cellN hf H 1 TF.la45 rfl rfl rfl) ?_
  have hN:=H.endsB1 3 rfl
  exact ⟨_,rfl,H.chg,_,H.boxAt 3 rfl,(L1CurP_mk (x:=y2.2) (eB 3 (H.get 0 rfl))),⟨fxc hx5,hx5⟩,F2,⟨_,Route_ownmk (x:=y.1) (H.ownAt 0 rfl),rfl⟩,by first | exact hN | simpa using hN⟩
 refine wp_skip (blk_n (then_n (sq (reg (lN 0 hf H TF.la45 fun a hf=>?_)))))
 refine sB 1 hf H TF.sz45 fun w H=>?_
 refine wer ?_
 obtain rfl:=oi hF
 refine ret_1 hf rfl (rv_cellN hf H 1 TF.la45 rfl rfl rfl) ?_
 have hN:=H.endsB1 3 rfl
 exact ⟨_,rfl,H.chg,_,H.boxAt 3 rfl,(L1CurP_mk (x:=y2.2) (eB 3 (H.get 0 rfl))),⟨fxc hx5,hx5⟩,F2,⟨_,Route_ownmk (x:=y.1) (H.ownAt 0 rfl),rfl⟩,by first | exact hN | simpa using hN⟩
theorem spec_l1Cur_of_ok {S:Nat→Prop} {b0:Nat} {cs0:List Value} {v1_:Value} {c:L1CurP} {list:List ByteArray} {r:ByteArray×L1CurP} (hp0:w0.heap[b0]?=some (.cells cs0.toArray 109 (0,0))) (hr0:GoTy.rep w0 S cs0 c) (hS0:¬S b0) (h1:VR w0 S v1_ list) (hF:spec_l1Cur_of fu c list=some r) :
    Calls Tryz.prog 231 [(.pointer (some ⟨b0,0,none⟩)),v1_].toArray w0 fun e w'=>∃ v,e=.returned v∧(Chg w0 w' [b0]∧∃ cs',w'.heap[b0]?=some (.cells cs'.toArray 109 (0,0))∧GoTy.rep w' (St ⟨w0,[b0]⟩ S [⟨b0,109,cs'⟩] [] [] false) cs' r.2∧(cs'[0]?=cs0[0]?∧r.2.code=c.code)∧VR w' (St ⟨w0,[b0]⟩ S [⟨b0,109,cs'⟩] [] [] true) v r.1):=by
 obtain ⟨A,c2,rfl,hl⟩:=L1CurP_cells hr0
 obtain ⟨A2,c3,rfl,hl2⟩:=VR_list h1
 have H:=Mem.startB S hp0
 have H:=H.pB hS0 hl
 have H:=H.pB hS0 hl2
 refine en Tryz.func231 fun a hf=>?_
 rw [spec_l1Cur_of] at hF
 refine sqz (pz 1 hf fun a hf=>?_)
 refine wr (pz 4 hf fun a hf=>?_)
 obtain ⟨y,hy,hF⟩:=bs_ hF
 refine oc hf TF.cl121 (spec_l1Cur_pick_ok (S:=NB b0) (H.boxAt 0 rfl) ((L1CurP_mk (x:=c) (H.nb 0 rfl (H.get 1 rfl)))) (fun h=>h rfl) mk_int hy) fun v w a hp3 hf=>?_
 obtain ⟨hch,cs3,hbx,hr3,⟨hx,hx2⟩,hs⟩:=hp3
 obtain rfl:=VR_int hs
 obtain ⟨A3,c4,rfl,hl3⟩:=L1CurP_cells hr3
 obtain ⟨rfl,rfl⟩:=fx_slice hx rfl rfl
 have H:=H.wroteBox 0 rfl hch hbx
 have H:=H.pX 1 rfl hx2
 obtain ⟨e,he,hF⟩:=bs_ hF
 refine wl0 rfl (op_iaddr hf H Tryz.underlying24 TF.sz9 1 rfl rfl rfl he (by decide) fun p o3 cs4 a hf hr4 H=>?_)
 obtain rfl:=hr4
 refine oq hf (rq_loadI hf H TF.ls9 0 0 rfl rfl rfl) fun a hf=>?_
 refine pz 1 hf fun a hf=>?_
 refine wer ?_
 obtain rfl:=oi hF
 refine rT hf ?_
 exact ⟨_,rfl,H.chg,_,H.boxAt 0 rfl,(L1CurP_mk (x:=y.2) (eB 0 (H.get 1 rfl))),⟨fxc hx2,hx2⟩,mk_str⟩
theorem spec_l1Cur_anyNetwork_ok {S:Nat→Prop} {b0:Nat} {cs0:List Value} {c:L1CurP} {r:Network×L1CurP} (hp0:w0.heap[b0]?=some (.cells cs0.toArray 109 (0,0))) (hr0:GoTy.rep w0 S cs0 c) (hS0:¬S b0) (hF:spec_l1Cur_anyNetwork fu c=some r) :
    Calls Tryz.prog 145 [(.pointer (some ⟨b0,0,none⟩))].toArray w0 fun e w'=>∃ v,e=.returned v∧(Chg w0 w' [b0]∧∃ cs',w'.heap[b0]?=some (.cells cs'.toArray 109 (0,0))∧GoTy.rep w' (St ⟨w0,[b0]⟩ S [⟨b0,109,cs'⟩] [] [] false) cs' r.2∧(cs'[0]?=cs0[0]?∧r.2.code=c.code)∧∃ F0,VO w' F0 v r.1∧New w0 w' F0):=by
 obtain ⟨A,c2,rfl,hl⟩:=L1CurP_cells hr0
 have H:=Mem.startB S hp0
 have H:=H.pB hS0 hl
 refine en Tryz.func145 fun a hf=>?_
 rw [spec_l1Cur_anyNetwork] at hF
 refine sq (reg (aL hf H TF.zv27 fun b2 a w hf H=>?_))
 refine wr (pz 1 hf fun a hf=>?_)
 obtain ⟨y,hy,hF⟩:=bs_ hF
 refine oc hf TF.cl230 (spec_l1Cur_network_ok (S:=NB b0) (H.boxAt 1 rfl) ((L1CurP_mk (x:=c) (H.nb 1 rfl (H.get 0 rfl)))) (fun h=>h rfl) hy) fun v w a hp2 hf=>?_
 obtain ⟨hch,cs2,hbx,hr2,⟨hx,hx2⟩,hs⟩:=hp2
 obtain ⟨F,hp3,hN⟩:=hs
 obtain ⟨A2,c3,F2,A3,c4,F3,rfl,rfl,hl2,hl3⟩:=Network_vo hp3
 obtain ⟨A4,c5,rfl,hl4⟩:=L1CurP_cells hr2
 obtain ⟨rfl,rfl⟩:=fx_slice hx rfl rfl
 have H:=H.bO2 1 rfl hch hbx hN hl2 hl3
 have H:=H.pX 0 rfl hx2
 have H:=H.lend 0 rfl
 have H:=H.lend 1 rfl
 obtain ⟨Fs,E,H,-⟩:=H.thaw rfl
 have H:=H.rowSh 0 rfl
 have H:=H.pB hS0 hl
 have H:=H.argB (by simpa using hS0) (p:=MP.val [(.slice A y.2.code.length c2)] (y.2.code:List By)) (by rw [hx2]; exact hl)
 have H:=H.lend 0 rfl
 obtain ⟨Fs2,E2,H,-⟩:=H.thaw rfl
 have H:=H.rowSh 0 rfl
 have H:=H.pB hS0 hl
 have H:=H.argB (by simpa using hS0) (p:=MP.val [(.slice A y.2.code.length c2)] (y.2.code:List By)) (by rw [hx2]; exact hl)
 refine aL hf H TF.zv27 fun b3 a w hf H=>?_
 refine sB 0 hf H TF.sz27 fun w H=>?_
 refine we (sqz (pz 1 hf fun a hf=>?_))
 refine lB 0 hf H TF.ls25 fun a hf=>?_
 refine pz 2 hf fun a hf=>?_
 refine wl_end (then_n (ib hF hf (fun hc hF=>?_) fun hc hF=>?_))
 ·refine sq (reg (lN 0 hf H TF.la27 fun a hf=>?_))
  refine sB 1 hf H TF.sz27 fun w H=>?_
  refine wl_end (then_n (wp_ret (then_r (?_))))
  have H:=H.rowOwn 1 rfl rfl
  obtain ⟨F4,H⟩:=H.freezeOwn 1 rfl
  have H:=H.lend 0 rfl
  have H:=H.rowOwn 0 rfl rfl
  obtain ⟨F5,H⟩:=H.freezeOwn 0 rfl
  have H:=H.lend 0 rfl
  have H:=H.frontD 1 rfl
  obtain rfl:=oi hF
  refine ret_1 hf rfl (rv_cellN hf H 1 TF.la27 rfl rfl rfl) ?_
  have hN:=H.endsB2 2 rfl
  exact ⟨_,rfl,H.chg,_,H.boxAt 2 rfl,(L1CurP_mk (x:=y.2) (eB 2 (H.get 2 rfl))),⟨fxc hx2,hx2⟩,(F4++F5),⟨_,Network_ownmk (x:=y.1) (H.ownAt 0 rfl) (H.ownAt 1 rfl),rfl⟩,by first | exact hN | simpa using hN⟩
 refine wp_skip (then_n (sqz (pz 2 hf fun a hf=>?_)))
 refine lB 0 hf H TF.ls25 fun a hf=>?_
 refine pz 1 hf fun a hf=>?_
 obtain ⟨y2,hy2,hF⟩:=bs_ hF
 refine oc hf TF.cl121 (spec_l1Cur_pick_ok (S:=NB b0) (H.boxAt 2 rfl) ((L1CurP_mk (x:=y.2) (H.nb 2 rfl (H.get 0 rfl)))) (fun h=>h rfl) mk_int hy2) fun v2 w a hp4 hf=>?_
 obtain ⟨hch2,cs3,hbx2,hr3,⟨hx3,hx4⟩,hs2⟩:=hp4
 obtain rfl:=VR_int hs2
 obtain ⟨A5,c6,rfl,hl5⟩:=L1CurP_cells hr3
 obtain ⟨rfl,rfl⟩:=fx_slice hx3 rfl rfl
 have hx5:=hx4.trans hx2
 have H:=H.wroteBox 2 rfl hch2 hbx2
 have H:=H.pX 0 rfl hx4
 refine pz 1 hf fun a hf=>?_
 refine wr (pz 1 hf fun a hf=>?_)
 refine lB 0 hf H TF.ls25 fun a hf=>?_
 refine pz 1 hf fun a hf=>?_
 obtain ⟨e,he,hF⟩:=bs_ hF
 refine wl0 rfl (op_iaddrR hf H Tryz.underlying25 TF.sz180 0 rfl rfl rfl he (by decide) fun p o2 cs4 a hf hA hr4 hk=>?_)
 obtain rfl:=Fiber_cells hr4
 refine oq hf (rq_loadN hf TF.la180 rfl rfl (fun j c hj=>hk _ c (by simpa using hj))) fun a hf=>?_
 refine aL hf H TF.zv180 fun b4 a w hf H=>?_
 refine sB 0 hf H TF.sz180 fun w H=>?_
 have hf:=hf.pn [0,2,3,4,5]
 refine we (sqz (pz 1 hf fun a hf=>?_))
 obtain ⟨y3,hy3,hF⟩:=bs_ hF
 refine oc hf TF.cl121 (spec_l1Cur_pick_ok (S:=NB b0) (H.boxAt 3 rfl) ((L1CurP_mk (x:=y2.2) (H.nb 3 rfl (H.get 0 rfl)))) (fun h=>h rfl) mk_int hy3) fun v3 w a hp5 hf=>?_
 obtain ⟨hch3,cs5,hbx3,hr5,⟨hx6,hx7⟩,hs3⟩:=hp5
 obtain rfl:=VR_int hs3
 obtain ⟨A6,c7,rfl,hl6⟩:=L1CurP_cells hr5
 obtain ⟨rfl,rfl⟩:=fx_slice hx6 rfl rfl
 have hx8:=hx7.trans hx5
 have H:=H.wroteBox 3 rfl hch3 hbx3
 have H:=H.pX 0 rfl hx7
 refine wl_end (then_n (wp_block (sqz (pz 2 hf fun a hf=>?_))))
 refine wl_end (then_n (ib hF hf (fun hc2 hF=>?_) fun hc2 hF=>?_))
 ·refine dw [6] 7 fun w hb=>?_
  have H:=H.keep hb
  refine zp 0 hf trivial fun a hf=>?_
  refine strT (H.lk 2 0 0 []) (fun w H=>trivial) fun hS=>?_
  refine zS 1 [1,5,6] rfl rfl rfl rfl hf hS (fun w H=>rq_loadB hf H TF.ls24 0 rfl rfl rfl) fun a hf=>?_
  refine zp 2 hf hS fun a hf=>?_
  refine nn 3 rfl (bl hf H 9 ([(⟨#[98]⟩:ByteArray),ByteArray.empty,(⟨#[65]⟩:ByteArray),(⟨#[97,98,99,100,101,102,103,104]⟩:ByteArray),(⟨#[97,98,99,100,101,102,103,104,105]⟩:ByteArray),(⟨#[120,49]⟩:ByteArray)]:List ByteArray) [(.string (⟨#[98]⟩:ByteArray)),(.string ByteArray.empty),(.string (⟨#[65]⟩:ByteArray)),(.string (⟨#[97,98,99,100,101,102,103,104]⟩:ByteArray)),(.string (⟨#[97,98,99,100,101,102,103,104,105]⟩:ByteArray)),(.string (⟨#[120,49]⟩:ByteArray))] (elL [([(.string (⟨#[98]⟩:ByteArray))],((⟨#[98]⟩:ByteArray):ByteArray)),([(.string ByteArray.empty)],(ByteArray.empty:ByteArray)),([(.string (⟨#[65]⟩:ByteArray))],((⟨#[65]⟩:ByteArray):ByteArray)),([(.string (⟨#[97,98,99,100,101,102,103,104]⟩:ByteArray))],((⟨#[97,98,99,100,101,102,103,104]⟩:ByteArray):ByteArray)),([(.string (⟨#[97,98,99,100,101,102,103,104,105]⟩:ByteArray))],((⟨#[97,98,99,100,101,102,103,104,105]⟩:ByteArray):ByteArray)),([(.string (⟨#[120,49]⟩:ByteArray))],((⟨#[120,49]⟩:ByteArray):ByteArray))] (al1 (x:=((⟨#[98]⟩:ByteArray):ByteArray)) (rfl) (al1 (x:=(ByteArray.empty:ByteArray)) (rfl) (al1 (x:=((⟨#[65]⟩:ByteArray):ByteArray)) (rfl) (al1 (x:=((⟨#[97,98,99,100,101,102,103,104]⟩:ByteArray):ByteArray)) (rfl) (al1 (x:=((⟨#[97,98,99,100,101,102,103,104,105]⟩:ByteArray):ByteArray)) (rfl) (al1 (x:=((⟨#[120,49]⟩:ByteArray):ByteArray)) (rfl) al0))))))) fun A7 a w hf H=>?_)
  have hS:=H.lk 2 0 0 []
  refine aS hS ?_
  have H:=H.freeze 0 rfl
  obtain ⟨y4,hy4,hF⟩:=bs_ hF
  refine nn 4 rfl (oC hf TF.cl231 (spec_l1Cur_of_ok (S:=NB b0) (H.boxAt 3 rfl) ((L1CurP_mk (x:=y3.2) (H.nb 3 rfl (H.get 1 rfl)))) (fun h=>h rfl) (mk_list (H.nb 3 rfl (H.get 0 rfl))) hy4) fun v4 w a hp6 hf=>?_)
  obtain ⟨hch4,cs6,hbx4,hr6,⟨hx9,hx10⟩,hs4⟩:=hp6
  obtain rfl:=VR_str hs4
  obtain ⟨A8,c8,rfl,hl7⟩:=L1CurP_cells hr6
  obtain ⟨rfl,rfl⟩:=fx_slice hx9 rfl rfl
  have hx11:=hx10.trans hx8
  have H:=H.wroteBox 3 rfl hch4 hbx4
  have H:=H.pX 1 rfl hx10
  have hS:=H.lk 2 0 0 []
  refine aS hS ?_
  obtain ⟨e2,he2,hF⟩:=bs_ hF
  refine nn 5 rfl (op_iaddrR hf H Tryz.underlying24 TF.sz9 1 rfl rfl rfl he2 (by decide) fun p2 o3 cs7 a hf hA2 hr7 hk2=>?_)
  obtain rfl:=hr7
  have hS:=H.lk 2 0 0 []
  refine aS hS ?_
  refine nn 6 rfl (op_storeR (e':=y4.1) (o:=o3) (off:=0) hf H TF.sz9 1 rfl rfl rfl rfl rfl (nle rfl) rfl hA2 he2 (st_full rfl) fun w H=>?_)
  replace hf:Fr a 104 [(0,(.pointer (some ⟨b0,0,none⟩))),(2,(.pointer (some ⟨b2,0,none⟩))),(3,(.pointer (some ⟨b3,0,none⟩))),(4,(.int .i64 y2.1)),(5,(.pointer (some ⟨b4,0,none⟩))),(27,(.pointer (some ⟨b3,0,none⟩))),(28,(.slice A2 y.1.Nodes.length c3)),(29,(.pointer (some ⟨b0,0,none⟩))),(30,(.slice A7 6 6)),(31,(.string y4.1)),(32,(.pointer (some ⟨p2,o3 + 0,none⟩)))]:=hf.prune [0,2,3,4,5,27,28,29,30,31,32] rfl
  replace hf:Fr a 104 [(0,(.pointer (some ⟨b0,0,none⟩))),(2,(.pointer (some ⟨b2,0,none⟩))),(3,(.pointer (some ⟨b3,0,none⟩))),(4,(.int .i64 y2.1)),(5,(.pointer (some ⟨b4,0,none⟩))),(27,(.pointer (some ⟨b3,0,none⟩))),(28,(.slice A2 (y.1.Nodes.set (0:Int).toNat y4.1).length c3)),(29,(.pointer (some ⟨b0,0,none⟩))),(30,(.slice A7 6 6)),(31,(.string y4.1)),(32,(.pointer (some ⟨p2,o3 + 0,none⟩)))]:=by simpa only [List.length_set,Nat.add_zero] using hf
  replace H:Mem ⟨w0,[b0]⟩ S [⟨b4,180,[(.int .i64 e.A),(.int .i64 e.B),(.int .i64 e.Length),(.int .i64 e.Risk)]⟩,⟨b3,27,[(.slice A2 (y.1.Nodes.set (0:Int).toNat y4.1).length c3),(.slice A3 y.1.Fibers.length c4)]⟩,⟨b2,27,[(.slice none 0 0),(.slice none 0 0)]⟩,⟨b0,109,[(.slice A y4.2.code.length c2),(.int .i64 y4.2.at_),(.int .u64 y4.2.seed.n)]⟩] [⟨.sh true,E2,A3,c4,(y.1.Fibers:List Fiber)⟩,⟨.sh true,E,A2,c3,(y.1.Nodes.set (0:Int).toNat y4.1:List ByteArray)⟩] [] [(false,MP.val [(.slice A y4.2.code.length c2)] (y4.2.code:List By)),(true,MP.val [(.slice A7 6 6)] ([(⟨#[98]⟩:ByteArray),ByteArray.empty,(⟨#[65]⟩:ByteArray),(⟨#[97,98,99,100,101,102,103,104]⟩:ByteArray),(⟨#[97,98,99,100,101,102,103,104,105]⟩:ByteArray),(⟨#[120,49]⟩:ByteArray)]:List ByteArray)),(false,MP.val [(.slice A y3.2.code.length c2)] (y3.2.code:List By)),(false,MP.val [(.slice A y2.2.code.length c2)] (y2.2.code:List By)),(false,MP.val [(.slice A y.2.code.length c2)] (y.2.code:List By)),(false,MP.val [(.slice A c.code.length c2)] (c.code:List By))] w:=by first | (simp only [List.length_set]; exact H) | (simp only [List.length_set] at H ⊢; exact H)
  refine ⟨fun h=>absurd h (by decide),?_⟩
  refine dk ?_
  refine blk_n (then_n (sqz (pz 1 hf fun a hf=>?_)))
  refine lB 1 hf H TF.ls25 fun a hf=>?_
  refine pz 1 hf fun a hf=>?_
  refine lN 0 hf H TF.la180 fun a hf=>?_
  obtain ⟨e3,he3,hF⟩:=bs_ hF
  refine wl0 rfl (op_iaddrR hf H Tryz.underlying25 TF.sz180 0 rfl rfl rfl he3 (by decide) fun p3 o4 cs8 a hf hA3 hr8 hk3=>?_)
  obtain rfl:=Fiber_cells hr8
  refine wl0 rfl (op_storeR (e':=e) (o:=o4) (off:=0) hf H TF.sz180 0 rfl rfl rfl rfl rfl (nle rfl) rfl hA3 he3 (st_full (Fiber_mk (x:=e))) fun w H=>?_)
  replace hf:Fr a 104 [(2,(.pointer (some ⟨b2,0,none⟩))),(3,(.pointer (some ⟨b3,0,none⟩))),(4,(.int .i64 y2.1)),(5,(.pointer (some ⟨b4,0,none⟩))),(98,(.pointer (some ⟨b3,1,none⟩))),(99,(.slice A3 y.1.Fibers.length c4)),(100,(.int .i64 y2.1)),(101,(.agg #[(.int .i64 e.A),(.int .i64 e.B),(.int .i64 e.Length),(.int .i64 e.Risk)])),(102,(.pointer (some ⟨p3,o4 + 0,none⟩)))]:=hf.prune [2,3,4,5,98,99,100,101,102] rfl
  replace hf:Fr a 104 [(2,(.pointer (some ⟨b2,0,none⟩))),(3,(.pointer (some ⟨b3,0,none⟩))),(4,(.int .i64 y2.1)),(5,(.pointer (some ⟨b4,0,none⟩))),(98,(.pointer (some ⟨b3,1,none⟩))),(99,(.slice A3 (y.1.Fibers.set (y2.1:Int).toNat e).length c4)),(100,(.int .i64 y2.1)),(101,(.agg #[(.int .i64 e.A),(.int .i64 e.B),(.int .i64 e.Length),(.int .i64 e.Risk)])),(102,(.pointer (some ⟨p3,o4 + 0,none⟩)))]:=by simpa only [List.length_set,Nat.add_zero] using hf
  replace H:Mem ⟨w0,[b0]⟩ S [⟨b4,180,[(.int .i64 e.A),(.int .i64 e.B),(.int .i64 e.Length),(.int .i64 e.Risk)]⟩,⟨b3,27,[(.slice A2 (y.1.Nodes.set (0:Int).toNat y4.1).length c3),(.slice A3 (y.1.Fibers.set (y2.1:Int).toNat e).length c4)]⟩,⟨b2,27,[(.slice none 0 0),(.slice none 0 0)]⟩,⟨b0,109,[(.slice A y4.2.code.length c2),(.int .i64 y4.2.at_),(.int .u64 y4.2.seed.n)]⟩] [⟨.sh true,E2,A3,c4,(y.1.Fibers.set (y2.1:Int).toNat e:List Fiber)⟩,⟨.sh true,E,A2,c3,(y.1.Nodes.set (0:Int).toNat y4.1:List ByteArray)⟩] [] [(false,MP.val [(.slice A y4.2.code.length c2)] (y4.2.code:List By)),(true,MP.val [(.slice A7 6 6)] ([(⟨#[98]⟩:ByteArray),ByteArray.empty,(⟨#[65]⟩:ByteArray),(⟨#[97,98,99,100,101,102,103,104]⟩:ByteArray),(⟨#[97,98,99,100,101,102,103,104,105]⟩:ByteArray),(⟨#[120,49]⟩:ByteArray)]:List ByteArray)),(false,MP.val [(.slice A y3.2.code.length c2)] (y3.2.code:List By)),(false,MP.val [(.slice A y2.2.code.length c2)] (y2.2.code:List By)),(false,MP.val [(.slice A y.2.code.length c2)] (y.2.code:List By)),(false,MP.val [(.slice A c.code.length c2)] (c.code:List By))] w:=by first | (simp only [List.length_set]; exact H) | (simp only [List.length_set] at H ⊢; exact H)
  refine wr (lN 1 hf H TF.la27 fun a hf=>?_)
  refine sB 2 hf H TF.sz27 fun w H=>?_
  refine wer ?_
  have H:=H.rowOwn 1 rfl rfl
  obtain ⟨F6,H⟩:=H.freezeOwn 1 rfl
  have H:=H.lend 0 rfl
  have H:=H.rowOwn 0 rfl rfl
  obtain ⟨F7,H⟩:=H.freezeOwn 0 rfl
  have H:=H.lend 0 rfl
  have H:=H.frontD 1 rfl
  obtain rfl:=oi hF
  refine ret_1 hf rfl (rv_cellN hf H 2 TF.la27 rfl rfl rfl) ?_
  have hN:=H.endsB2 3 rfl
  exact ⟨_,rfl,H.chg,_,H.boxAt 3 rfl,(L1CurP_mk (x:=y4.2) (eB 3 (H.get 2 rfl))),⟨fxc hx11,hx11⟩,(F6++F7),⟨_,Network_ownmk (x:=({ Nodes:=y.1.Nodes.set (0:Int).toNat y4.1,Fibers:=y.1.Fibers.set (y2.1:Int).toNat e }:Network)) (H.ownAt 0 rfl) (H.ownAt 1 rfl),rfl⟩,by first | exact hN | simpa using hN⟩
 refine sqz (pz 2 hf fun a hf=>?_)
 refine wl_end (then_n (ib hF hf (fun hc3 hF=>?_) fun hc3 hF=>?_))
 ·refine reg (pz 1 hf fun a hf=>?_)
  obtain ⟨y5,hy5,hF⟩:=bs_ hF
  refine oc hf TF.cl121 (spec_l1Cur_pick_ok (S:=NB b0) (H.boxAt 3 rfl) ((L1CurP_mk (x:=y3.2) (H.nb 3 rfl (H.get 0 rfl)))) (fun h=>h rfl) mk_int hy5) fun v5 w a hp7 hf=>?_
  obtain ⟨hch5,cs9,hbx5,hr9,⟨hx12,hx13⟩,hs5⟩:=hp7
  obtain rfl:=VR_int hs5
  obtain ⟨A9,c9,rfl,hl8⟩:=L1CurP_cells hr9
  obtain ⟨rfl,rfl⟩:=fx_slice hx12 rfl rfl
  have hx14:=hx13.trans hx8
  have H:=H.wroteBox 3 rfl hch5 hbx5
  have H:=H.pX 0 rfl hx13
  refine pz 2 hf fun a hf=>?_
  refine sB 0 hf H TF.sz3 fun w H=>?_
  refine wl_end (blk_n (then_n (sqz (pz 1 hf fun a hf=>?_))))
  refine lB 1 hf H TF.ls25 fun a hf=>?_
  refine pz 1 hf fun a hf=>?_
  refine lN 0 hf H TF.la180 fun a hf=>?_
  obtain ⟨e4,he4,hF⟩:=bs_ hF
  refine wl0 rfl (op_iaddrR hf H Tryz.underlying25 TF.sz180 0 rfl rfl rfl he4 (by decide) fun p4 o5 cs10 a hf hA4 hr10 hk4=>?_)
  obtain rfl:=Fiber_cells hr10
  refine wl0 rfl (op_storeR (e':=({ A:=w64 (y5.1 - 1),B:=e.B,Length:=e.Length,Risk:=e.Risk }:Fiber)) (o:=o5) (off:=0) hf H TF.sz180 0 rfl rfl rfl rfl rfl (nle rfl) rfl hA4 he4 (st_full (Fiber_mk (x:=({ A:=w64 (y5.1 - 1),B:=e.B,Length:=e.Length,Risk:=e.Risk }:Fiber)))) fun w H=>?_)
  replace hf:Fr a 104 [(2,(.pointer (some ⟨b2,0,none⟩))),(3,(.pointer (some ⟨b3,0,none⟩))),(4,(.int .i64 y2.1)),(5,(.pointer (some ⟨b4,0,none⟩))),(98,(.pointer (some ⟨b3,1,none⟩))),(99,(.slice A3 y.1.Fibers.length c4)),(100,(.int .i64 y2.1)),(101,(.agg #[(.int .i64 (w64 (y5.1 - 1))),(.int .i64 e.B),(.int .i64 e.Length),(.int .i64 e.Risk)])),(102,(.pointer (some ⟨p4,o5 + 0,none⟩)))]:=hf.prune [2,3,4,5,98,99,100,101,102] rfl
  replace hf:Fr a 104 [(2,(.pointer (some ⟨b2,0,none⟩))),(3,(.pointer (some ⟨b3,0,none⟩))),(4,(.int .i64 y2.1)),(5,(.pointer (some ⟨b4,0,none⟩))),(98,(.pointer (some ⟨b3,1,none⟩))),(99,(.slice A3 (y.1.Fibers.set (y2.1:Int).toNat ({ A:=w64 (y5.1 - 1),B:=e.B,Length:=e.Length,Risk:=e.Risk }:Fiber)).length c4)),(100,(.int .i64 y2.1)),(101,(.agg #[(.int .i64 (w64 (y5.1 - 1))),(.int .i64 e.B),(.int .i64 e.Length),(.int .i64 e.Risk)])),(102,(.pointer (some ⟨p4,o5 + 0,none⟩)))]:=by simpa only [List.length_set,Nat.add_zero] using hf
  replace H:Mem ⟨w0,[b0]⟩ S [⟨b4,180,[(.int .i64 (w64 (y5.1 - 1))),(.int .i64 e.B),(.int .i64 e.Length),(.int .i64 e.Risk)]⟩,⟨b3,27,[(.slice A2 y.1.Nodes.length c3),(.slice A3 (y.1.Fibers.set (y2.1:Int).toNat ({ A:=w64 (y5.1 - 1),B:=e.B,Length:=e.Length,Risk:=e.Risk }:Fiber)).length c4)]⟩,⟨b2,27,[(.slice none 0 0),(.slice none 0 0)]⟩,⟨b0,109,[(.slice A y5.2.code.length c2),(.int .i64 y5.2.at_),(.int .u64 y5.2.seed.n)]⟩] [⟨.sh true,E2,A3,c4,(y.1.Fibers.set (y2.1:Int).toNat ({ A:=w64 (y5.1 - 1),B:=e.B,Length:=e.Length,Risk:=e.Risk }:Fiber):List Fiber)⟩,⟨.sh true,E,A2,c3,(y.1.Nodes:List ByteArray)⟩] [] [(false,MP.val [(.slice A y5.2.code.length c2)] (y5.2.code:List By)),(false,MP.val [(.slice A y3.2.code.length c2)] (y3.2.code:List By)),(false,MP.val [(.slice A y2.2.code.length c2)] (y2.2.code:List By)),(false,MP.val [(.slice A y.2.code.length c2)] (y.2.code:List By)),(false,MP.val [(.slice A c.code.length c2)] (c.code:List By))] w:=by first | (simp only [List.length_set]; exact H) | (simp only [List.length_set] at H ⊢; exact H)
  refine wr (lN 1 hf H TF.la27 fun a hf=>?_)
  refine sB 2 hf H TF.sz27 fun w H=>?_
  refine wer ?_
  have H:=H.rowOwn 1 rfl rfl
  obtain ⟨F8,H⟩:=H.freezeOwn 1 rfl
  have H:=H.lend 0 rfl
  have H:=H.rowOwn 0 rfl rfl
  obtain ⟨F9,H⟩:=H.freezeOwn 0 rfl
  have H:=H.lend 0 rfl
  have H:=H.frontD 1 rfl
  obtain rfl:=oi hF
  refine ret_1 hf rfl (rv_cellN hf H 2 TF.la27 rfl rfl rfl) ?_
  have hN:=H.endsB2 3 rfl
  exact ⟨_,rfl,H.chg,_,H.boxAt 3 rfl,(L1CurP_mk (x:=y5.2) (eB 3 (H.get 2 rfl))),⟨fxc hx14,hx14⟩,(F8++F9),⟨_,Network_ownmk (x:=({ Nodes:=y.1.Nodes,Fibers:=y.1.Fibers.set (y2.1:Int).toNat ({ A:=w64 (y5.1 - 1),B:=e.B,Length:=e.Length,Risk:=e.Risk }:Fiber) }:Network)) (H.ownAt 0 rfl) (H.ownAt 1 rfl),rfl⟩,by first | exact hN | simpa using hN⟩
 refine sqz (pz 2 hf fun a hf=>?_)
 refine wl_end (then_n (ib hF hf (fun hc4 hF=>?_) fun hc4 hF=>?_))
 ·refine reg (pz 1 hf fun a hf=>?_)
  obtain ⟨y6,hy6,hF⟩:=bs_ hF
  refine oc hf TF.cl121 (spec_l1Cur_pick_ok (S:=NB b0) (H.boxAt 3 rfl) ((L1CurP_mk (x:=y3.2) (H.nb 3 rfl (H.get 0 rfl)))) (fun h=>h rfl) mk_int hy6) fun v6 w a hp8 hf=>?_
  obtain ⟨hch6,cs11,hbx6,hr11,⟨hx15,hx16⟩,hs6⟩:=hp8
  obtain rfl:=VR_int hs6
  obtain ⟨A10,c10,rfl,hl9⟩:=L1CurP_cells hr11
  obtain ⟨rfl,rfl⟩:=fx_slice hx15 rfl rfl
  have hx17:=hx16.trans hx8
  have H:=H.wroteBox 3 rfl hch6 hbx6
  have H:=H.pX 0 rfl hx16
  refine pz 2 hf fun a hf=>?_
  refine sB 0 hf H TF.sz3 fun w H=>?_
  have hf:=hf.pn [2,3,4,5]
  refine wl_end (blk_n (then_n (sqz (pz 1 hf fun a hf=>?_))))
  refine lB 1 hf H TF.ls25 fun a hf=>?_
  refine pz 1 hf fun a hf=>?_
  refine lN 0 hf H TF.la180 fun a hf=>?_
  obtain ⟨e5,he5,hF⟩:=bs_ hF
  refine wl0 rfl (op_iaddrR hf H Tryz.underlying25 TF.sz180 0 rfl rfl rfl he5 (by decide) fun p5 o6 cs12 a hf hA5 hr12 hk5=>?_)
  obtain rfl:=Fiber_cells hr12
  refine wl0 rfl (op_storeR (e':=({ A:=e.A,B:=w64 (y6.1 - 1),Length:=e.Length,Risk:=e.Risk }:Fiber)) (o:=o6) (off:=0) hf H TF.sz180 0 rfl rfl rfl rfl rfl (nle rfl) rfl hA5 he5 (st_full (Fiber_mk (x:=({ A:=e.A,B:=w64 (y6.1 - 1),Length:=e.Length,Risk:=e.Risk }:Fiber)))) fun w H=>?_)
  replace hf:Fr a 104 [(2,(.pointer (some ⟨b2,0,none⟩))),(3,(.pointer (some ⟨b3,0,none⟩))),(4,(.int .i64 y2.1)),(5,(.pointer (some ⟨b4,0,none⟩))),(98,(.pointer (some ⟨b3,1,none⟩))),(99,(.slice A3 y.1.Fibers.length c4)),(100,(.int .i64 y2.1)),(101,(.agg #[(.int .i64 e.A),(.int .i64 (w64 (y6.1 - 1))),(.int .i64 e.Length),(.int .i64 e.Risk)])),(102,(.pointer (some ⟨p5,o6 + 0,none⟩)))]:=hf.prune [2,3,4,5,98,99,100,101,102] rfl
  replace hf:Fr a 104 [(2,(.pointer (some ⟨b2,0,none⟩))),(3,(.pointer (some ⟨b3,0,none⟩))),(4,(.int .i64 y2.1)),(5,(.pointer (some ⟨b4,0,none⟩))),(98,(.pointer (some ⟨b3,1,none⟩))),(99,(.slice A3 (y.1.Fibers.set (y2.1:Int).toNat ({ A:=e.A,B:=w64 (y6.1 - 1),Length:=e.Length,Risk:=e.Risk }:Fiber)).length c4)),(100,(.int .i64 y2.1)),(101,(.agg #[(.int .i64 e.A),(.int .i64 (w64 (y6.1 - 1))),(.int .i64 e.Length),(.int .i64 e.Risk)])),(102,(.pointer (some ⟨p5,o6 + 0,none⟩)))]:=by simpa only [List.length_set,Nat.add_zero] using hf
  replace H:Mem ⟨w0,[b0]⟩ S [⟨b4,180,[(.int .i64 e.A),(.int .i64 (w64 (y6.1 - 1))),(.int .i64 e.Length),(.int .i64 e.Risk)]⟩,⟨b3,27,[(.slice A2 y.1.Nodes.length c3),(.slice A3 (y.1.Fibers.set (y2.1:Int).toNat ({ A:=e.A,B:=w64 (y6.1 - 1),Length:=e.Length,Risk:=e.Risk }:Fiber)).length c4)]⟩,⟨b2,27,[(.slice none 0 0),(.slice none 0 0)]⟩,⟨b0,109,[(.slice A y6.2.code.length c2),(.int .i64 y6.2.at_),(.int .u64 y6.2.seed.n)]⟩] [⟨.sh true,E2,A3,c4,(y.1.Fibers.set (y2.1:Int).toNat ({ A:=e.A,B:=w64 (y6.1 - 1),Length:=e.Length,Risk:=e.Risk }:Fiber):List Fiber)⟩,⟨.sh true,E,A2,c3,(y.1.Nodes:List ByteArray)⟩] [] [(false,MP.val [(.slice A y6.2.code.length c2)] (y6.2.code:List By)),(false,MP.val [(.slice A y3.2.code.length c2)] (y3.2.code:List By)),(false,MP.val [(.slice A y2.2.code.length c2)] (y2.2.code:List By)),(false,MP.val [(.slice A y.2.code.length c2)] (y.2.code:List By)),(false,MP.val [(.slice A c.code.length c2)] (c.code:List By))] w:=by first | (simp only [List.length_set]; exact H) | (simp only [List.length_set] at H ⊢; exact H)
  refine wr (lN 1 hf H TF.la27 fun a hf=>?_)
  refine sB 2 hf H TF.sz27 fun w H=>?_
  refine wer ?_
  have H:=H.rowOwn 1 rfl rfl
  obtain ⟨F10,H⟩:=H.freezeOwn 1 rfl
  have H:=H.lend 0 rfl
  have H:=H.rowOwn 0 rfl rfl
  obtain ⟨F11,H⟩:=H.freezeOwn 0 rfl
  have H:=H.lend 0 rfl
  have H:=H.frontD 1 rfl
  obtain rfl:=oi hF
  refine ret_1 hf rfl (rv_cellN hf H 2 TF.la27 rfl rfl rfl) ?_
  have hN:=H.endsB2 3 rfl
  exact ⟨_,rfl,H.chg,_,H.boxAt 3 rfl,(L1CurP_mk (x:=y6.2) (eB 3 (H.get 2 rfl))),⟨fxc hx17,hx17⟩,(F10++F11),⟨_,Network_ownmk (x:=({ Nodes:=y.1.Nodes,Fibers:=y.1.Fibers.set (y2.1:Int).toNat ({ A:=e.A,B:=w64 (y6.1 - 1),Length:=e.Length,Risk:=e.Risk }:Fiber) }:Network)) (H.ownAt 0 rfl) (H.ownAt 1 rfl),rfl⟩,by first | exact hN | simpa using hN⟩
 refine sqz (pz 2 hf fun a hf=>?_)
 refine wl_end (then_n (ib hF hf (fun hc5 hF=>?_) fun hc5 hF=>?_))
 ·refine reg (pz 1 hf fun a hf=>?_)
  refine wl0 rfl (bl hf H 3 ([0,1,5000,5001]:List Int) [(.int .i64 0),(.int .i64 1),(.int .i64 5000),(.int .i64 5001)] (elI [0,1,5000,5001]) fun A11 a w hf H=>?_)
  have H:=H.freeze 0 rfl
  obtain ⟨y7,hy7,hF⟩:=bs_ hF
  refine oc hf TF.cl142 (spec_l1Cur_among_ok (S:=NB b0) (H.boxAt 3 rfl) ((L1CurP_mk (x:=y3.2) (H.nb 3 rfl (H.get 1 rfl)))) (fun h=>h rfl) (mk_list (H.nb 3 rfl (H.get 0 rfl))) hy7) fun v7 w a hp9 hf=>?_
  obtain ⟨hch7,cs13,hbx7,hr13,⟨hx18,hx19⟩,hs7⟩:=hp9
  obtain rfl:=VR_int hs7
  obtain ⟨A12,c11,rfl,hl10⟩:=L1CurP_cells hr13
  obtain ⟨rfl,rfl⟩:=fx_slice hx18 rfl rfl
  have hx20:=hx19.trans hx8
  have H:=H.wroteBox 3 rfl hch7 hbx7
  have H:=H.pX 1 rfl hx19
  refine pz 1 hf fun a hf=>?_
  refine sB 0 hf H TF.sz3 fun w H=>?_
  have hf:=hf.pn [2,3,4,5]
  refine wl_end (blk_n (then_n (sqz (pz 1 hf fun a hf=>?_))))
  refine lB 1 hf H TF.ls25 fun a hf=>?_
  refine pz 1 hf fun a hf=>?_
  refine lN 0 hf H TF.la180 fun a hf=>?_
  obtain ⟨e6,he6,hF⟩:=bs_ hF
  refine wl0 rfl (op_iaddrR hf H Tryz.underlying25 TF.sz180 0 rfl rfl rfl he6 (by decide) fun p6 o7 cs14 a hf hA6 hr14 hk6=>?_)
  obtain rfl:=Fiber_cells hr14
  refine wl0 rfl (op_storeR (e':=({ A:=e.A,B:=e.B,Length:=y7.1,Risk:=e.Risk }:Fiber)) (o:=o7) (off:=0) hf H TF.sz180 0 rfl rfl rfl rfl rfl (nle rfl) rfl hA6 he6 (st_full (Fiber_mk (x:=({ A:=e.A,B:=e.B,Length:=y7.1,Risk:=e.Risk }:Fiber)))) fun w H=>?_)
  replace hf:Fr a 104 [(2,(.pointer (some ⟨b2,0,none⟩))),(3,(.pointer (some ⟨b3,0,none⟩))),(4,(.int .i64 y2.1)),(5,(.pointer (some ⟨b4,0,none⟩))),(98,(.pointer (some ⟨b3,1,none⟩))),(99,(.slice A3 y.1.Fibers.length c4)),(100,(.int .i64 y2.1)),(101,(.agg #[(.int .i64 e.A),(.int .i64 e.B),(.int .i64 y7.1),(.int .i64 e.Risk)])),(102,(.pointer (some ⟨p6,o7 + 0,none⟩)))]:=hf.prune [2,3,4,5,98,99,100,101,102] rfl
  replace hf:Fr a 104 [(2,(.pointer (some ⟨b2,0,none⟩))),(3,(.pointer (some ⟨b3,0,none⟩))),(4,(.int .i64 y2.1)),(5,(.pointer (some ⟨b4,0,none⟩))),(98,(.pointer (some ⟨b3,1,none⟩))),(99,(.slice A3 (y.1.Fibers.set (y2.1:Int).toNat ({ A:=e.A,B:=e.B,Length:=y7.1,Risk:=e.Risk }:Fiber)).length c4)),(100,(.int .i64 y2.1)),(101,(.agg #[(.int .i64 e.A),(.int .i64 e.B),(.int .i64 y7.1),(.int .i64 e.Risk)])),(102,(.pointer (some ⟨p6,o7 + 0,none⟩)))]:=by simpa only [List.length_set,Nat.add_zero] using hf
  replace H:Mem ⟨w0,[b0]⟩ S [⟨b4,180,[(.int .i64 e.A),(.int .i64 e.B),(.int .i64 y7.1),(.int .i64 e.Risk)]⟩,⟨b3,27,[(.slice A2 y.1.Nodes.length c3),(.slice A3 (y.1.Fibers.set (y2.1:Int).toNat ({ A:=e.A,B:=e.B,Length:=y7.1,Risk:=e.Risk }:Fiber)).length c4)]⟩,⟨b2,27,[(.slice none 0 0),(.slice none 0 0)]⟩,⟨b0,109,[(.slice A y7.2.code.length c2),(.int .i64 y7.2.at_),(.int .u64 y7.2.seed.n)]⟩] [⟨.sh true,E2,A3,c4,(y.1.Fibers.set (y2.1:Int).toNat ({ A:=e.A,B:=e.B,Length:=y7.1,Risk:=e.Risk }:Fiber):List Fiber)⟩,⟨.sh true,E,A2,c3,(y.1.Nodes:List ByteArray)⟩] [] [(false,MP.val [(.slice A y7.2.code.length c2)] (y7.2.code:List By)),(true,MP.val [(.slice A11 4 4)] ([0,1,5000,5001]:List Int)),(false,MP.val [(.slice A y3.2.code.length c2)] (y3.2.code:List By)),(false,MP.val [(.slice A y2.2.code.length c2)] (y2.2.code:List By)),(false,MP.val [(.slice A y.2.code.length c2)] (y.2.code:List By)),(false,MP.val [(.slice A c.code.length c2)] (c.code:List By))] w:=by first | (simp only [List.length_set]; exact H) | (simp only [List.length_set] at H ⊢; exact H)
  refine wr (lN 1 hf H TF.la27 fun a hf=>?_)
  refine sB 2 hf H TF.sz27 fun w H=>?_
  refine wer ?_
  have H:=H.rowOwn 1 rfl rfl
  obtain ⟨F12,H⟩:=H.freezeOwn 1 rfl
  have H:=H.lend 0 rfl
  have H:=H.rowOwn 0 rfl rfl
  obtain ⟨F13,H⟩:=H.freezeOwn 0 rfl
  have H:=H.lend 0 rfl
  have H:=H.frontD 1 rfl
  obtain rfl:=oi hF
  refine ret_1 hf rfl (rv_cellN hf H 2 TF.la27 rfl rfl rfl) ?_
  have hN:=H.endsB2 3 rfl
  exact ⟨_,rfl,H.chg,_,H.boxAt 3 rfl,(L1CurP_mk (x:=y7.2) (eB 3 (H.get 2 rfl))),⟨fxc hx20,hx20⟩,(F12++F13),⟨_,Network_ownmk (x:=({ Nodes:=y.1.Nodes,Fibers:=y.1.Fibers.set (y2.1:Int).toNat ({ A:=e.A,B:=e.B,Length:=y7.1,Risk:=e.Risk }:Fiber) }:Network)) (H.ownAt 0 rfl) (H.ownAt 1 rfl),rfl⟩,by first | exact hN | simpa using hN⟩
 refine sqz (pz 2 hf fun a hf=>?_)
 refine wl_end (then_n (ib hF hf (fun hc6 hF=>?_) fun hc6 hF=>?_))
 ·refine reg (pz 1 hf fun a hf=>?_)
  refine wl0 rfl (bl hf H 3 ([(-1),9,10]:List Int) [(.int .i64 (-1)),(.int .i64 9),(.int .i64 10)] (elI [(-1),9,10]) fun A13 a w hf H=>?_)
  have H:=H.freeze 0 rfl
  obtain ⟨y8,hy8,hF⟩:=bs_ hF
  refine oc hf TF.cl142 (spec_l1Cur_among_ok (S:=NB b0) (H.boxAt 3 rfl) ((L1CurP_mk (x:=y3.2) (H.nb 3 rfl (H.get 1 rfl)))) (fun h=>h rfl) (mk_list (H.nb 3 rfl (H.get 0 rfl))) hy8) fun v8 w a hp10 hf=>?_
  obtain ⟨hch8,cs15,hbx8,hr15,⟨hx21,hx22⟩,hs8⟩:=hp10
  obtain rfl:=VR_int hs8
  obtain ⟨A14,c12,rfl,hl11⟩:=L1CurP_cells hr15
  obtain ⟨rfl,rfl⟩:=fx_slice hx21 rfl rfl
  have hx23:=hx22.trans hx8
  have H:=H.wroteBox 3 rfl hch8 hbx8
  have H:=H.pX 1 rfl hx22
  refine pz 1 hf fun a hf=>?_
  refine sB 0 hf H TF.sz3 fun w H=>?_
  have hf:=hf.pn [2,3,4,5]
  refine wl_end (blk_n (then_n (sqz (pz 1 hf fun a hf=>?_))))
  refine lB 1 hf H TF.ls25 fun a hf=>?_
  refine pz 1 hf fun a hf=>?_
  refine lN 0 hf H TF.la180 fun a hf=>?_
  obtain ⟨e7,he7,hF⟩:=bs_ hF
  refine wl0 rfl (op_iaddrR hf H Tryz.underlying25 TF.sz180 0 rfl rfl rfl he7 (by decide) fun p7 o8 cs16 a hf hA7 hr16 hk7=>?_)
  obtain rfl:=Fiber_cells hr16
  refine wl0 rfl (op_storeR (e':=({ A:=e.A,B:=e.B,Length:=e.Length,Risk:=y8.1 }:Fiber)) (o:=o8) (off:=0) hf H TF.sz180 0 rfl rfl rfl rfl rfl (nle rfl) rfl hA7 he7 (st_full (Fiber_mk (x:=({ A:=e.A,B:=e.B,Length:=e.Length,Risk:=y8.1 }:Fiber)))) fun w H=>?_)
  replace hf:Fr a 104 [(2,(.pointer (some ⟨b2,0,none⟩))),(3,(.pointer (some ⟨b3,0,none⟩))),(4,(.int .i64 y2.1)),(5,(.pointer (some ⟨b4,0,none⟩))),(98,(.pointer (some ⟨b3,1,none⟩))),(99,(.slice A3 y.1.Fibers.length c4)),(100,(.int .i64 y2.1)),(101,(.agg #[(.int .i64 e.A),(.int .i64 e.B),(.int .i64 e.Length),(.int .i64 y8.1)])),(102,(.pointer (some ⟨p7,o8 + 0,none⟩)))]:=hf.prune [2,3,4,5,98,99,100,101,102] rfl
  replace hf:Fr a 104 [(2,(.pointer (some ⟨b2,0,none⟩))),(3,(.pointer (some ⟨b3,0,none⟩))),(4,(.int .i64 y2.1)),(5,(.pointer (some ⟨b4,0,none⟩))),(98,(.pointer (some ⟨b3,1,none⟩))),(99,(.slice A3 (y.1.Fibers.set (y2.1:Int).toNat ({ A:=e.A,B:=e.B,Length:=e.Length,Risk:=y8.1 }:Fiber)).length c4)),(100,(.int .i64 y2.1)),(101,(.agg #[(.int .i64 e.A),(.int .i64 e.B),(.int .i64 e.Length),(.int .i64 y8.1)])),(102,(.pointer (some ⟨p7,o8 + 0,none⟩)))]:=by simpa only [List.length_set,Nat.add_zero] using hf
  replace H:Mem ⟨w0,[b0]⟩ S [⟨b4,180,[(.int .i64 e.A),(.int .i64 e.B),(.int .i64 e.Length),(.int .i64 y8.1)]⟩,⟨b3,27,[(.slice A2 y.1.Nodes.length c3),(.slice A3 (y.1.Fibers.set (y2.1:Int).toNat ({ A:=e.A,B:=e.B,Length:=e.Length,Risk:=y8.1 }:Fiber)).length c4)]⟩,⟨b2,27,[(.slice none 0 0),(.slice none 0 0)]⟩,⟨b0,109,[(.slice A y8.2.code.length c2),(.int .i64 y8.2.at_),(.int .u64 y8.2.seed.n)]⟩] [⟨.sh true,E2,A3,c4,(y.1.Fibers.set (y2.1:Int).toNat ({ A:=e.A,B:=e.B,Length:=e.Length,Risk:=y8.1 }:Fiber):List Fiber)⟩,⟨.sh true,E,A2,c3,(y.1.Nodes:List ByteArray)⟩] [] [(false,MP.val [(.slice A y8.2.code.length c2)] (y8.2.code:List By)),(true,MP.val [(.slice A13 3 3)] ([(-1),9,10]:List Int)),(false,MP.val [(.slice A y3.2.code.length c2)] (y3.2.code:List By)),(false,MP.val [(.slice A y2.2.code.length c2)] (y2.2.code:List By)),(false,MP.val [(.slice A y.2.code.length c2)] (y.2.code:List By)),(false,MP.val [(.slice A c.code.length c2)] (c.code:List By))] w:=by first | (simp only [List.length_set]; exact H) | (simp only [List.length_set] at H ⊢; exact H)
  refine wr (lN 1 hf H TF.la27 fun a hf=>?_)
  refine sB 2 hf H TF.sz27 fun w H=>?_
  refine wer ?_
  have H:=H.rowOwn 1 rfl rfl
  obtain ⟨F14,H⟩:=H.freezeOwn 1 rfl
  have H:=H.lend 0 rfl
  have H:=H.rowOwn 0 rfl rfl
  obtain ⟨F15,H⟩:=H.freezeOwn 0 rfl
  have H:=H.lend 0 rfl
  have H:=H.frontD 1 rfl
  obtain rfl:=oi hF
  refine ret_1 hf rfl (rv_cellN hf H 2 TF.la27 rfl rfl rfl) ?_
  have hN:=H.endsB2 3 rfl
  exact ⟨_,rfl,H.chg,_,H.boxAt 3 rfl,(L1CurP_mk (x:=y8.2) (eB 3 (H.get 2 rfl))),⟨fxc hx23,hx23⟩,(F14++F15),⟨_,Network_ownmk (x:=({ Nodes:=y.1.Nodes,Fibers:=y.1.Fibers.set (y2.1:Int).toNat ({ A:=e.A,B:=e.B,Length:=e.Length,Risk:=y8.1 }:Fiber) }:Network)) (H.ownAt 0 rfl) (H.ownAt 1 rfl),rfl⟩,by first | exact hN | simpa using hN⟩
 refine sqz (pz 2 hf fun a hf=>?_)
 refine wl_end (then_n (ib hF hf (fun hc7 hF=>?_) fun hc7 hF=>?_))
 ·refine dw [7,9] 10 fun w hb=>?_
  have H:=H.keep hb
  refine zp 0 hf trivial fun a hf=>?_
  refine strT (H.lk 2 0 0 []) (fun w H=>trivial) fun hS=>?_
  refine zS 1 [1,7,8,9] rfl rfl rfl rfl hf hS (fun w H=>rq_loadB hf H TF.ls25 0 rfl rfl rfl) fun a hf=>?_
  refine zp 2 hf hS fun a hf=>?_
  refine zS 3 [3,4,5,6,7,8,9] rfl rfl rfl rfl hf hS (fun w H=>rq_loadB hf H TF.ls25 0 rfl rfl rfl) fun a hf=>?_
  obtain ⟨e8,he8,hF⟩:=bs_ hF
  obtain ⟨p8,o9,hA8,hx24⟩:=pre_iaddrR H Tryz.underlying25 TF.sz180 0 rfl he8
  refine zP 4 rfl rfl rfl rfl hf hS (fun w=>rq_iaddrE hf rfl rfl rfl hx24 w) fun a hf=>?_
  refine strT (H.lk 2 1 0 []) (fun w H=>H.lk 1 0 0 []) fun hS=>?_
  refine zS 5 [5,6,7,8,9] rfl rfl rfl rfl hf hS (fun w H=>rq_loadRowN (off:=0) hf H TF.la180 0 rfl rfl hA8 he8 rfl (fun w T cs h=>by obtain rfl:=Fiber_cells h; rfl)) fun a hf=>?_
  refine nn 6 rfl (bl hf H 180 ([e8]:List Fiber) [(.int .i64 e8.A),(.int .i64 e8.B),(.int .i64 e8.Length),(.int .i64 e8.Risk)] (el1 (y:=e8) ((Fiber_mk (x:=e8)))) fun A15 a w hf H=>?_)
  have hS:=H.lk 2 2 0 []
  refine aS hS ?_
  obtain ⟨l,hl_,hF⟩:=bs_ hF
  refine nn 7 rfl (op_appR hf H Tryz.underlying25 TF.ai180 rfl (by decide) 1 0 rfl rfl rfl rfl (.inr rfl) hl_ (by decide) fun E3 A16 c13 a w hf H=>?_)
  refine ⟨fun h=>absurd h (by decide),?_⟩
  refine tp 8 rfl rfl hf (by kernel_rfl) (fun h=>absurd h (by decide)) rfl fun a hf=>?_
  refine nn 9 rfl (op_storeB hf H 1 TF.sz25 rfl rfl rfl rfl rfl rfl (nle rfl) fun w H=>?_)
  refine ⟨fun h=>absurd h (by decide),?_⟩
  refine dk ?_
  have hf:=hf.pn [2,3,4,5]
  refine blk_n (then_n (sqz (pz 1 hf fun a hf=>?_)))
  refine lB 1 hf H TF.ls25 fun a hf=>?_
  refine pz 1 hf fun a hf=>?_
  refine lN 0 hf H TF.la180 fun a hf=>?_
  obtain ⟨e9,he9,hF⟩:=bs_ hF
  refine wl0 rfl (op_iaddrR hf H Tryz.underlying25 TF.sz180 1 rfl rfl rfl he9 (by decide) fun p9 o10 cs17 a hf hA9 hr17 hk8=>?_)
  obtain rfl:=Fiber_cells hr17
  refine wl0 rfl (op_storeR (e':=e) (o:=o10) (off:=0) hf H TF.sz180 1 rfl rfl rfl rfl rfl (nle rfl) rfl hA9 he9 (st_full (Fiber_mk (x:=e))) fun w H=>?_)
  replace hf:Fr a 104 [(2,(.pointer (some ⟨b2,0,none⟩))),(3,(.pointer (some ⟨b3,0,none⟩))),(4,(.int .i64 y2.1)),(5,(.pointer (some ⟨b4,0,none⟩))),(98,(.pointer (some ⟨b3,1,none⟩))),(99,(.slice A16 l.length c13)),(100,(.int .i64 y2.1)),(101,(.agg #[(.int .i64 e.A),(.int .i64 e.B),(.int .i64 e.Length),(.int .i64 e.Risk)])),(102,(.pointer (some ⟨p9,o10 + 0,none⟩)))]:=hf.prune [2,3,4,5,98,99,100,101,102] rfl
  replace hf:Fr a 104 [(2,(.pointer (some ⟨b2,0,none⟩))),(3,(.pointer (some ⟨b3,0,none⟩))),(4,(.int .i64 y2.1)),(5,(.pointer (some ⟨b4,0,none⟩))),(98,(.pointer (some ⟨b3,1,none⟩))),(99,(.slice A16 (l.set (y2.1:Int).toNat e).length c13)),(100,(.int .i64 y2.1)),(101,(.agg #[(.int .i64 e.A),(.int .i64 e.B),(.int .i64 e.Length),(.int .i64 e.Risk)])),(102,(.pointer (some ⟨p9,o10 + 0,none⟩)))]:=by simpa only [List.length_set,Nat.add_zero] using hf
  replace H:Mem ⟨w0,[b0]⟩ S [⟨b4,180,[(.int .i64 e.A),(.int .i64 e.B),(.int .i64 e.Length),(.int .i64 e.Risk)]⟩,⟨b3,27,[(.slice A2 y.1.Nodes.length c3),(.slice A16 (l.set (y2.1:Int).toNat e).length c13)]⟩,⟨b2,27,[(.slice none 0 0),(.slice none 0 0)]⟩,⟨b0,109,[(.slice A y3.2.code.length c2),(.int .i64 y3.2.at_),(.int .u64 y3.2.seed.n)]⟩] [⟨.sh true,180,A15,1,([e8]:List Fiber)⟩,⟨.sh true,E3,A16,c13,(l.set (y2.1:Int).toNat e:List Fiber)⟩,⟨.sh true,E,A2,c3,(y.1.Nodes:List ByteArray)⟩] [] [(false,MP.val [(.slice A y3.2.code.length c2)] (y3.2.code:List By)),(false,MP.val [(.slice A y2.2.code.length c2)] (y2.2.code:List By)),(false,MP.val [(.slice A y.2.code.length c2)] (y.2.code:List By)),(false,MP.val [(.slice A c.code.length c2)] (c.code:List By))] w:=by first | (simp only [List.length_set]; exact H) | (simp only [List.length_set] at H ⊢; exact H)
  refine wr (lN 1 hf H TF.la27 fun a hf=>?_)
  refine sB 2 hf H TF.sz27 fun w H=>?_
  refine wer ?_
  have H:=H.rowOwn 2 rfl rfl
  obtain ⟨F16,H⟩:=H.freezeOwn 2 rfl
  have H:=H.lend 0 rfl
  have H:=H.rowOwn 1 rfl rfl
  obtain ⟨F17,H⟩:=H.freezeOwn 1 rfl
  have H:=H.lend 0 rfl
  have H:=H.frontD 1 rfl
  obtain rfl:=oi hF
  refine ret_1 hf rfl (rv_cellN hf H 2 TF.la27 rfl rfl rfl) ?_
  have hN:=H.endsB2 3 rfl
  exact ⟨_,rfl,H.chg,_,H.boxAt 3 rfl,(L1CurP_mk (x:=y3.2) (eB 3 (H.get 2 rfl))),⟨fxc hx8,hx8⟩,(F16++F17),⟨_,Network_ownmk (x:=({ Nodes:=y.1.Nodes,Fibers:=l.set (y2.1:Int).toNat e }:Network)) (H.ownAt 0 rfl) (H.ownAt 1 rfl),rfl⟩,by first | exact hN | simpa using hN⟩
 refine sqz (pz 2 hf fun a hf=>?_)
 have hf:=hf.pn [0,2,3,4,5,24,68]
 refine wl_end (then_n (ib hF hf (fun hc8 hF=>?_) fun hc8 hF=>?_))
 ·refine sq ?_
  obtain ⟨out',hB1,hF⟩:=bs_ hF
  have hf:=hf.pn [0,2,3]
  have H:=H.lk 14 3 0 [0]
  refine loopC (fun (s:List Fiber×List By×Int×U64) (a:Act) (w:World)=>match s with | (m,m2,m3,m4)=>∃ (A17:Option Addr) (c14:Nat) (E4:Go.TypeId),m2=c.code∧Fr a 104 [(0,(.pointer (some ⟨b0,0,none⟩))),(2,(.pointer (some ⟨b2,0,none⟩))),(3,(.pointer (some ⟨b3,0,none⟩)))]∧Mem ⟨w0,[b0]⟩ S [⟨b3,27,[(.slice A2 y.1.Nodes.length c3),(.slice A17 m.length c14)]⟩,⟨b2,27,[(.slice none 0 0),(.slice none 0 0)]⟩,⟨b0,109,[(.slice A m2.length c2),(.int .i64 m3),(.int .u64 m4.n)]⟩] [⟨.sh true,E4,A17,c14,(m:List Fiber)⟩,⟨.sh true,E,A2,c3,(y.1.Nodes:List ByteArray)⟩] [] [(false,MP.val [(.slice A m2.length c2)] (m2:List By))] w) (fun k (s:List Fiber×List By×Int×U64)=>spec_l1Cur_anyNetwork_L1 fu k s.1 s.2.1 s.2.2.1 s.2.2.2=some out') (fun s=>out'=s) (y.1.Fibers,y3.2.code,y3.2.at_,y3.2.seed) fu hB1 ⟨A3,c4,E2,hx8,hf,H⟩ (fun s h=>by cases h) ?_ ?_
  ·rintro fk ⟨m,m2,m3,m4⟩ a w hR1 hI
   replace hR1:spec_l1Cur_anyNetwork_L1 fu (fk + 1) m m2 m3 m4=some out':=hR1
   rw [spec_l1Cur_anyNetwork_L1] at hR1
   obtain ⟨A17,c14,E4,hsm,hf,H⟩:=hI
   refine sq (sq (dw [] 7 fun w hb=>?_))
   have H:=H.keep hb
   refine zp 0 hf trivial fun a hf=>?_
   refine strT (H.lk 1 0 0 []) (fun w H=>trivial) fun hS=>?_
   refine zS 1 [] rfl rfl rfl rfl hf hS (fun w H=>rq_loadB hf H TF.ls25 0 rfl rfl rfl) fun a hf=>?_
   refine zp 2 hf hS fun a hf=>?_
   refine zp 3 hf hS fun a hf=>?_
   obtain ⟨y9,hy9,hR1⟩:=bs_ hR1
   refine nn 4 rfl (oC hf TF.cl121 (spec_l1Cur_pick_ok (S:=NB b0) (H.boxAt 2 rfl) ((L1CurP_mk (x:=({ code:=m2,at_:=m3,seed:=m4 }:L1CurP)) (H.nb 2 rfl (H.get 0 rfl)))) (fun h=>h rfl) mk_int hy9) fun v9 w a hp11 hf=>?_)
   obtain ⟨hch9,cs18,hbx9,hr18,⟨hx25,hx26⟩,hs9⟩:=hp11
   obtain rfl:=VR_int hs9
   obtain ⟨A18,c15,rfl,hl12⟩:=L1CurP_cells hr18
   obtain ⟨rfl,rfl⟩:=fx_slice hx25 rfl rfl
   have hx27:=hx26.trans hsm
   have H:=H.wroteBox 2 rfl hch9 hbx9
   have H:=H.pX 0 rfl hx26
   have hS:=H.lk 1 0 0 []
   refine aS hS ?_
   refine zp 5 hf hS fun a hf=>?_
   refine zp 6 hf hS fun a hf=>?_
   refine dk ?_
   refine then_n (ib hR1 hf (fun hc9 hR1=>?_) fun hc9 hR1=>?_)
   ·refine wp_skip (then_n (wp_block (dw [11,13] 14 fun w hb=>?_)))
    have H:=H.keep hb
    refine zp 0 hf trivial fun a hf=>?_
    refine strT (H.lk 1 0 0 []) (fun w H=>trivial) fun hS=>?_
    refine zS 1 [1,11,12,13] rfl rfl rfl rfl hf hS (fun w H=>rq_loadB hf H TF.ls25 0 rfl rfl rfl) fun a hf=>?_
    refine zp 2 hf hS fun a hf=>?_
    refine zS 3 [3,8,9,10,11,12,13] rfl rfl rfl rfl hf hS (fun w H=>rq_loadB hf H TF.ls25 0 rfl rfl rfl) fun a hf=>?_
    refine zp 4 hf hS fun a hf=>?_
    refine zS 5 [5,6,7,8,9,10,11,12,13] rfl rfl rfl rfl hf hS (fun w H=>rq_loadB hf H TF.ls25 0 rfl rfl rfl) fun a hf=>?_
    refine zp 6 hf hS fun a hf=>?_
    refine zp 7 hf hS fun a hf=>?_
    obtain ⟨e10,he10,hR1⟩:=bs_ hR1
    obtain ⟨p10,o11,hA10,hx28⟩:=pre_iaddrR H Tryz.underlying25 TF.sz180 0 rfl he10
    refine zP 8 rfl rfl rfl rfl hf hS (fun w=>rq_iaddrE hf rfl rfl rfl hx28 w) fun a hf=>?_
    refine strT (H.lk 1 1 0 []) (fun w H=>H.lk 1 0 0 []) fun hS=>?_
    refine zS 9 [9,10,11,12,13] rfl rfl rfl rfl hf hS (fun w H=>rq_loadRowN (off:=0) hf H TF.la180 0 rfl rfl hA10 he10 rfl (fun w T cs h=>by obtain rfl:=Fiber_cells h; rfl)) fun a hf=>?_
    refine nn 10 rfl (bl hf H 180 ([e10]:List Fiber) [(.int .i64 e10.A),(.int .i64 e10.B),(.int .i64 e10.Length),(.int .i64 e10.Risk)] (el1 (y:=e10) ((Fiber_mk (x:=e10)))) fun A19 a w hf H=>?_)
    have hS:=H.lk 1 2 0 []
    refine aS hS ?_
    obtain ⟨l2,hl2_,hR1⟩:=bs_ hR1
    refine nn 11 rfl (op_appR hf H Tryz.underlying25 TF.ai180 rfl (by decide) 1 0 rfl rfl rfl rfl (.inr rfl) hl2_ (by decide) fun E5 A20 c16 a w hf H=>?_)
    refine ⟨fun h=>absurd h (by decide),?_⟩
    refine tp 12 rfl rfl hf (by kernel_rfl) (fun h=>absurd h (by decide)) rfl fun a hf=>?_
    refine nn 13 rfl (op_storeB hf H 0 TF.sz25 rfl rfl rfl rfl rfl rfl (nle rfl) fun w H=>?_)
    refine ⟨fun h=>absurd h (by decide),?_⟩
    refine dk ?_
    have hf:=hf.pn [0,2,3]
    refine blk_n ?_
    have hf:=hf.pn [0,2,3]
    have H:=H.lk 7 6 0 [0]
    exact then_n ⟨(l2,y9.2.code,y9.2.at_,y9.2.seed),hR1,A20,c16,E5,hx27,hf,H⟩
   refine wp_exit (then_x (then_x (blk_e (?_))))
   have hf:=hf.pn [0,2,3]
   have H:=H.lk 7 3 0 [0]
   exact ⟨(m,y9.2.code,y9.2.at_,y9.2.seed),(Option.some.inj hR1).symm,A17,c14,E4,hx27,hf,H⟩
  rintro a w ⟨⟨m5,m6,m7,m8⟩,rfl,A21,c17,E6,hsm,hf,H⟩
  try dsimp only at hsm
  try dsimp only at hF
  refine then_n (sq (reg (lN 0 hf H TF.la27 fun a hf=>?_)))
  refine sB 1 hf H TF.sz27 fun w H=>?_
  refine wl_end (then_n (wp_ret (blk_r (then_r (?_)))))
  have H:=H.rowOwn 1 rfl rfl
  obtain ⟨F18,H⟩:=H.freezeOwn 1 rfl
  have H:=H.lend 0 rfl
  have H:=H.rowOwn 0 rfl rfl
  obtain ⟨F19,H⟩:=H.freezeOwn 0 rfl
  have H:=H.lend 0 rfl
  have H:=H.frontD 1 rfl
  obtain rfl:=oi hF
  refine ret_1 hf rfl (rv_cellN hf H 1 TF.la27 rfl rfl rfl) ?_
  have hN:=H.endsB2 2 rfl
  exact ⟨_,rfl,H.chg,_,H.boxAt 2 rfl,(L1CurP_mk (x:=({ code:=m6,at_:=m7,seed:=m8 }:L1CurP)) (eB 2 (H.get 2 rfl))),⟨fxc hsm,hsm⟩,(F18++F19),⟨_,Network_ownmk (x:=({ Nodes:=y.1.Nodes,Fibers:=m5 }:Network)) (H.ownAt 0 rfl) (H.ownAt 1 rfl),rfl⟩,by first | exact hN | simpa using hN⟩
 refine sqz (pz 2 hf fun a hf=>?_)
 refine wl_end (then_n (ib hF hf (fun hc10 hF=>?_) fun hc10 hF=>?_))
 ·refine reg (pz 1 hf fun a hf=>?_)
  refine lB 1 hf H TF.ls24 fun a hf=>?_
  refine wl0 rfl (bl hf H 9 ([(⟨#[112]⟩:ByteArray),(⟨#[113]⟩:ByteArray),(⟨#[114]⟩:ByteArray),(⟨#[115]⟩:ByteArray)]:List ByteArray) [(.string (⟨#[112]⟩:ByteArray)),(.string (⟨#[113]⟩:ByteArray)),(.string (⟨#[114]⟩:ByteArray)),(.string (⟨#[115]⟩:ByteArray))] (elL [([(.string (⟨#[112]⟩:ByteArray))],((⟨#[112]⟩:ByteArray):ByteArray)),([(.string (⟨#[113]⟩:ByteArray))],((⟨#[113]⟩:ByteArray):ByteArray)),([(.string (⟨#[114]⟩:ByteArray))],((⟨#[114]⟩:ByteArray):ByteArray)),([(.string (⟨#[115]⟩:ByteArray))],((⟨#[115]⟩:ByteArray):ByteArray))] (al1 (x:=((⟨#[112]⟩:ByteArray):ByteArray)) (rfl) (al1 (x:=((⟨#[113]⟩:ByteArray):ByteArray)) (rfl) (al1 (x:=((⟨#[114]⟩:ByteArray):ByteArray)) (rfl) (al1 (x:=((⟨#[115]⟩:ByteArray):ByteArray)) (rfl) al0))))) fun A22 a w hf H=>?_)
  obtain ⟨l3,hl3_,hF⟩:=bs_ hF
  refine wl0 rfl (op_appR hf H Tryz.underlying24 TF.ai9 rfl (by decide) 2 0 rfl rfl rfl rfl (.inr rfl) hl3_ (by decide) fun E7 A23 c18 a w hf H=>?_)
  refine pz 1 hf fun a hf=>?_
  refine sB 1 hf H TF.sz24 fun w H=>?_
  refine wl_end (blk_n (then_n (sqz (pz 1 hf fun a hf=>?_))))
  refine lB 1 hf H TF.ls25 fun a hf=>?_
  refine pz 1 hf fun a hf=>?_
  refine lN 0 hf H TF.la180 fun a hf=>?_
  obtain ⟨e11,he11,hF⟩:=bs_ hF
  refine wl0 rfl (op_iaddrR hf H Tryz.underlying25 TF.sz180 1 rfl rfl rfl he11 (by decide) fun p11 o12 cs19 a hf hA11 hr19 hk9=>?_)
  obtain rfl:=Fiber_cells hr19
  refine wl0 rfl (op_storeR (e':=e) (o:=o12) (off:=0) hf H TF.sz180 1 rfl rfl rfl rfl rfl (nle rfl) rfl hA11 he11 (st_full (Fiber_mk (x:=e))) fun w H=>?_)
  replace hf:Fr a 104 [(2,(.pointer (some ⟨b2,0,none⟩))),(3,(.pointer (some ⟨b3,0,none⟩))),(4,(.int .i64 y2.1)),(5,(.pointer (some ⟨b4,0,none⟩))),(98,(.pointer (some ⟨b3,1,none⟩))),(99,(.slice A3 y.1.Fibers.length c4)),(100,(.int .i64 y2.1)),(101,(.agg #[(.int .i64 e.A),(.int .i64 e.B),(.int .i64 e.Length),(.int .i64 e.Risk)])),(102,(.pointer (some ⟨p11,o12 + 0,none⟩)))]:=hf.prune [2,3,4,5,98,99,100,101,102] rfl
  replace hf:Fr a 104 [(2,(.pointer (some ⟨b2,0,none⟩))),(3,(.pointer (some ⟨b3,0,none⟩))),(4,(.int .i64 y2.1)),(5,(.pointer (some ⟨b4,0,none⟩))),(98,(.pointer (some ⟨b3,1,none⟩))),(99,(.slice A3 (y.1.Fibers.set (y2.1:Int).toNat e).length c4)),(100,(.int .i64 y2.1)),(101,(.agg #[(.int .i64 e.A),(.int .i64 e.B),(.int .i64 e.Length),(.int .i64 e.Risk)])),(102,(.pointer (some ⟨p11,o12 + 0,none⟩)))]:=by simpa only [List.length_set,Nat.add_zero] using hf
  replace H:Mem ⟨w0,[b0]⟩ S [⟨b4,180,[(.int .i64 e.A),(.int .i64 e.B),(.int .i64 e.Length),(.int .i64 e.Risk)]⟩,⟨b3,27,[(.slice A23 l3.length c18),(.slice A3 (y.1.Fibers.set (y2.1:Int).toNat e).length c4)]⟩,⟨b2,27,[(.slice none 0 0),(.slice none 0 0)]⟩,⟨b0,109,[(.slice A y3.2.code.length c2),(.int .i64 y3.2.at_),(.int .u64 y3.2.seed.n)]⟩] [⟨.sh true,9,A22,4,([(⟨#[112]⟩:ByteArray),(⟨#[113]⟩:ByteArray),(⟨#[114]⟩:ByteArray),(⟨#[115]⟩:ByteArray)]:List ByteArray)⟩,⟨.sh true,E2,A3,c4,(y.1.Fibers.set (y2.1:Int).toNat e:List Fiber)⟩,⟨.sh true,E7,A23,c18,(l3:List ByteArray)⟩] [] [(false,MP.val [(.slice A y3.2.code.length c2)] (y3.2.code:List By)),(false,MP.val [(.slice A y2.2.code.length c2)] (y2.2.code:List By)),(false,MP.val [(.slice A y.2.code.length c2)] (y.2.code:List By)),(false,MP.val [(.slice A c.code.length c2)] (c.code:List By))] w:=by first | (simp only [List.length_set]; exact H) | (simp only [List.length_set] at H ⊢; exact H)
  refine wr (lN 1 hf H TF.la27 fun a hf=>?_)
  refine sB 2 hf H TF.sz27 fun w H=>?_
  refine wer ?_
  have H:=H.rowOwn 2 rfl rfl
  obtain ⟨F20,H⟩:=H.freezeOwn 2 rfl
  have H:=H.lend 0 rfl
  have H:=H.rowOwn 1 rfl rfl
  obtain ⟨F21,H⟩:=H.freezeOwn 1 rfl
  have H:=H.lend 0 rfl
  have H:=H.frontD 1 rfl
  obtain rfl:=oi hF
  refine ret_1 hf rfl (rv_cellN hf H 2 TF.la27 rfl rfl rfl) ?_
  have hN:=H.endsB2 3 rfl
  exact ⟨_,rfl,H.chg,_,H.boxAt 3 rfl,(L1CurP_mk (x:=y3.2) (eB 3 (H.get 2 rfl))),⟨fxc hx8,hx8⟩,(F20++F21),⟨_,Network_ownmk (x:=({ Nodes:=l3,Fibers:=y.1.Fibers.set (y2.1:Int).toNat e }:Network)) (H.ownAt 0 rfl) (H.ownAt 1 rfl),rfl⟩,by first | exact hN | simpa using hN⟩
 refine wp_skip (blk_n (then_n (sqz (pz 1 hf fun a hf=>?_))))
 refine lB 1 hf H TF.ls25 fun a hf=>?_
 refine pz 1 hf fun a hf=>?_
 refine lN 0 hf H TF.la180 fun a hf=>?_
 obtain ⟨e12,he12,hF⟩:=bs_ hF
 refine wl0 rfl (op_iaddrR hf H Tryz.underlying25 TF.sz180 0 rfl rfl rfl he12 (by decide) fun p12 o13 cs20 a hf hA12 hr20 hk10=>?_)
 obtain rfl:=Fiber_cells hr20
 refine wl0 rfl (op_storeR (e':=e) (o:=o13) (off:=0) hf H TF.sz180 0 rfl rfl rfl rfl rfl (nle rfl) rfl hA12 he12 (st_full (Fiber_mk (x:=e))) fun w H=>?_)
 replace hf:Fr a 104 [(2,(.pointer (some ⟨b2,0,none⟩))),(3,(.pointer (some ⟨b3,0,none⟩))),(4,(.int .i64 y2.1)),(5,(.pointer (some ⟨b4,0,none⟩))),(98,(.pointer (some ⟨b3,1,none⟩))),(99,(.slice A3 y.1.Fibers.length c4)),(100,(.int .i64 y2.1)),(101,(.agg #[(.int .i64 e.A),(.int .i64 e.B),(.int .i64 e.Length),(.int .i64 e.Risk)])),(102,(.pointer (some ⟨p12,o13 + 0,none⟩)))]:=hf.prune [2,3,4,5,98,99,100,101,102] rfl
 replace hf:Fr a 104 [(2,(.pointer (some ⟨b2,0,none⟩))),(3,(.pointer (some ⟨b3,0,none⟩))),(4,(.int .i64 y2.1)),(5,(.pointer (some ⟨b4,0,none⟩))),(98,(.pointer (some ⟨b3,1,none⟩))),(99,(.slice A3 (y.1.Fibers.set (y2.1:Int).toNat e).length c4)),(100,(.int .i64 y2.1)),(101,(.agg #[(.int .i64 e.A),(.int .i64 e.B),(.int .i64 e.Length),(.int .i64 e.Risk)])),(102,(.pointer (some ⟨p12,o13 + 0,none⟩)))]:=by simpa only [List.length_set,Nat.add_zero] using hf
 replace H:Mem ⟨w0,[b0]⟩ S [⟨b4,180,[(.int .i64 e.A),(.int .i64 e.B),(.int .i64 e.Length),(.int .i64 e.Risk)]⟩,⟨b3,27,[(.slice A2 y.1.Nodes.length c3),(.slice A3 (y.1.Fibers.set (y2.1:Int).toNat e).length c4)]⟩,⟨b2,27,[(.slice none 0 0),(.slice none 0 0)]⟩,⟨b0,109,[(.slice A y3.2.code.length c2),(.int .i64 y3.2.at_),(.int .u64 y3.2.seed.n)]⟩] [⟨.sh true,E2,A3,c4,(y.1.Fibers.set (y2.1:Int).toNat e:List Fiber)⟩,⟨.sh true,E,A2,c3,(y.1.Nodes:List ByteArray)⟩] [] [(false,MP.val [(.slice A y3.2.code.length c2)] (y3.2.code:List By)),(false,MP.val [(.slice A y2.2.code.length c2)] (y2.2.code:List By)),(false,MP.val [(.slice A y.2.code.length c2)] (y.2.code:List By)),(false,MP.val [(.slice A c.code.length c2)] (c.code:List By))] w:=by first | (simp only [List.length_set]; exact H) | (simp only [List.length_set] at H ⊢; exact H)
 refine wr (lN 1 hf H TF.la27 fun a hf=>?_)
 refine sB 2 hf H TF.sz27 fun w H=>?_
 refine wer ?_
 have H:=H.rowOwn 1 rfl rfl
 obtain ⟨F22,H⟩:=H.freezeOwn 1 rfl
 have H:=H.lend 0 rfl
 have H:=H.rowOwn 0 rfl rfl
 obtain ⟨F23,H⟩:=H.freezeOwn 0 rfl
 have H:=H.lend 0 rfl
 have H:=H.frontD 1 rfl
 obtain rfl:=oi hF
 refine ret_1 hf rfl (rv_cellN hf H 2 TF.la27 rfl rfl rfl) ?_
 have hN:=H.endsB2 3 rfl
 exact ⟨_,rfl,H.chg,_,H.boxAt 3 rfl,(L1CurP_mk (x:=y3.2) (eB 3 (H.get 2 rfl))),⟨fxc hx8,hx8⟩,(F22++F23),⟨_,Network_ownmk (x:=({ Nodes:=y.1.Nodes,Fibers:=y.1.Fibers.set (y2.1:Int).toNat e }:Network)) (H.ownAt 0 rfl) (H.ownAt 1 rfl),rfl⟩,by first | exact hN | simpa using hN⟩
theorem spec_l1Cur_anyPlan_ok {S:Nat→Prop} {b0:Nat} {cs0:List Value} {c:L1CurP} {r:Plan×L1CurP} (hp0:w0.heap[b0]?=some (.cells cs0.toArray 109 (0,0))) (hr0:GoTy.rep w0 S cs0 c) (hS0:¬S b0) (hF:spec_l1Cur_anyPlan fu c=some r) :
    Calls Tryz.prog 56 [(.pointer (some ⟨b0,0,none⟩))].toArray w0 fun e w'=>∃ v,e=.returned v∧(∃ cs',GoTy.rep w' (fun _=>True) cs' r.2∧(cs'[0]?=cs0[0]?∧r.2.code=c.code)∧(∃ (A0_0:Option Addr) (c0_0:Nat) (F0_0:List Nat) (A0_1:Option Addr) (c0_1:Nat) (F0_1:List Nat) (A0_2:Option Addr) (c0_2:Nat) (E0_2:Go.TypeId),v=(.agg #[(.slice A0_0 r.1.Network.Nodes.length c0_0),(.slice A0_1 r.1.Network.Fibers.length c0_1),(.slice A0_2 r.1.Lights.length c0_2)])∧Mem ⟨w0,[b0]⟩ S [⟨b0,109,cs'⟩] [⟨.sh true,E0_2,A0_2,c0_2,(r.1.Lights:List Light)⟩] [⟨F0_0,MP.own F0_0 [(.slice A0_0 r.1.Network.Nodes.length c0_0)] (r.1.Network.Nodes:List ByteArray)⟩,⟨F0_1,MP.own F0_1 [(.slice A0_1 r.1.Network.Fibers.length c0_1)] (r.1.Network.Fibers:List Fiber)⟩] [] w')):=by
 obtain ⟨A,c2,rfl,hl⟩:=L1CurP_cells hr0
 have H:=Mem.startB S hp0
 have H:=H.pB hS0 hl
 refine en Tryz.func56 fun a hf=>?_
 rw [spec_l1Cur_anyPlan] at hF
 refine sq (reg (aL hf H TF.zv30 fun b2 a w hf H=>?_))
 refine wr (pz 1 hf fun a hf=>?_)
 obtain ⟨y,hy,hF⟩:=bs_ hF
 refine oc hf TF.cl141 (spec_l1Cur_plan_ok (S:=NB b0) (H.boxAt 1 rfl) ((L1CurP_mk (x:=c) (H.nb 1 rfl (H.get 0 rfl)))) (fun h=>h rfl) hy) fun v w a hp2 hf=>?_
 obtain ⟨cs2,hr2,⟨hx,hx2⟩,A2,c3,F,A3,c4,F2,A4,c5,E,rfl,Hc⟩:=hp2
 obtain ⟨A5,c6,rfl,hl2⟩:=L1CurP_cells hr2
 obtain ⟨rfl,rfl⟩:=fx_slice hx rfl rfl
 have H:=H.compB 1 rfl Hc (.inl rfl)
 have H:=H.pX 0 rfl hx2
 have H:=H.lend 0 rfl
 have H:=H.lend 1 rfl
 refine aL hf H TF.zv30 fun b3 a w hf H=>?_
 refine sB 0 hf H TF.sz30 fun w H=>?_
 refine we (sqz (pz 1 hf fun a hf=>?_))
 refine lB 0 hf H TF.ls28 fun a hf=>?_
 refine pz 2 hf fun a hf=>?_
 refine wl_end (then_n (ib hF hf (fun hc hF=>?_) fun hc hF=>?_))
 ·refine sq (reg (lN 0 hf H TF.la30 fun a hf=>?_))
  refine sB 1 hf H TF.sz30 fun w H=>?_
  refine wl_end (then_n (wp_ret (then_r (?_))))
  have hcell:GoTy.rep w (fun _=>True) [(.slice A y.2.code.length c2),(.int .i64 y.2.at_),(.int .u64 y.2.seed.n)] (y.2:L1CurP):=(L1CurP_mk (x:=y.2) (H.rt 2 rfl))
  have H:=H.frontD 1 rfl
  have H:=H.frontD 1 rfl
  obtain rfl:=oi hF
  refine ret_1 hf rfl (rv_cellN hf H 1 TF.la30 rfl rfl rfl) ?_
  have H:=H.lk 4 1 3 []
  exact ⟨_,rfl,_,hcell,⟨fxc hx2,hx2⟩,A2,c3,F,A3,c4,F2,A4,c5,E,rfl,H⟩
 refine wp_skip (then_n (sqz (pz 2 hf fun a hf=>?_)))
 refine lB 0 hf H TF.ls28 fun a hf=>?_
 refine pz 1 hf fun a hf=>?_
 obtain ⟨y2,hy2,hF⟩:=bs_ hF
 refine oc hf TF.cl121 (spec_l1Cur_pick_ok (S:=NB b0) (H.boxAt 2 rfl) ((L1CurP_mk (x:=y.2) (H.nb 2 rfl (H.get 2 rfl)))) (fun h=>h rfl) mk_int hy2) fun v2 w a hp3 hf=>?_
 obtain ⟨hch,cs3,hbx,hr3,⟨hx3,hx4⟩,hs⟩:=hp3
 obtain rfl:=VR_int hs
 obtain ⟨A6,c7,rfl,hl3⟩:=L1CurP_cells hr3
 obtain ⟨rfl,rfl⟩:=fx_slice hx3 rfl rfl
 have hx5:=hx4.trans hx2
 have H:=H.wroteBox 2 rfl hch hbx
 have H:=H.pX 2 rfl hx4
 refine pz 1 hf fun a hf=>?_
 refine wr (pz 1 hf fun a hf=>?_)
 refine lB 0 hf H TF.ls28 fun a hf=>?_
 refine pz 1 hf fun a hf=>?_
 obtain ⟨e,he,hF⟩:=bs_ hF
 refine wl0 rfl (op_iaddrR hf H Tryz.underlying28 TF.sz49 0 rfl rfl rfl he (by decide) fun p o2 cs4 a hf hA hr4 hk=>?_)
 obtain ⟨A7,c8,rfl,hl4⟩:=Light_cells hr4
 have H:=H.pT hl4
 refine oq hf (rq_loadN hf TF.la49 rfl rfl (fun j c hj=>hk _ c (by simpa using hj))) fun a hf=>?_
 refine aL hf H TF.zv49 fun b4 a w hf H=>?_
 refine sB 0 hf H TF.sz49 fun w H=>?_
 have hf:=hf.pn [0,2,3,4,5]
 refine we (sqz (pz 1 hf fun a hf=>?_))
 obtain ⟨y3,hy3,hF⟩:=bs_ hF
 refine oc hf TF.cl121 (spec_l1Cur_pick_ok (S:=NB b0) (H.boxAt 3 rfl) ((L1CurP_mk (x:=y2.2) (H.nb 3 rfl (H.get 1 rfl)))) (fun h=>h rfl) mk_int hy3) fun v3 w a hp4 hf=>?_
 obtain ⟨hch2,cs5,hbx2,hr5,⟨hx6,hx7⟩,hs2⟩:=hp4
 obtain rfl:=VR_int hs2
 obtain ⟨A8,c9,rfl,hl5⟩:=L1CurP_cells hr5
 obtain ⟨rfl,rfl⟩:=fx_slice hx6 rfl rfl
 have hx8:=hx7.trans hx5
 have H:=H.wroteBox 3 rfl hch2 hbx2
 have H:=H.pX 1 rfl hx7
 refine wl_end (then_n (wp_block (sqz (pz 2 hf fun a hf=>?_))))
 refine wl_end (then_n (ib hF hf (fun hc2 hF=>?_) fun hc2 hF=>?_))
 ·refine reg (pz 1 hf fun a hf=>?_)
  refine wl0 rfl (bl hf H 3 ([0,999,1000,1,4]:List Int) [(.int .i64 0),(.int .i64 999),(.int .i64 1000),(.int .i64 1),(.int .i64 4)] (elI [0,999,1000,1,4]) fun A9 a w hf H=>?_)
  have H:=H.freeze 0 rfl
  obtain ⟨y4,hy4,hF⟩:=bs_ hF
  refine oc hf TF.cl142 (spec_l1Cur_among_ok (S:=NB b0) (H.boxAt 3 rfl) ((L1CurP_mk (x:=y3.2) (H.nb 3 rfl (H.get 1 rfl)))) (fun h=>h rfl) (mk_list (H.nb 3 rfl (H.get 0 rfl))) hy4) fun v4 w a hp5 hf=>?_
  obtain ⟨hch3,cs6,hbx3,hr6,⟨hx9,hx10⟩,hs3⟩:=hp5
  obtain rfl:=VR_int hs3
  obtain ⟨A10,c10,rfl,hl6⟩:=L1CurP_cells hr6
  obtain ⟨rfl,rfl⟩:=fx_slice hx9 rfl rfl
  have hx11:=hx10.trans hx8
  have H:=H.wroteBox 3 rfl hch3 hbx3
  have H:=H.pX 1 rfl hx10
  refine pz 1 hf fun a hf=>?_
  refine sB 0 hf H TF.sz3 fun w H=>?_
  refine wl_end (blk_n (then_n (sqz (pz 1 hf fun a hf=>?_))))
  refine lB 1 hf H TF.ls28 fun a hf=>?_
  refine pz 1 hf fun a hf=>?_
  refine lN 0 hf H TF.la49 fun a hf=>?_
  obtain ⟨e2,he2,hF⟩:=bs_ hF
  refine wl0 rfl (op_iaddrR hf H Tryz.underlying28 TF.sz49 0 rfl rfl rfl he2 (by decide) fun p2 o3 cs7 a hf hA2 hr7 hk2=>?_)
  obtain ⟨A11,c11,rfl,hl7⟩:=Light_cells hr7
  have H:=H.pT hl7
  refine wl0 rfl (op_storeR (e':=({ Id:=y4.1,Route:=e.Route,Block:=e.Block }:Light)) (o:=o3) (off:=0) hf H TF.sz49 0 rfl rfl rfl rfl rfl (nle rfl) rfl hA2 he2 (st_full (Light_mk (x:=({ Id:=y4.1,Route:=e.Route,Block:=e.Block }:Light)) (H.get 4 rfl))) fun w H=>?_)
  replace hf:Fr a 98 [(2,(.pointer (some ⟨b2,0,none⟩))),(3,(.pointer (some ⟨b3,0,none⟩))),(4,(.int .i64 y2.1)),(5,(.pointer (some ⟨b4,0,none⟩))),(92,(.pointer (some ⟨b3,2,none⟩))),(93,(.slice A4 y.1.Lights.length c5)),(94,(.int .i64 y2.1)),(95,(.agg #[(.int .i64 y4.1),(.int .i64 e.Route.Start),(.slice A7 e.Route.Fibers.length c8),(.int .i64 e.Block.First),(.int .i64 e.Block.Count)])),(96,(.pointer (some ⟨p2,o3 + 0,none⟩)))]:=hf.prune [2,3,4,5,92,93,94,95,96] rfl
  replace hf:Fr a 98 [(2,(.pointer (some ⟨b2,0,none⟩))),(3,(.pointer (some ⟨b3,0,none⟩))),(4,(.int .i64 y2.1)),(5,(.pointer (some ⟨b4,0,none⟩))),(92,(.pointer (some ⟨b3,2,none⟩))),(93,(.slice A4 (y.1.Lights.set (y2.1:Int).toNat ({ Id:=y4.1,Route:=e.Route,Block:=e.Block }:Light)).length c5)),(94,(.int .i64 y2.1)),(95,(.agg #[(.int .i64 y4.1),(.int .i64 e.Route.Start),(.slice A7 e.Route.Fibers.length c8),(.int .i64 e.Block.First),(.int .i64 e.Block.Count)])),(96,(.pointer (some ⟨p2,o3 + 0,none⟩)))]:=by simpa only [List.length_set,Nat.add_zero] using hf
  replace H:Mem ⟨w0,[b0]⟩ S [⟨b4,49,[(.int .i64 y4.1),(.int .i64 e.Route.Start),(.slice A7 e.Route.Fibers.length c8),(.int .i64 e.Block.First),(.int .i64 e.Block.Count)]⟩,⟨b3,30,[(.slice A2 y.1.Network.Nodes.length c3),(.slice A3 y.1.Network.Fibers.length c4),(.slice A4 (y.1.Lights.set (y2.1:Int).toNat ({ Id:=y4.1,Route:=e.Route,Block:=e.Block }:Light)).length c5)]⟩,⟨b2,30,[(.slice none 0 0),(.slice none 0 0),(.slice none 0 0)]⟩,⟨b0,109,[(.slice A y4.2.code.length c2),(.int .i64 y4.2.at_),(.int .u64 y4.2.seed.n)]⟩] [⟨.sh true,E,A4,c5,(y.1.Lights.set (y2.1:Int).toNat ({ Id:=y4.1,Route:=e.Route,Block:=e.Block }:Light):List Light)⟩] [⟨F,MP.own F [(.slice A2 y.1.Network.Nodes.length c3)] (y.1.Network.Nodes:List ByteArray)⟩,⟨F2,MP.own F2 [(.slice A3 y.1.Network.Fibers.length c4)] (y.1.Network.Fibers:List Fiber)⟩] [(true,MP.val [(.slice A11 e2.Route.Fibers.length c11)] (e2.Route.Fibers:List Int)),(false,MP.val [(.slice A y4.2.code.length c2)] (y4.2.code:List By)),(true,MP.val [(.slice A9 5 5)] ([0,999,1000,1,4]:List Int)),(false,MP.val [(.slice A y3.2.code.length c2)] (y3.2.code:List By)),(true,MP.val [(.slice A7 e.Route.Fibers.length c8)] (e.Route.Fibers:List Int)),(false,MP.val [(.slice A y2.2.code.length c2)] (y2.2.code:List By)),(true,MP.val [(.slice A3 y.1.Network.Fibers.length c4)] (y.1.Network.Fibers:List Fiber)),(true,MP.val [(.slice A2 y.1.Network.Nodes.length c3)] (y.1.Network.Nodes:List ByteArray)),(false,MP.val [(.slice A y.2.code.length c2)] (y.2.code:List By)),(false,MP.val [(.slice A c.code.length c2)] (c.code:List By))] w:=by first | (simp only [List.length_set]; exact H) | (simp only [List.length_set] at H ⊢; exact H)
  refine wr (lN 1 hf H TF.la30 fun a hf=>?_)
  refine sB 2 hf H TF.sz30 fun w H=>?_
  refine wer ?_
  have hcell:GoTy.rep w (fun _=>True) [(.slice A y4.2.code.length c2),(.int .i64 y4.2.at_),(.int .u64 y4.2.seed.n)] (y4.2:L1CurP):=(L1CurP_mk (x:=y4.2) (H.rt 1 rfl))
  have H:=H.frontD 1 rfl
  have H:=H.frontD 1 rfl
  obtain rfl:=oi hF
  refine ret_1 hf rfl (rv_cellN hf H 2 TF.la30 rfl rfl rfl) ?_
  have H:=H.lk 8 1 3 []
  exact ⟨_,rfl,_,hcell,⟨fxc hx11,hx11⟩,A2,c3,F,A3,c4,F2,A4,c5,E,rfl,H⟩
 refine sqz (pz 2 hf fun a hf=>?_)
 refine wl_end (then_n (ib hF hf (fun hc3 hF=>?_) fun hc3 hF=>?_))
 ·refine reg (pz 1 hf fun a hf=>?_)
  obtain ⟨y5,hy5,hF⟩:=bs_ hF
  refine oc hf TF.cl143 (spec_l1Cur_block_ok (S:=NB b0) (H.boxAt 3 rfl) ((L1CurP_mk (x:=y3.2) (H.nb 3 rfl (H.get 0 rfl)))) (fun h=>h rfl) hy5) fun v5 w a hp6 hf=>?_
  obtain ⟨hch4,cs8,hbx4,hr8,⟨hx12,hx13⟩,hs4⟩:=hp6
  obtain rfl:=Block_open hs4
  obtain ⟨A12,c12,rfl,hl8⟩:=L1CurP_cells hr8
  obtain ⟨rfl,rfl⟩:=fx_slice hx12 rfl rfl
  have hx14:=hx13.trans hx8
  have H:=H.wroteBox 3 rfl hch4 hbx4
  have H:=H.pX 0 rfl hx13
  refine pz 1 hf fun a hf=>?_
  refine sB 0 hf H TF.sz47 fun w H=>?_
  refine wl_end (blk_n (then_n (sqz (pz 1 hf fun a hf=>?_))))
  refine lB 1 hf H TF.ls28 fun a hf=>?_
  refine pz 1 hf fun a hf=>?_
  refine lN 0 hf H TF.la49 fun a hf=>?_
  obtain ⟨e3,he3,hF⟩:=bs_ hF
  refine wl0 rfl (op_iaddrR hf H Tryz.underlying28 TF.sz49 0 rfl rfl rfl he3 (by decide) fun p3 o4 cs9 a hf hA3 hr9 hk3=>?_)
  obtain ⟨A13,c13,rfl,hl9⟩:=Light_cells hr9
  have H:=H.pT hl9
  refine wl0 rfl (op_storeR (e':=({ Id:=e.Id,Route:=e.Route,Block:=y5.1 }:Light)) (o:=o4) (off:=0) hf H TF.sz49 0 rfl rfl rfl rfl rfl (nle rfl) rfl hA3 he3 (st_full (Light_mk (x:=({ Id:=e.Id,Route:=e.Route,Block:=y5.1 }:Light)) (H.get 3 rfl))) fun w H=>?_)
  replace hf:Fr a 98 [(2,(.pointer (some ⟨b2,0,none⟩))),(3,(.pointer (some ⟨b3,0,none⟩))),(4,(.int .i64 y2.1)),(5,(.pointer (some ⟨b4,0,none⟩))),(92,(.pointer (some ⟨b3,2,none⟩))),(93,(.slice A4 y.1.Lights.length c5)),(94,(.int .i64 y2.1)),(95,(.agg #[(.int .i64 e.Id),(.int .i64 e.Route.Start),(.slice A7 e.Route.Fibers.length c8),(.int .i64 y5.1.First),(.int .i64 y5.1.Count)])),(96,(.pointer (some ⟨p3,o4 + 0,none⟩)))]:=hf.prune [2,3,4,5,92,93,94,95,96] rfl
  replace hf:Fr a 98 [(2,(.pointer (some ⟨b2,0,none⟩))),(3,(.pointer (some ⟨b3,0,none⟩))),(4,(.int .i64 y2.1)),(5,(.pointer (some ⟨b4,0,none⟩))),(92,(.pointer (some ⟨b3,2,none⟩))),(93,(.slice A4 (y.1.Lights.set (y2.1:Int).toNat ({ Id:=e.Id,Route:=e.Route,Block:=y5.1 }:Light)).length c5)),(94,(.int .i64 y2.1)),(95,(.agg #[(.int .i64 e.Id),(.int .i64 e.Route.Start),(.slice A7 e.Route.Fibers.length c8),(.int .i64 y5.1.First),(.int .i64 y5.1.Count)])),(96,(.pointer (some ⟨p3,o4 + 0,none⟩)))]:=by simpa only [List.length_set,Nat.add_zero] using hf
  replace H:Mem ⟨w0,[b0]⟩ S [⟨b4,49,[(.int .i64 e.Id),(.int .i64 e.Route.Start),(.slice A7 e.Route.Fibers.length c8),(.int .i64 y5.1.First),(.int .i64 y5.1.Count)]⟩,⟨b3,30,[(.slice A2 y.1.Network.Nodes.length c3),(.slice A3 y.1.Network.Fibers.length c4),(.slice A4 (y.1.Lights.set (y2.1:Int).toNat ({ Id:=e.Id,Route:=e.Route,Block:=y5.1 }:Light)).length c5)]⟩,⟨b2,30,[(.slice none 0 0),(.slice none 0 0),(.slice none 0 0)]⟩,⟨b0,109,[(.slice A y5.2.code.length c2),(.int .i64 y5.2.at_),(.int .u64 y5.2.seed.n)]⟩] [⟨.sh true,E,A4,c5,(y.1.Lights.set (y2.1:Int).toNat ({ Id:=e.Id,Route:=e.Route,Block:=y5.1 }:Light):List Light)⟩] [⟨F,MP.own F [(.slice A2 y.1.Network.Nodes.length c3)] (y.1.Network.Nodes:List ByteArray)⟩,⟨F2,MP.own F2 [(.slice A3 y.1.Network.Fibers.length c4)] (y.1.Network.Fibers:List Fiber)⟩] [(true,MP.val [(.slice A13 e3.Route.Fibers.length c13)] (e3.Route.Fibers:List Int)),(false,MP.val [(.slice A y5.2.code.length c2)] (y5.2.code:List By)),(false,MP.val [(.slice A y3.2.code.length c2)] (y3.2.code:List By)),(true,MP.val [(.slice A7 e.Route.Fibers.length c8)] (e.Route.Fibers:List Int)),(false,MP.val [(.slice A y2.2.code.length c2)] (y2.2.code:List By)),(true,MP.val [(.slice A3 y.1.Network.Fibers.length c4)] (y.1.Network.Fibers:List Fiber)),(true,MP.val [(.slice A2 y.1.Network.Nodes.length c3)] (y.1.Network.Nodes:List ByteArray)),(false,MP.val [(.slice A y.2.code.length c2)] (y.2.code:List By)),(false,MP.val [(.slice A c.code.length c2)] (c.code:List By))] w:=by first | (simp only [List.length_set]; exact H) | (simp only [List.length_set] at H ⊢; exact H)
  refine wr (lN 1 hf H TF.la30 fun a hf=>?_)
  refine sB 2 hf H TF.sz30 fun w H=>?_
  refine wer ?_
  have hcell:GoTy.rep w (fun _=>True) [(.slice A y5.2.code.length c2),(.int .i64 y5.2.at_),(.int .u64 y5.2.seed.n)] (y5.2:L1CurP):=(L1CurP_mk (x:=y5.2) (H.rt 1 rfl))
  have H:=H.frontD 1 rfl
  have H:=H.frontD 1 rfl
  obtain rfl:=oi hF
  refine ret_1 hf rfl (rv_cellN hf H 2 TF.la30 rfl rfl rfl) ?_
  have H:=H.lk 8 1 3 []
  exact ⟨_,rfl,_,hcell,⟨fxc hx14,hx14⟩,A2,c3,F,A3,c4,F2,A4,c5,E,rfl,H⟩
 refine sqz (pz 2 hf fun a hf=>?_)
 refine wl_end (then_n (ib hF hf (fun hc4 hF=>?_) fun hc4 hF=>?_))
 ·refine reg (pz 2 hf fun a hf=>?_)
  refine lN 1 hf H TF.la27 fun a hf=>?_
  obtain ⟨y6,hy6,hF⟩:=bs_ hF
  refine oc hf TF.cl144 (spec_l1Cur_anyRoute_ok (S:=NB b0) (H.boxAt 3 rfl) ((L1CurP_mk (x:=y3.2) (H.nb 3 rfl (H.get 0 rfl)))) (fun h=>h rfl) (Network_mkv (x:=y.1.Network) (H.nb 3 rfl (H.get 4 rfl)) (H.nb 3 rfl (H.get 3 rfl))) hy6) fun v6 w a hp7 hf=>?_
  obtain ⟨hch5,cs10,hbx5,hr10,⟨hx15,hx16⟩,hs5⟩:=hp7
  obtain ⟨F3,hp8,hN⟩:=hs5
  obtain ⟨A14,c14,F4,rfl,rfl,hl10⟩:=Route_vo hp8
  obtain ⟨A15,c15,rfl,hl11⟩:=L1CurP_cells hr10
  obtain ⟨rfl,rfl⟩:=fx_slice hx15 rfl rfl
  have hx17:=hx16.trans hx8
  have H:=H.bO1 3 rfl hch5 hbx5 hN hl10
  have H:=H.pX 0 rfl hx16
  have H:=H.lend 0 rfl
  refine pz 1 hf fun a hf=>?_
  refine sB 0 hf H TF.sz45 fun w H=>?_
  have hf:=hf.pn [2,3,4,5]
  refine wl_end (blk_n (then_n (sqz (pz 1 hf fun a hf=>?_))))
  refine lB 1 hf H TF.ls28 fun a hf=>?_
  refine pz 1 hf fun a hf=>?_
  refine lN 0 hf H TF.la49 fun a hf=>?_
  obtain ⟨e4,he4,hF⟩:=bs_ hF
  refine wl0 rfl (op_iaddrR hf H Tryz.underlying28 TF.sz49 0 rfl rfl rfl he4 (by decide) fun p4 o5 cs11 a hf hA4 hr11 hk4=>?_)
  obtain ⟨A16,c16,rfl,hl12⟩:=Light_cells hr11
  have H:=H.pT hl12
  refine wl0 rfl (op_storeR (e':=({ Id:=e.Id,Route:=y6.1,Block:=e.Block }:Light)) (o:=o5) (off:=0) hf H TF.sz49 0 rfl rfl rfl rfl rfl (nle rfl) rfl hA4 he4 (st_full (Light_mk (x:=({ Id:=e.Id,Route:=y6.1,Block:=e.Block }:Light)) (H.get 1 rfl))) fun w H=>?_)
  replace hf:Fr a 98 [(2,(.pointer (some ⟨b2,0,none⟩))),(3,(.pointer (some ⟨b3,0,none⟩))),(4,(.int .i64 y2.1)),(5,(.pointer (some ⟨b4,0,none⟩))),(92,(.pointer (some ⟨b3,2,none⟩))),(93,(.slice A4 y.1.Lights.length c5)),(94,(.int .i64 y2.1)),(95,(.agg #[(.int .i64 e.Id),(.int .i64 y6.1.Start),(.slice A14 y6.1.Fibers.length c14),(.int .i64 e.Block.First),(.int .i64 e.Block.Count)])),(96,(.pointer (some ⟨p4,o5 + 0,none⟩)))]:=hf.prune [2,3,4,5,92,93,94,95,96] rfl
  replace hf:Fr a 98 [(2,(.pointer (some ⟨b2,0,none⟩))),(3,(.pointer (some ⟨b3,0,none⟩))),(4,(.int .i64 y2.1)),(5,(.pointer (some ⟨b4,0,none⟩))),(92,(.pointer (some ⟨b3,2,none⟩))),(93,(.slice A4 (y.1.Lights.set (y2.1:Int).toNat ({ Id:=e.Id,Route:=y6.1,Block:=e.Block }:Light)).length c5)),(94,(.int .i64 y2.1)),(95,(.agg #[(.int .i64 e.Id),(.int .i64 y6.1.Start),(.slice A14 y6.1.Fibers.length c14),(.int .i64 e.Block.First),(.int .i64 e.Block.Count)])),(96,(.pointer (some ⟨p4,o5 + 0,none⟩)))]:=by simpa only [List.length_set,Nat.add_zero] using hf
  replace H:Mem ⟨w0,[b0]⟩ S [⟨b4,49,[(.int .i64 e.Id),(.int .i64 y6.1.Start),(.slice A14 y6.1.Fibers.length c14),(.int .i64 e.Block.First),(.int .i64 e.Block.Count)]⟩,⟨b3,30,[(.slice A2 y.1.Network.Nodes.length c3),(.slice A3 y.1.Network.Fibers.length c4),(.slice A4 (y.1.Lights.set (y2.1:Int).toNat ({ Id:=e.Id,Route:=y6.1,Block:=e.Block }:Light)).length c5)]⟩,⟨b2,30,[(.slice none 0 0),(.slice none 0 0),(.slice none 0 0)]⟩,⟨b0,109,[(.slice A y6.2.code.length c2),(.int .i64 y6.2.at_),(.int .u64 y6.2.seed.n)]⟩] [⟨.sh true,E,A4,c5,(y.1.Lights.set (y2.1:Int).toNat ({ Id:=e.Id,Route:=y6.1,Block:=e.Block }:Light):List Light)⟩] [⟨F4,MP.own F4 [(.slice A14 y6.1.Fibers.length c14)] (y6.1.Fibers:List Int)⟩,⟨F,MP.own F [(.slice A2 y.1.Network.Nodes.length c3)] (y.1.Network.Nodes:List ByteArray)⟩,⟨F2,MP.own F2 [(.slice A3 y.1.Network.Fibers.length c4)] (y.1.Network.Fibers:List Fiber)⟩] [(true,MP.val [(.slice A16 e4.Route.Fibers.length c16)] (e4.Route.Fibers:List Int)),(true,MP.val [(.slice A14 y6.1.Fibers.length c14)] (y6.1.Fibers:List Int)),(false,MP.val [(.slice A y6.2.code.length c2)] (y6.2.code:List By)),(false,MP.val [(.slice A y3.2.code.length c2)] (y3.2.code:List By)),(true,MP.val [(.slice A7 e.Route.Fibers.length c8)] (e.Route.Fibers:List Int)),(false,MP.val [(.slice A y2.2.code.length c2)] (y2.2.code:List By)),(true,MP.val [(.slice A3 y.1.Network.Fibers.length c4)] (y.1.Network.Fibers:List Fiber)),(true,MP.val [(.slice A2 y.1.Network.Nodes.length c3)] (y.1.Network.Nodes:List ByteArray)),(false,MP.val [(.slice A y.2.code.length c2)] (y.2.code:List By)),(false,MP.val [(.slice A c.code.length c2)] (c.code:List By))] w:=by first | (simp only [List.length_set]; exact H) | (simp only [List.length_set] at H ⊢; exact H)
  refine wr (lN 1 hf H TF.la30 fun a hf=>?_)
  refine sB 2 hf H TF.sz30 fun w H=>?_
  refine wer ?_
  have hcell:GoTy.rep w (fun _=>True) [(.slice A y6.2.code.length c2),(.int .i64 y6.2.at_),(.int .u64 y6.2.seed.n)] (y6.2:L1CurP):=(L1CurP_mk (x:=y6.2) (H.rt 2 rfl))
  have H:=H.frontD 2 rfl
  have H:=H.frontD 2 rfl
  obtain rfl:=oi hF
  refine ret_1 hf rfl (rv_cellN hf H 2 TF.la30 rfl rfl rfl) ?_
  have H:=H.lk 8 1 3 []
  exact ⟨_,rfl,_,hcell,⟨fxc hx17,hx17⟩,A2,c3,F,A3,c4,F2,A4,c5,E,rfl,H⟩
 refine sqz (pz 2 hf fun a hf=>?_)
 refine wl_end (then_n (ib hF hf (fun hc5 hF=>?_) fun hc5 hF=>?_))
 ·refine reg (pz 1 hf fun a hf=>?_)
  refine lB 1 hf H TF.ls28 fun a hf=>?_
  refine lN 0 hf H TF.la49 fun a hf=>?_
  refine wl0 rfl (bl hf H 49 ([e]:List Light) [(.int .i64 e.Id),(.int .i64 e.Route.Start),(.slice A7 e.Route.Fibers.length c8),(.int .i64 e.Block.First),(.int .i64 e.Block.Count)] (el1 (y:=e) ((Light_mk (x:=e) (H.get 1 rfl)))) fun A17 a w hf H=>?_)
  obtain ⟨l,hl_,hF⟩:=bs_ hF
  refine wl0 rfl (op_appR hf H Tryz.underlying28 TF.ai49 rfl (by decide) 1 0 rfl rfl rfl rfl (.inr rfl) hl_ (by decide) fun E2 A18 c17 a w hf H=>?_)
  refine pz 1 hf fun a hf=>?_
  refine sB 1 hf H TF.sz28 fun w H=>?_
  have hf:=hf.pn [2,3,4,5]
  refine wl_end (blk_n (then_n (sqz (pz 1 hf fun a hf=>?_))))
  refine lB 1 hf H TF.ls28 fun a hf=>?_
  refine pz 1 hf fun a hf=>?_
  refine lN 0 hf H TF.la49 fun a hf=>?_
  obtain ⟨e5,he5,hF⟩:=bs_ hF
  refine wl0 rfl (op_iaddrR hf H Tryz.underlying28 TF.sz49 1 rfl rfl rfl he5 (by decide) fun p5 o6 cs12 a hf hA5 hr12 hk5=>?_)
  obtain ⟨A19,c18,rfl,hl13⟩:=Light_cells hr12
  have H:=H.pT hl13
  refine wl0 rfl (op_storeR (e':=e) (o:=o6) (off:=0) hf H TF.sz49 1 rfl rfl rfl rfl rfl (nle rfl) rfl hA5 he5 (st_full (Light_mk (x:=e) (H.get 2 rfl))) fun w H=>?_)
  replace hf:Fr a 98 [(2,(.pointer (some ⟨b2,0,none⟩))),(3,(.pointer (some ⟨b3,0,none⟩))),(4,(.int .i64 y2.1)),(5,(.pointer (some ⟨b4,0,none⟩))),(92,(.pointer (some ⟨b3,2,none⟩))),(93,(.slice A18 l.length c17)),(94,(.int .i64 y2.1)),(95,(.agg #[(.int .i64 e.Id),(.int .i64 e.Route.Start),(.slice A7 e.Route.Fibers.length c8),(.int .i64 e.Block.First),(.int .i64 e.Block.Count)])),(96,(.pointer (some ⟨p5,o6 + 0,none⟩)))]:=hf.prune [2,3,4,5,92,93,94,95,96] rfl
  replace hf:Fr a 98 [(2,(.pointer (some ⟨b2,0,none⟩))),(3,(.pointer (some ⟨b3,0,none⟩))),(4,(.int .i64 y2.1)),(5,(.pointer (some ⟨b4,0,none⟩))),(92,(.pointer (some ⟨b3,2,none⟩))),(93,(.slice A18 (l.set (y2.1:Int).toNat e).length c17)),(94,(.int .i64 y2.1)),(95,(.agg #[(.int .i64 e.Id),(.int .i64 e.Route.Start),(.slice A7 e.Route.Fibers.length c8),(.int .i64 e.Block.First),(.int .i64 e.Block.Count)])),(96,(.pointer (some ⟨p5,o6 + 0,none⟩)))]:=by simpa only [List.length_set,Nat.add_zero] using hf
  replace H:Mem ⟨w0,[b0]⟩ S [⟨b4,49,[(.int .i64 e.Id),(.int .i64 e.Route.Start),(.slice A7 e.Route.Fibers.length c8),(.int .i64 e.Block.First),(.int .i64 e.Block.Count)]⟩,⟨b3,30,[(.slice A2 y.1.Network.Nodes.length c3),(.slice A3 y.1.Network.Fibers.length c4),(.slice A18 (l.set (y2.1:Int).toNat e).length c17)]⟩,⟨b2,30,[(.slice none 0 0),(.slice none 0 0),(.slice none 0 0)]⟩,⟨b0,109,[(.slice A y3.2.code.length c2),(.int .i64 y3.2.at_),(.int .u64 y3.2.seed.n)]⟩] [⟨.sh true,49,A17,1,([e]:List Light)⟩,⟨.sh true,E2,A18,c17,(l.set (y2.1:Int).toNat e:List Light)⟩] [⟨F,MP.own F [(.slice A2 y.1.Network.Nodes.length c3)] (y.1.Network.Nodes:List ByteArray)⟩,⟨F2,MP.own F2 [(.slice A3 y.1.Network.Fibers.length c4)] (y.1.Network.Fibers:List Fiber)⟩] [(true,MP.val [(.slice A19 e5.Route.Fibers.length c18)] (e5.Route.Fibers:List Int)),(false,MP.val [(.slice A y3.2.code.length c2)] (y3.2.code:List By)),(true,MP.val [(.slice A7 e.Route.Fibers.length c8)] (e.Route.Fibers:List Int)),(false,MP.val [(.slice A y2.2.code.length c2)] (y2.2.code:List By)),(true,MP.val [(.slice A3 y.1.Network.Fibers.length c4)] (y.1.Network.Fibers:List Fiber)),(true,MP.val [(.slice A2 y.1.Network.Nodes.length c3)] (y.1.Network.Nodes:List ByteArray)),(false,MP.val [(.slice A y.2.code.length c2)] (y.2.code:List By)),(false,MP.val [(.slice A c.code.length c2)] (c.code:List By))] w:=by first | (simp only [List.length_set]; exact H) | (simp only [List.length_set] at H ⊢; exact H)
  refine wr (lN 1 hf H TF.la30 fun a hf=>?_)
  refine sB 2 hf H TF.sz30 fun w H=>?_
  refine wer ?_
  have H:=H.lm 15 2 3 8 255
  have hcell:GoTy.rep w (fun _=>True) [(.slice A y3.2.code.length c2),(.int .i64 y3.2.at_),(.int .u64 y3.2.seed.n)] (y3.2:L1CurP):=(L1CurP_mk (x:=y3.2) (H.rt 1 rfl))
  have H:=H.frontD 1 rfl
  have H:=H.frontD 1 rfl
  obtain rfl:=oi hF
  refine ret_1 hf rfl (rv_cellN hf H 2 TF.la30 rfl rfl rfl) ?_
  have H:=H.lk 8 1 3 []
  exact ⟨_,rfl,_,hcell,⟨fxc hx8,hx8⟩,A2,c3,F,A3,c4,F2,A18,c17,E2,rfl,H⟩
 refine sqz (pz 2 hf fun a hf=>?_)
 refine wl_end (then_n (ib hF hf (fun hc6 hF=>?_) fun hc6 hF=>?_))
 ·refine reg (pz 1 hf fun a hf=>?_)
  obtain ⟨y7,hy7,hF⟩:=bs_ hF
  refine oc hf TF.cl145 (spec_l1Cur_anyNetwork_ok (S:=NB b0) (H.boxAt 3 rfl) ((L1CurP_mk (x:=y3.2) (H.nb 3 rfl (H.get 0 rfl)))) (fun h=>h rfl) hy7) fun v7 w a hp9 hf=>?_
  obtain ⟨hch6,cs13,hbx6,hr13,⟨hx18,hx19⟩,hs6⟩:=hp9
  obtain ⟨F5,hp10,hN2⟩:=hs6
  obtain ⟨A20,c19,F6,A21,c20,F7,rfl,rfl,hl14,hl15⟩:=Network_vo hp10
  obtain ⟨A22,c21,rfl,hl16⟩:=L1CurP_cells hr13
  obtain ⟨rfl,rfl⟩:=fx_slice hx18 rfl rfl
  have hx20:=hx19.trans hx8
  have H:=H.bO2 3 rfl hch6 hbx6 hN2 hl14 hl15
  have H:=H.pX 0 rfl hx19
  have H:=H.lend 0 rfl
  have H:=H.lend 1 rfl
  refine pz 1 hf fun a hf=>?_
  refine sB 1 hf H TF.sz27 fun w H=>?_
  have hf:=hf.pn [2,3,4,5]
  refine wl_end (blk_n (then_n (sqz (pz 1 hf fun a hf=>?_))))
  refine lB 1 hf H TF.ls28 fun a hf=>?_
  refine pz 1 hf fun a hf=>?_
  refine lN 0 hf H TF.la49 fun a hf=>?_
  obtain ⟨e6,he6,hF⟩:=bs_ hF
  refine wl0 rfl (op_iaddrR hf H Tryz.underlying28 TF.sz49 0 rfl rfl rfl he6 (by decide) fun p6 o7 cs14 a hf hA6 hr14 hk6=>?_)
  obtain ⟨A23,c22,rfl,hl17⟩:=Light_cells hr14
  have H:=H.pT hl17
  refine wl0 rfl (op_storeR (e':=e) (o:=o7) (off:=0) hf H TF.sz49 0 rfl rfl rfl rfl rfl (nle rfl) rfl hA6 he6 (st_full (Light_mk (x:=e) (H.get 5 rfl))) fun w H=>?_)
  replace hf:Fr a 98 [(2,(.pointer (some ⟨b2,0,none⟩))),(3,(.pointer (some ⟨b3,0,none⟩))),(4,(.int .i64 y2.1)),(5,(.pointer (some ⟨b4,0,none⟩))),(92,(.pointer (some ⟨b3,2,none⟩))),(93,(.slice A4 y.1.Lights.length c5)),(94,(.int .i64 y2.1)),(95,(.agg #[(.int .i64 e.Id),(.int .i64 e.Route.Start),(.slice A7 e.Route.Fibers.length c8),(.int .i64 e.Block.First),(.int .i64 e.Block.Count)])),(96,(.pointer (some ⟨p6,o7 + 0,none⟩)))]:=hf.prune [2,3,4,5,92,93,94,95,96] rfl
  replace hf:Fr a 98 [(2,(.pointer (some ⟨b2,0,none⟩))),(3,(.pointer (some ⟨b3,0,none⟩))),(4,(.int .i64 y2.1)),(5,(.pointer (some ⟨b4,0,none⟩))),(92,(.pointer (some ⟨b3,2,none⟩))),(93,(.slice A4 (y.1.Lights.set (y2.1:Int).toNat e).length c5)),(94,(.int .i64 y2.1)),(95,(.agg #[(.int .i64 e.Id),(.int .i64 e.Route.Start),(.slice A7 e.Route.Fibers.length c8),(.int .i64 e.Block.First),(.int .i64 e.Block.Count)])),(96,(.pointer (some ⟨p6,o7 + 0,none⟩)))]:=by simpa only [List.length_set,Nat.add_zero] using hf
  replace H:Mem ⟨w0,[b0]⟩ S [⟨b4,49,[(.int .i64 e.Id),(.int .i64 e.Route.Start),(.slice A7 e.Route.Fibers.length c8),(.int .i64 e.Block.First),(.int .i64 e.Block.Count)]⟩,⟨b3,30,[(.slice A20 y7.1.Nodes.length c19),(.slice A21 y7.1.Fibers.length c20),(.slice A4 (y.1.Lights.set (y2.1:Int).toNat e).length c5)]⟩,⟨b2,30,[(.slice none 0 0),(.slice none 0 0),(.slice none 0 0)]⟩,⟨b0,109,[(.slice A y7.2.code.length c2),(.int .i64 y7.2.at_),(.int .u64 y7.2.seed.n)]⟩] [⟨.sh true,E,A4,c5,(y.1.Lights.set (y2.1:Int).toNat e:List Light)⟩] [⟨F6,MP.own F6 [(.slice A20 y7.1.Nodes.length c19)] (y7.1.Nodes:List ByteArray)⟩,⟨F7,MP.own F7 [(.slice A21 y7.1.Fibers.length c20)] (y7.1.Fibers:List Fiber)⟩,⟨F,MP.own F [(.slice A2 y.1.Network.Nodes.length c3)] (y.1.Network.Nodes:List ByteArray)⟩,⟨F2,MP.own F2 [(.slice A3 y.1.Network.Fibers.length c4)] (y.1.Network.Fibers:List Fiber)⟩] [(true,MP.val [(.slice A23 e6.Route.Fibers.length c22)] (e6.Route.Fibers:List Int)),(true,MP.val [(.slice A21 y7.1.Fibers.length c20)] (y7.1.Fibers:List Fiber)),(true,MP.val [(.slice A20 y7.1.Nodes.length c19)] (y7.1.Nodes:List ByteArray)),(false,MP.val [(.slice A y7.2.code.length c2)] (y7.2.code:List By)),(false,MP.val [(.slice A y3.2.code.length c2)] (y3.2.code:List By)),(true,MP.val [(.slice A7 e.Route.Fibers.length c8)] (e.Route.Fibers:List Int)),(false,MP.val [(.slice A y2.2.code.length c2)] (y2.2.code:List By)),(true,MP.val [(.slice A3 y.1.Network.Fibers.length c4)] (y.1.Network.Fibers:List Fiber)),(true,MP.val [(.slice A2 y.1.Network.Nodes.length c3)] (y.1.Network.Nodes:List ByteArray)),(false,MP.val [(.slice A y.2.code.length c2)] (y.2.code:List By)),(false,MP.val [(.slice A c.code.length c2)] (c.code:List By))] w:=by first | (simp only [List.length_set]; exact H) | (simp only [List.length_set] at H ⊢; exact H)
  refine wr (lN 1 hf H TF.la30 fun a hf=>?_)
  refine sB 2 hf H TF.sz30 fun w H=>?_
  refine wer ?_
  have hcell:GoTy.rep w (fun _=>True) [(.slice A y7.2.code.length c2),(.int .i64 y7.2.at_),(.int .u64 y7.2.seed.n)] (y7.2:L1CurP):=(L1CurP_mk (x:=y7.2) (H.rt 3 rfl))
  have H:=H.frontD 1 rfl
  have H:=H.frontD 1 rfl
  obtain rfl:=oi hF
  refine ret_1 hf rfl (rv_cellN hf H 2 TF.la30 rfl rfl rfl) ?_
  have H:=H.lk 8 1 3 []
  exact ⟨_,rfl,_,hcell,⟨fxc hx20,hx20⟩,A20,c19,F6,A21,c20,F7,A4,c5,E,rfl,H⟩
 refine sqz (pz 2 hf fun a hf=>?_)
 have hf:=hf.pn [0,2,3,4,5,57]
 refine wl_end (then_n (ib hF hf (fun hc7 hF=>?_) fun hc7 hF=>?_))
 ·refine sq (sqz (pz 1 hf fun a hf=>?_))
  refine wl_end (then_n ?_)
  obtain ⟨out',hB1,hF⟩:=bs_ hF
  have hf:=hf.pn [0,2,3,6]
  have H:=H.lm 14 1 3 5 25
  refine loopC (fun (s:Int×List Light×List By×Int×U64) (a:Act) (w:World)=>match s with | (n',m,m2,m3,m4)=>∃ (A24:Option Addr) (c23:Nat) (E3:Go.TypeId),m2=c.code∧Fr a 98 [(0,(.pointer (some ⟨b0,0,none⟩))),(2,(.pointer (some ⟨b2,0,none⟩))),(3,(.pointer (some ⟨b3,0,none⟩))),(6,(.int .i64 n'))]∧Mem ⟨w0,[b0]⟩ S [⟨b3,30,[(.slice A2 y.1.Network.Nodes.length c3),(.slice A3 y.1.Network.Fibers.length c4),(.slice A24 m.length c23)]⟩,⟨b2,30,[(.slice none 0 0),(.slice none 0 0),(.slice none 0 0)]⟩,⟨b0,109,[(.slice A m2.length c2),(.int .i64 m3),(.int .u64 m4.n)]⟩] [⟨.sh true,E3,A24,c23,(m:List Light)⟩] [⟨F,MP.own F [(.slice A2 y.1.Network.Nodes.length c3)] (y.1.Network.Nodes:List ByteArray)⟩,⟨F2,MP.own F2 [(.slice A3 y.1.Network.Fibers.length c4)] (y.1.Network.Fibers:List Fiber)⟩] [(false,MP.val [(.slice A m2.length c2)] (m2:List By)),(true,MP.val [(.slice A3 y.1.Network.Fibers.length c4)] (y.1.Network.Fibers:List Fiber)),(true,MP.val [(.slice A2 y.1.Network.Nodes.length c3)] (y.1.Network.Nodes:List ByteArray))] w) (fun k (s:Int×List Light×List By×Int×U64)=>spec_l1Cur_anyPlan_L1 fu y k s.1 s.2.1 s.2.2.1 s.2.2.2.1 s.2.2.2.2=some out') (fun s=>out'=s) (0,y.1.Lights,y3.2.code,y3.2.at_,y3.2.seed) fu hB1 ⟨A4,c5,E,hx8,hf,H⟩ (fun s h=>by cases h) ?_ ?_
  ·rintro fk ⟨n',m,m2,m3,m4⟩ a w hR1 hI
   replace hR1:spec_l1Cur_anyPlan_L1 fu y (fk + 1) n' m m2 m3 m4=some out':=hR1
   rw [spec_l1Cur_anyPlan_L1] at hR1
   obtain ⟨A24,c23,E3,hsm,hf,H⟩:=hI
   refine sq (sq (dw [] 11 fun w hb=>?_))
   have H:=H.keep hb
   refine zp 0 hf trivial fun a hf=>?_
   refine strT (H.lk 1 0 0 []) (fun w H=>trivial) fun hS=>?_
   refine zS 1 [] rfl rfl rfl rfl hf hS (fun w H=>rq_loadB hf H TF.ls28 0 rfl rfl rfl) fun a hf=>?_
   refine zp 2 hf hS fun a hf=>?_
   refine zp 3 hf hS fun a hf=>?_
   obtain ⟨y8,hy8,hR1⟩:=bs_ hR1
   refine nn 4 rfl (oC hf TF.cl121 (spec_l1Cur_pick_ok (S:=NB b0) (H.boxAt 2 rfl) ((L1CurP_mk (x:=({ code:=m2,at_:=m3,seed:=m4 }:L1CurP)) (H.nb 2 rfl (H.get 0 rfl)))) (fun h=>h rfl) mk_int hy8) fun v8 w a hp11 hf=>?_)
   obtain ⟨hch7,cs15,hbx7,hr15,⟨hx21,hx22⟩,hs7⟩:=hp11
   obtain rfl:=VR_int hs7
   obtain ⟨A25,c24,rfl,hl18⟩:=L1CurP_cells hr15
   obtain ⟨rfl,rfl⟩:=fx_slice hx21 rfl rfl
   have hx23:=hx22.trans hsm
   have H:=H.wroteBox 2 rfl hch7 hbx7
   have H:=H.pX 0 rfl hx22
   have hS:=H.lk 1 0 0 []
   refine aS hS ?_
   refine zp 5 hf hS fun a hf=>?_
   refine zp 6 hf hS fun a hf=>?_
   refine zp 7 hf hS fun a hf=>?_
   refine iteB hR1 (fun hc8 hR1=>?_) fun hc8 hR1=>?_
   ·have hf:=hf.lit 66 rfl hc8
    refine zg 8 hf hS fun a hf=>?_
    refine zg 9 hf hS fun a hf=>?_
    refine zp 10 hf hS fun a hf=>?_
    refine dk ?_
    refine then_n (ib hR1 hf (fun hc9 hR1=>?_) fun hc9 hR1=>?_)
    ·refine wp_skip (then_n (sq (wp_block (dw [19] 20 fun w hb=>?_))))
     have H:=H.keep hb
     refine zp 0 hf trivial fun a hf=>?_
     refine strT (H.lk 1 0 0 []) (fun w H=>trivial) fun hS=>?_
     refine zS 1 [1,17,18,19] rfl rfl rfl rfl hf hS (fun w H=>rq_loadB hf H TF.ls28 0 rfl rfl rfl) fun a hf=>?_
     refine zp 2 hf hS fun a hf=>?_
     refine zp 3 hf hS fun a hf=>?_
     refine zp 4 hf hS fun a hf=>?_
     refine zp 5 hf hS fun a hf=>?_
     refine zS 6 [6,7,8,9,11,15,16,17,18,19] rfl rfl rfl rfl hf hS (fun w H=>rq_loadB hf H TF.ls25 0 rfl rfl rfl) fun a hf=>?_
     obtain ⟨e7,he7,hR1⟩:=bs_ hR1
     obtain ⟨p7,o8,cs16,hx24,hr16,H⟩:=pre_iaddr H Tryz.underlying25 TF.sz180 2 rfl he7
     refine zP 7 rfl rfl rfl rfl hf hS (fun w=>rq_iaddrE hf rfl rfl rfl hx24 w) fun a hf=>?_
     obtain rfl:=Fiber_cells hr16
     refine zp 8 hf hS fun a hf=>?_
     refine strT (H.lk 1 0 0 [0]) (fun w H=>H.lk 1 0 0 []) fun hS=>?_
     refine zS 9 [9,11,15,16,17,18,19] rfl rfl rfl rfl hf hS (fun w H=>rq_loadI hf H TF.ls3 0 0 rfl rfl rfl) fun a hf=>?_
     refine zp 12 hf hS fun a hf=>?_
     refine zp 13 hf hS fun a hf=>?_
     refine zP 14 rfl rfl rfl rfl hf hS (fun w=>rq_build hf (cs:=[(.int .i64 (w64 (23 - n'))),(.int .i64 1)]) rfl (fun w=>by kernel_rfl)) fun a hf=>?_
     refine nn 10 rfl (bl hf H 3 ([0]:List Int) [(.int .i64 0)] (el1 (y:=0) (rfl)) fun A26 a w hf H=>?_)
     have hS:=H.lk 1 0 0 [0]
     refine aS hS ?_
     refine zP 11 rfl rfl rfl rfl hf hS (fun w=>rq_build hf (cs:=[(.int .i64 e7.A),(.slice A26 1 1)]) rfl (fun w=>by kernel_rfl)) fun a hf=>?_
     refine zP 15 rfl rfl rfl rfl hf hS (fun w=>rq_build hf (cs:=[(.int .i64 (w64 (500 + n'))),(.int .i64 e7.A),(.slice A26 1 1),(.int .i64 (w64 (23 - n'))),(.int .i64 1)]) rfl (fun w=>by kernel_rfl)) fun a hf=>?_
     have H:=H.rowOwn 0 rfl rfl
     obtain ⟨F8,H⟩:=H.freezeOwn 0 rfl
     have H:=H.lend 0 rfl
     have H:=H.recast (X:=[(⟨F8,MP.own F8 [(.slice A26 1 1)] ([0]:List Int)⟩:DI)]) (Y:=[(⟨F8,MP.own F8 [(.int .i64 (w64 (500 + n'))),(.int .i64 e7.A),(.slice A26 1 1),(.int .i64 (w64 (23 - n'))),(.int .i64 1)] (({ Id:=w64 (500 + n'),Route:=({ Start:=e7.A,Fibers:=[0] }:Route),Block:=({ First:=w64 (23 - n'),Count:=1 }:Block) }:Light):Light)⟩:DI)]) (List.Perm.of_eq (by simp)) fun _=>ps1 (Light_ownmk (x:=({ Id:=w64 (500 + n'),Route:=({ Start:=e7.A,Fibers:=[0] }:Route),Block:=({ First:=w64 (23 - n'),Count:=1 }:Block) }:Light)) (H.ownAt 0 rfl)) ps0
     refine nn 16 rfl (op_bsliceO hf 49 H rfl (fun w=>by kernel_rfl) (by decide) fun A27 a w hf H=>?_)
     have hS:=H.lk 1 0 0 [1]
     refine aS hS ?_
     have H:=H.rowSh 0 rfl
     obtain ⟨l2,hl2_,hR1⟩:=bs_ hR1
     refine nn 17 rfl (op_appR hf H Tryz.underlying28 TF.ai49 rfl (by decide) 1 0 rfl rfl rfl rfl (.inr rfl) hl2_ (by decide) fun E4 A28 c25 a w hf H=>?_)
     have hS:=H.lk 1 0 0 [1]
     refine aS hS ?_
     refine zp 18 hf hS fun a hf=>?_
     refine nn 19 rfl (op_storeB hf H 0 TF.sz28 rfl rfl rfl rfl rfl rfl (nle rfl) fun w H=>?_)
     refine ⟨fun h=>absurd h (by decide),?_⟩
     refine dk ?_
     have hf:=hf.pn [0,2,3,6,67,68]
     refine blk_n (then_n (reg (pz 3 hf fun a hf=>?_)))
     refine wl_end ?_
     have H:=H.lm 7 2 3 6 63
     have hf:=hf.pn [0,2,3,6]
     have H:=H.lm 7 1 3 6 52
     exact then_n ⟨(w64 (n' + 1),l2,y8.2.code,y8.2.at_,y8.2.seed),hR1,A28,c25,E4,hx23,hf,H⟩
    refine wp_exit (then_x (then_x (blk_e (?_))))
    have hf:=hf.pn [0,2,3,6]
    have H:=H.lm 7 1 3 4 13
    exact ⟨(n',m,y8.2.code,y8.2.at_,y8.2.seed),(Option.some.inj hR1).symm,A24,c23,E3,hx23,hf,H⟩
   have hf:=hf.lit 66 rfl hc8
   refine zU 8 hf hS fun a hf=>?_
   refine zU 9 hf hS fun a hf=>?_
   refine zp 10 hf hS fun a hf=>?_
   refine dk ?_
   refine then_n (cd_f hf rfl rfl (wp_exit (then_x (then_x (blk_e (?_))))))
   have hf:=hf.pn [0,2,3,6]
   have H:=H.lm 7 1 3 4 13
   exact ⟨(n',m,y8.2.code,y8.2.at_,y8.2.seed),(Option.some.inj hR1).symm,A24,c23,E3,hx23,hf,H⟩
  rintro a w ⟨⟨n2,m5,m6,m7,m8⟩,rfl,A29,c26,E5,hsm,hf,H⟩
  try dsimp only at hsm
  try dsimp only at hF
  refine then_n (sq (reg (lN 0 hf H TF.la30 fun a hf=>?_)))
  refine sB 1 hf H TF.sz30 fun w H=>?_
  refine wl_end (then_n (wp_ret (blk_r (then_r (?_)))))
  have hcell:GoTy.rep w (fun _=>True) [(.slice A m6.length c2),(.int .i64 m7),(.int .u64 m8.n)] (({ code:=m6,at_:=m7,seed:=m8 }:L1CurP):L1CurP):=(L1CurP_mk (x:=({ code:=m6,at_:=m7,seed:=m8 }:L1CurP)) (H.rt 0 rfl))
  have H:=H.frontD 1 rfl
  have H:=H.frontD 1 rfl
  obtain rfl:=oi hF
  refine ret_1 hf rfl (rv_cellN hf H 1 TF.la30 rfl rfl rfl) ?_
  have H:=H.lk 4 1 3 []
  exact ⟨_,rfl,_,hcell,⟨fxc hsm,hsm⟩,A2,c3,F,A3,c4,F2,A29,c26,E5,rfl,H⟩
 refine wp_skip (blk_n (then_n (sqz (pz 1 hf fun a hf=>?_))))
 refine lB 1 hf H TF.ls28 fun a hf=>?_
 refine pz 1 hf fun a hf=>?_
 refine lN 0 hf H TF.la49 fun a hf=>?_
 obtain ⟨e8,he8,hF⟩:=bs_ hF
 refine wl0 rfl (op_iaddrR hf H Tryz.underlying28 TF.sz49 0 rfl rfl rfl he8 (by decide) fun p8 o9 cs17 a hf hA7 hr17 hk7=>?_)
 obtain ⟨A30,c27,rfl,hl19⟩:=Light_cells hr17
 have H:=H.pT hl19
 refine wl0 rfl (op_storeR (e':=e) (o:=o9) (off:=0) hf H TF.sz49 0 rfl rfl rfl rfl rfl (nle rfl) rfl hA7 he8 (st_full (Light_mk (x:=e) (H.get 2 rfl))) fun w H=>?_)
 replace hf:Fr a 98 [(2,(.pointer (some ⟨b2,0,none⟩))),(3,(.pointer (some ⟨b3,0,none⟩))),(4,(.int .i64 y2.1)),(5,(.pointer (some ⟨b4,0,none⟩))),(92,(.pointer (some ⟨b3,2,none⟩))),(93,(.slice A4 y.1.Lights.length c5)),(94,(.int .i64 y2.1)),(95,(.agg #[(.int .i64 e.Id),(.int .i64 e.Route.Start),(.slice A7 e.Route.Fibers.length c8),(.int .i64 e.Block.First),(.int .i64 e.Block.Count)])),(96,(.pointer (some ⟨p8,o9 + 0,none⟩)))]:=hf.prune [2,3,4,5,92,93,94,95,96] rfl
 replace hf:Fr a 98 [(2,(.pointer (some ⟨b2,0,none⟩))),(3,(.pointer (some ⟨b3,0,none⟩))),(4,(.int .i64 y2.1)),(5,(.pointer (some ⟨b4,0,none⟩))),(92,(.pointer (some ⟨b3,2,none⟩))),(93,(.slice A4 (y.1.Lights.set (y2.1:Int).toNat e).length c5)),(94,(.int .i64 y2.1)),(95,(.agg #[(.int .i64 e.Id),(.int .i64 e.Route.Start),(.slice A7 e.Route.Fibers.length c8),(.int .i64 e.Block.First),(.int .i64 e.Block.Count)])),(96,(.pointer (some ⟨p8,o9 + 0,none⟩)))]:=by simpa only [List.length_set,Nat.add_zero] using hf
 replace H:Mem ⟨w0,[b0]⟩ S [⟨b4,49,[(.int .i64 e.Id),(.int .i64 e.Route.Start),(.slice A7 e.Route.Fibers.length c8),(.int .i64 e.Block.First),(.int .i64 e.Block.Count)]⟩,⟨b3,30,[(.slice A2 y.1.Network.Nodes.length c3),(.slice A3 y.1.Network.Fibers.length c4),(.slice A4 (y.1.Lights.set (y2.1:Int).toNat e).length c5)]⟩,⟨b2,30,[(.slice none 0 0),(.slice none 0 0),(.slice none 0 0)]⟩,⟨b0,109,[(.slice A y3.2.code.length c2),(.int .i64 y3.2.at_),(.int .u64 y3.2.seed.n)]⟩] [⟨.sh true,E,A4,c5,(y.1.Lights.set (y2.1:Int).toNat e:List Light)⟩] [⟨F,MP.own F [(.slice A2 y.1.Network.Nodes.length c3)] (y.1.Network.Nodes:List ByteArray)⟩,⟨F2,MP.own F2 [(.slice A3 y.1.Network.Fibers.length c4)] (y.1.Network.Fibers:List Fiber)⟩] [(true,MP.val [(.slice A30 e8.Route.Fibers.length c27)] (e8.Route.Fibers:List Int)),(false,MP.val [(.slice A y3.2.code.length c2)] (y3.2.code:List By)),(true,MP.val [(.slice A7 e.Route.Fibers.length c8)] (e.Route.Fibers:List Int)),(false,MP.val [(.slice A y2.2.code.length c2)] (y2.2.code:List By)),(true,MP.val [(.slice A3 y.1.Network.Fibers.length c4)] (y.1.Network.Fibers:List Fiber)),(true,MP.val [(.slice A2 y.1.Network.Nodes.length c3)] (y.1.Network.Nodes:List ByteArray)),(false,MP.val [(.slice A y.2.code.length c2)] (y.2.code:List By)),(false,MP.val [(.slice A c.code.length c2)] (c.code:List By))] w:=by first | (simp only [List.length_set]; exact H) | (simp only [List.length_set] at H ⊢; exact H)
 refine wr (lN 1 hf H TF.la30 fun a hf=>?_)
 refine sB 2 hf H TF.sz30 fun w H=>?_
 refine wer ?_
 have hcell:GoTy.rep w (fun _=>True) [(.slice A y3.2.code.length c2),(.int .i64 y3.2.at_),(.int .u64 y3.2.seed.n)] (y3.2:L1CurP):=(L1CurP_mk (x:=y3.2) (H.rt 1 rfl))
 have H:=H.frontD 1 rfl
 have H:=H.frontD 1 rfl
 obtain rfl:=oi hF
 refine ret_1 hf rfl (rv_cellN hf H 2 TF.la30 rfl rfl rfl) ?_
 have H:=H.lk 8 1 3 []
 exact ⟨_,rfl,_,hcell,⟨fxc hx8,hx8⟩,A2,c3,F,A3,c4,F2,A4,c5,E,rfl,H⟩
theorem spec_l1In_ok {S:Nat→Prop} {v0_:Value} {v1_:Value} {v2_:Value} {x1:Int} {a':Int} {b':Int} {r:Bool} (h0:VR w0 S v0_ x1) (h1:VR w0 S v1_ a') (h2:VR w0 S v2_ b') (hF:spec_l1In fu x1 a' b'=some r) :
    Calls Tryz.prog 153 [v0_,v1_,v2_].toArray w0 fun e w'=>∃ v,e=.returned v∧(Below w0.heap.size w0 w'∧VR w' (St ⟨w0,[]⟩ S [] [] [] true) v r):=by
 obtain rfl:=VR_int h0
 obtain rfl:=VR_int h1
 obtain rfl:=VR_int h2
 have H:=Mem.start ⟨w0,[]⟩ S
 refine en Tryz.func153 fun a hf=>?_
 rw [spec_l1In] at hF
 refine sqz (pz 1 hf fun a hf=>?_)
 refine wl_end (then_n (sq ?_))
 obtain ⟨c,hGc,hF⟩:=bs_ hF
 have fh:=hf.prune [] rfl
 have Hm:=H.lk 0 0 0 []
 refine midF 6 (.bool c) fh Hm ?_ fun a w hf H=>?_
 ·refine reg (pz 4 hf fun a hf=>?_)
  refine iteB hGc (fun hc hGc=>?_) fun hc hGc=>?_
  ·have hf:=hf.lit 10 rfl hc
   refine pz 5 hf fun a hf=>?_
   obtain rfl:=oi hGc
   have hf:=hf.pn [6]
   have H:=H.lk 0 0 0 []
   exact wl_end ⟨hf,H⟩
  have hf:=hf.lit 10 rfl hc
  refine pz 5 hf fun a hf=>?_
  obtain rfl:=oi hGc
  have hf:=hf.pn [6]
  have H:=H.lk 0 0 0 []
  exact wl_end ⟨hf,H⟩
 refine then_n (wp_ret (?_))
 obtain rfl:=oi hF
 refine rT hf ?_
 exact ⟨_,rfl,H.bel,mk_bool⟩
theorem spec_l2Sign_ok {S:Nat→Prop} {v0_:Value} {b':By} {r:Bool} (h0:VR w0 S v0_ b') (hF:spec_l2Sign fu b'=some r) :
    Calls Tryz.prog 308 [v0_].toArray w0 fun e w'=>∃ v,e=.returned v∧(Below w0.heap.size w0 w'∧VR w' (St ⟨w0,[]⟩ S [] [] [] true) v r):=by
 obtain rfl:=VR_by h0
 have H:=Mem.start ⟨w0,[]⟩ S
 refine en Tryz.func308 fun a hf=>?_
 rw [spec_l2Sign] at hF
 refine sqz (pz 1 hf fun a hf=>?_)
 refine wl_end (then_n (sq ?_))
 obtain ⟨c,hGc,hF⟩:=bs_ hF
 have fh:=hf.prune [] rfl
 have Hm:=H.lk 0 0 0 []
 refine midF 2 (.bool c) fh Hm ?_ fun a w hf H=>?_
 ·refine reg (pz 1 hf fun a hf=>?_)
  refine oq hf (rq_geK hf rfl rfl) fun a hf=>?_
  refine pz 1 hf fun a hf=>?_
  refine iteB hGc (fun hc hGc=>?_) fun hc hGc=>?_
  ·have hf:=hf.lit 5 rfl hc
   refine pz 1 hf fun a hf=>?_
   refine wlg hf rfl rfl rfl (op_q hf (rq_leK hf rfl rfl) rfl (by decide) fun a hf=>?_)
   refine pz 2 hf fun a hf=>?_
   refine iteB hGc (fun hc2 hGc=>?_) fun hc2 hGc=>?_
   ·have hf:=hf.lit 9 rfl hc2
    refine pz 3 hf fun a hf=>?_
    refine wlsu hf rfl rfl rfl rfl (by decide) fun a hf=>?_
    refine wlsu hf rfl rfl rfl rfl (by decide) fun a hf=>?_
    refine pz 3 hf fun a hf=>?_
    obtain rfl:=oi hGc
    have hf:=hf.pn [2]
    have H:=H.lk 0 0 0 []
    exact wl_end ⟨hf,H⟩
   have hf:=hf.lit 9 rfl hc2
   refine pz 1 hf fun a hf=>?_
   refine wlg hf rfl rfl rfl (op_q hf (rq_geK hf rfl rfl) rfl (by decide) fun a hf=>?_)
   refine pz 1 hf fun a hf=>?_
   refine iteB hGc (fun hc3 hGc=>?_) fun hc3 hGc=>?_
   ·have hf:=hf.lit 12 rfl hc3
    refine pz 1 hf fun a hf=>?_
    refine wlg hf rfl rfl rfl (op_q hf (rq_leK hf rfl rfl) rfl (by decide) fun a hf=>?_)
    refine pz 3 hf fun a hf=>?_
    obtain rfl:=oi hGc
    have hf:=hf.pn [2]
    have H:=H.lk 0 0 0 []
    exact wl_end ⟨hf,H⟩
   have hf:=hf.lit 12 rfl hc3
   refine pz 5 hf fun a hf=>?_
   obtain rfl:=oi hGc
   have hf:=hf.pn [2]
   have H:=H.lk 0 0 0 []
   exact wl_end ⟨hf,H⟩
  have hf:=hf.lit 5 rfl hc
  refine pz 5 hf fun a hf=>?_
  refine wlg hf rfl rfl rfl (op_q hf (rq_geK hf rfl rfl) rfl (by decide) fun a hf=>?_)
  refine pz 1 hf fun a hf=>?_
  refine iteB hGc (fun hc4 hGc=>?_) fun hc4 hGc=>?_
  ·have hf:=hf.lit 12 rfl hc4
   refine pz 1 hf fun a hf=>?_
   refine wlg hf rfl rfl rfl (op_q hf (rq_leK hf rfl rfl) rfl (by decide) fun a hf=>?_)
   refine pz 3 hf fun a hf=>?_
   obtain rfl:=oi hGc
   have hf:=hf.pn [2]
   have H:=H.lk 0 0 0 []
   exact wl_end ⟨hf,H⟩
  have hf:=hf.lit 12 rfl hc4
  refine pz 5 hf fun a hf=>?_
  obtain rfl:=oi hGc
  have hf:=hf.pn [2]
  have H:=H.lk 0 0 0 []
  exact wl_end ⟨hf,H⟩
 refine then_n (wp_ret (?_))
 obtain rfl:=oi hF
 refine rT hf ?_
 exact ⟨_,rfl,H.bel,mk_bool⟩
theorem spec_l2Name_ok {S:Nat→Prop} {v0_:Value} {s':ByteArray} {r:Bool} (h0:VR w0 S v0_ s') (hF:spec_l2Name fu s'=some r) :
    Calls Tryz.prog 257 [v0_].toArray w0 fun e w'=>∃ v,e=.returned v∧(Below w0.heap.size w0 w'∧VR w' (St ⟨w0,[]⟩ S [] [] [] true) v r):=by
 obtain rfl:=VR_str h0
 have H:=Mem.start ⟨w0,[]⟩ S
 refine en Tryz.func257 fun a hf=>?_
 rw [spec_l2Name] at hF
 refine sqz (pz 1 hf fun a hf=>?_)
 refine wl_end (then_n (sq (sq ?_)))
 obtain ⟨c,hGc,hF⟩:=bs_ hF
 have fh:=hf.prune [0] rfl
 have Hm:=H.lk 0 0 0 []
 refine midF 17 (.bool c) fh Hm ?_ fun a w hf H=>?_
 ·refine reg (pz 2 hf fun a hf=>?_)
  obtain ⟨y,hy,hGc⟩:=bs_ hGc
  refine oc hf TF.cl153 (spec_l1In_ok (S:=TT) mk_int mk_int mk_int hy) fun v w a hp hf=>?_
  obtain ⟨hb,hp⟩:=hp
  obtain rfl:=VR_bool hp
  have H:=H.keep hb
  refine pz 2 hf fun a hf=>?_
  refine iteB hGc (fun hc hGc=>?_) fun hc hGc=>?_
  ·have hf:=hf.lit 8 rfl hc
   refine pz 9 hf fun a hf=>?_
   obtain rfl:=oi hGc
   have hf:=hf.pn [17,0]
   have H:=H.lk 0 0 0 []
   exact wl_end ⟨hf,H⟩
  have hf:=hf.lit 8 rfl hc
  refine pz 1 hf fun a hf=>?_
  obtain ⟨e,he,hGc⟩:=bs_ hGc
  refine wlg hf rfl rfl rfl (op_q hf (rq_indexS hf Tryz.underlying9 rfl rfl he) rfl (by decide) fun a hf=>?_)
  refine wlg hf rfl rfl rfl (op_q hf (rq_ltK hf rfl rfl) rfl (by decide) fun a hf=>?_)
  refine pz 2 hf fun a hf=>?_
  refine iteB hGc (fun hc2 hGc=>?_) fun hc2 hGc=>?_
  ·have hf:=hf.lit 13 rfl hc2
   refine pz 4 hf fun a hf=>?_
   obtain rfl:=oi hGc
   have hf:=hf.pn [17,0]
   have H:=H.lk 0 0 0 []
   exact wl_end ⟨hf,H⟩
  have hf:=hf.lit 13 rfl hc2
  refine pz 1 hf fun a hf=>?_
  obtain ⟨e2,he2,hGc⟩:=bs_ hGc
  refine wlg hf rfl rfl rfl (op_q hf (rq_indexS hf Tryz.underlying9 rfl rfl he2) rfl (by decide) fun a hf=>?_)
  refine wlg hf rfl rfl rfl (op_q hf (rq_gtK hf rfl rfl) rfl (by decide) fun a hf=>?_)
  refine pz 1 hf fun a hf=>?_
  obtain rfl:=oi hGc
  have hf:=hf.pn [17,0]
  have H:=H.lk 0 0 0 []
  exact wl_end ⟨hf,H⟩
 refine then_n (ib hF hf (fun hc3 hF=>?_) fun hc3 hF=>?_)
 ·refine sqz (pz 1 hf fun a hf=>?_)
  refine wl_end (then_n (wp_ret (then_r (?_))))
  obtain rfl:=oi hF
  refine rT hf ?_
  exact ⟨_,rfl,H.bel,mk_bool⟩
 refine wp_skip (then_n (sq (sqz (pz 1 hf fun a hf=>?_))))
 refine wl_end (then_n ?_)
 obtain ⟨out',hB1,hF⟩:=bs_ hF
 have hf:=hf.pn [0,3]
 have H:=H.lk 0 0 0 []
 refine loopC (fun (s:Int) (a:Act) (w:World)=>match s with | i=>Fr a 29 [(0,(.string s')),(3,(.int .i64 i))]∧Mem ⟨w0,[]⟩ S [] [] [] [] w) (fun k (s:Int)=>spec_l2Name_L1 fu s' k s=some out') (fun s=>out'=Out.next s) 0 fu hB1 ⟨hf,H⟩ (fun s h=>by cases h) ?_ ?_
 ·rintro fk i a w hR1 hI
  replace hR1:spec_l2Name_L1 fu s' (fk + 1) i=some out':=hR1
  rw [spec_l2Name_L1] at hR1
  obtain ⟨hf,H⟩:=hI
  refine sq (sqz (pz 4 hf fun a hf=>?_))
  refine wl_end (then_n (ib hR1 hf (fun hc4 hR1=>?_) fun hc4 hR1=>?_))
  ·refine ws (pz 2 hf fun a hf=>?_)
   obtain ⟨e3,he3,hR1⟩:=bs_ hR1
   refine oq hf (rq_indexS hf Tryz.underlying9 rfl rfl he3) fun a hf=>?_
   obtain ⟨y2,hy2,hR1⟩:=bs_ hR1
   refine oc hf TF.cl308 (spec_l2Sign_ok (S:=TT) mk_by hy2) fun v2 w a hp2 hf=>?_
   obtain ⟨hb2,hp2⟩:=hp2
   obtain rfl:=VR_bool hp2
   have H:=H.keep hb2
   refine pz 1 hf fun a hf=>?_
   refine wl_end (then_n (ib hR1 hf (fun hc5 hR1=>?_) fun hc5 hR1=>?_))
   ·refine sqz (pz 1 hf fun a hf=>?_)
    refine wl_end (then_n (wp_ret (blk_r (then_r (then_r (blk_r (then_r (then_r (?_)))))))))
    obtain rfl:=oi hR1
    replace hF:=on_ret hF
    obtain rfl:=oi hF
    refine rT hf ?_
    exact ⟨_,rfl,H.bel,mk_bool⟩
   refine wp_skip (blk_n (then_n (reg (pz 3 hf fun a hf=>?_))))
   refine wl_end ?_
   have hf:=hf.pn [0,3]
   have H:=H.lk 0 0 0 []
   exact then_n ⟨w64 (i + 1),hR1,hf,H⟩
  refine wp_exit (then_x (then_x (blk_e (?_))))
  have hf:=hf.pn [0,3]
  have H:=H.lk 0 0 0 []
  exact ⟨i,(Option.some.inj hR1).symm,hf,H⟩
 rintro a w ⟨i2,rfl,hf,H⟩
 replace hF:=on_next hF
 refine then_n (sqz (pz 1 hf fun a hf=>?_))
 refine wer ?_
 obtain rfl:=oi hF
 refine rT hf ?_
 exact ⟨_,rfl,H.bel,mk_bool⟩
theorem spec_l2Find_ok {S:Nat→Prop} {v0_:Value} {v1_:Value} {list:List ByteArray} {name:ByteArray} {r:Int} (h0:VR w0 S v0_ list) (h1:VR w0 S v1_ name) (hF:spec_l2Find fu list name=some r) :
    Calls Tryz.prog 258 [v0_,v1_].toArray w0 fun e w'=>∃ v,e=.returned v∧(Below w0.heap.size w0 w'∧VR w' (St ⟨w0,[]⟩ S [] [] [] true) v r):=by
 obtain ⟨A,c,rfl,hl⟩:=VR_list h0
 obtain rfl:=VR_str h1
 have H:=Mem.start ⟨w0,[]⟩ S
 have H:=H.pA hl
 refine en Tryz.func258 fun a hf=>?_
 rw [spec_l2Find] at hF
 refine sqz (pz 1 hf fun a hf=>?_)
 refine we (sqz (pz 1 hf fun a hf=>?_))
 refine wl_end (then_n ?_)
 obtain ⟨out',hB1,hF⟩:=bs_ hF
 have hf:=hf.pn [0,1,5]
 have H:=H.lk 0 0 0 [0]
 refine loopC (fun (s:Int) (a:Act) (w:World)=>match s with | i=>Fr a 19 [(0,(.slice A list.length c)),(1,(.string name)),(5,(.int .i64 i))]∧Mem ⟨w0,[]⟩ S [] [] [] [(false,MP.val [(.slice A list.length c)] (list:List ByteArray))] w) (fun k (s:Int)=>spec_l2Find_L1 fu list name k s=some out') (fun s=>out'=Out.next s) 0 fu hB1 ⟨hf,H⟩ (fun s h=>by cases h) ?_ ?_
 ·rintro fk i a w hR1 hI
  replace hR1:spec_l2Find_L1 fu list name (fk + 1) i=some out':=hR1
  rw [spec_l2Find_L1] at hR1
  obtain ⟨hf,H⟩:=hI
  refine sq (sqz (pz 4 hf fun a hf=>?_))
  refine wl_end (then_n (ib hR1 hf (fun hc hR1=>?_) fun hc hR1=>?_))
  ·refine ws (pz 2 hf fun a hf=>?_)
   obtain ⟨e,he,hR1⟩:=bs_ hR1
   refine wl0 rfl (op_iaddr hf H Tryz.underlying24 TF.sz9 0 rfl rfl rfl he (by decide) fun p o cs a hf hr H=>?_)
   obtain rfl:=hr
   refine oq hf (rq_loadI hf H TF.ls9 0 0 rfl rfl rfl) fun a hf=>?_
   refine pz 2 hf fun a hf=>?_
   refine wl_end (then_n (ib hR1 hf (fun hc2 hR1=>?_) fun hc2 hR1=>?_))
   ·refine sqz (pz 2 hf fun a hf=>?_)
    have hf:=hf.pn [4]
    refine wl_end (then_n (wp_ret (blk_r (then_r (then_r (blk_r (then_r (then_r (?_)))))))))
    obtain rfl:=oi hR1
    replace hF:=on_ret hF
    obtain rfl:=oi hF
    refine rT hf ?_
    exact ⟨_,rfl,H.bel,mk_int⟩
   refine wp_skip (blk_n (then_n (reg (pz 3 hf fun a hf=>?_))))
   refine wl_end ?_
   have hf:=hf.pn [0,1,5]
   have H:=H.lk 0 0 0 [1]
   exact then_n ⟨w64 (i + 1),hR1,hf,H⟩
  refine wp_exit (then_x (then_x (blk_e (?_))))
  have hf:=hf.pn [0,1,5]
  have H:=H.lk 0 0 0 [0]
  exact ⟨i,(Option.some.inj hR1).symm,hf,H⟩
 rintro a w ⟨i2,rfl,hf,H⟩
 replace hF:=on_next hF
 refine then_n (sqz (pz 1 hf fun a hf=>?_))
 refine wer ?_
 obtain rfl:=oi hF
 refine rT hf ?_
 exact ⟨_,rfl,H.bel,mk_int⟩
theorem spec_l2Fiber_ok {S:Nat→Prop} {v0_:Value} {v1_:Value} {f:Fiber} {nodes:Int} {r:Bool} (h0:VR w0 S v0_ f) (h1:VR w0 S v1_ nodes) (hF:spec_l2Fiber fu f nodes=some r) :
    Calls Tryz.prog 259 [v0_,v1_].toArray w0 fun e w'=>∃ v,e=.returned v∧(Below w0.heap.size w0 w'∧VR w' (St ⟨w0,[]⟩ S [] [] [] true) v r):=by
 obtain rfl:=Fiber_open h0
 obtain rfl:=VR_int h1
 have H:=Mem.start ⟨w0,[]⟩ S
 refine en Tryz.func259 fun a hf=>?_
 rw [spec_l2Fiber] at hF
 refine bx hf H fun b' a w hf H=>?_
 refine pz 1 hf fun a hf=>?_
 refine wl_end (then_n (sq ?_))
 obtain ⟨c,hGc,hF⟩:=bs_ hF
 have fh:=hf.prune [] rfl
 have Hm:=H.lk 0 0 0 []
 refine midF 4 (.bool c) fh Hm ?_ fun a w hf H=>?_
 ·refine reg (pz 1 hf fun a hf=>?_)
  refine lB 0 hf H TF.ls3 fun a hf=>?_
  refine pz 2 hf fun a hf=>?_
  obtain ⟨y,hy,hGc⟩:=bs_ hGc
  refine oc hf TF.cl153 (spec_l1In_ok (S:=TT) mk_int mk_int mk_int hy) fun v w a hp hf=>?_
  obtain ⟨hb,hp⟩:=hp
  obtain rfl:=VR_bool hp
  have H:=H.keep hb
  refine pz 1 hf fun a hf=>?_
  refine iteB hGc (fun hc hGc=>?_) fun hc hGc=>?_
  ·have hf:=hf.lit 10 rfl hc
   refine pz 1 hf fun a hf=>?_
   refine wlg hf rfl rfl rfl (op_q hf (rq_loadB hf H TF.ls3 0 rfl rfl rfl) rfl (by decide) fun a hf=>?_)
   refine pz 1 hf fun a hf=>?_
   refine wlg hf rfl rfl rfl (op_q hf (rq_loadB hf H TF.ls3 0 rfl rfl rfl) rfl (by decide) fun a hf=>?_)
   refine pz 3 hf fun a hf=>?_
   obtain ⟨y2,hy2,hGc⟩:=bs_ hGc
   refine wlg hf rfl rfl rfl (oC hf TF.cl153 (spec_l1In_ok (S:=TT) mk_int mk_int mk_int hy2) fun v2 w a hp2 hf=>?_)
   obtain ⟨hb2,hp2⟩:=hp2
   obtain rfl:=VR_bool hp2
   have H:=H.keep hb2
   refine pz 2 hf fun a hf=>?_
   refine iteB hGc (fun hc2 hGc=>?_) fun hc2 hGc=>?_
   ·have hf:=hf.lit 20 rfl hc2
    refine pz 1 hf fun a hf=>?_
    refine wlg hf rfl rfl rfl (op_q hf (rq_loadB hf H TF.ls3 0 rfl rfl rfl) rfl (by decide) fun a hf=>?_)
    obtain ⟨y3,hy3,hGc⟩:=bs_ hGc
    refine wlg hf rfl rfl rfl (oC hf TF.cl153 (spec_l1In_ok (S:=TT) mk_int mk_int mk_int hy3) fun v3 w a hp3 hf=>?_)
    obtain ⟨hb3,hp3⟩:=hp3
    obtain rfl:=VR_bool hp3
    have H:=H.keep hb3
    refine pz 2 hf fun a hf=>?_
    refine iteB hGc (fun hc3 hGc=>?_) fun hc3 hGc=>?_
    ·have hf:=hf.lit 25 rfl hc3
     refine pz 1 hf fun a hf=>?_
     refine wlg hf rfl rfl rfl (op_q hf (rq_loadB hf H TF.ls3 0 rfl rfl rfl) rfl (by decide) fun a hf=>?_)
     obtain ⟨y4,hy4,hGc⟩:=bs_ hGc
     refine wlg hf rfl rfl rfl (oC hf TF.cl153 (spec_l1In_ok (S:=TT) mk_int mk_int mk_int hy4) fun v4 w a hp4 hf=>?_)
     obtain ⟨hb4,hp4⟩:=hp4
     obtain rfl:=VR_bool hp4
     have H:=H.keep hb4
     refine pz 2 hf fun a hf=>?_
     obtain rfl:=oi hGc
     have hf:=hf.pn [4]
     have H:=H.lk 0 0 0 []
     exact wl_end ⟨hf,H⟩
    have hf:=hf.lit 25 rfl hc3
    refine pz 5 hf fun a hf=>?_
    obtain rfl:=oi hGc
    have hf:=hf.pn [4]
    have H:=H.lk 0 0 0 []
    exact wl_end ⟨hf,H⟩
   have hf:=hf.lit 20 rfl hc2
   refine pz 10 hf fun a hf=>?_
   obtain rfl:=oi hGc
   have hf:=hf.pn [4]
   have H:=H.lk 0 0 0 []
   exact wl_end ⟨hf,H⟩
  have hf:=hf.lit 10 rfl hc
  refine pz 20 hf fun a hf=>?_
  obtain rfl:=oi hGc
  have hf:=hf.pn [4]
  have H:=H.lk 0 0 0 []
  exact wl_end ⟨hf,H⟩
 refine then_n (wp_ret (?_))
 obtain rfl:=oi hF
 refine rT hf ?_
 exact ⟨_,rfl,H.bel,mk_bool⟩
end AT
