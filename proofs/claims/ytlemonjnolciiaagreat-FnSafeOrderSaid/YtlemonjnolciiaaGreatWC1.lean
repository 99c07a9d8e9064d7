/- The Go functions do what is told of them, by program (gen.py). -/
import Derived.Test.YtlemonjnolciiaaGreatWC0
set_option linter.unusedVariables false
set_option linter.unusedSimpArgs false
set_option maxRecDepth 100000
set_option maxHeartbeats 1000000
namespace AT
open Go Go.RowKit Go.Proofs
variable {fu:Nat} {w0:World}
theorem gai {S:Nat→Prop} {b0:Nat} {cs0:List Value} {c:L1CurP} {r:Plan×L1CurP} (hp0:w0.heap[b0]?=some (.cells cs0.toArray 109 (0,0))) (hr0:GoTy.rep w0 S cs0 c) (hS0:¬S b0) (hF:yo fu c=some r) :
    Calls Tryz.prog 141 [(.pointer (some ⟨b0,0,none⟩))].toArray w0 fun e w'=>∃ v,e=.returned v∧(∃ cs',GoTy.rep w' (fun _=>True) cs' r.2∧(cs'[0]?=cs0[0]?∧r.2.code=c.code)∧(∃ (A0_0:Option Addr) (c0_0:Nat) (F0_0:List Nat) (A0_1:Option Addr) (c0_1:Nat) (F0_1:List Nat) (A0_2:Option Addr) (c0_2:Nat) (E0_2:Go.TypeId),v=(.agg #[(.slice A0_0 r.1.Network.Nodes.length c0_0),(.slice A0_1 r.1.Network.Fibers.length c0_1),(.slice A0_2 r.1.Lights.length c0_2)])∧Mem ⟨w0,[b0]⟩ S [⟨b0,109,cs'⟩] [⟨.sh true,E0_2,A0_2,c0_2,(r.1.Lights:List Light)⟩] [⟨F0_0,MP.own F0_0 [(.slice A0_0 r.1.Network.Nodes.length c0_0)] (r.1.Network.Nodes:List ByteArray)⟩,⟨F0_1,MP.own F0_1 [(.slice A0_1 r.1.Network.Fibers.length c0_1)] (r.1.Network.Fibers:List Fiber)⟩] [] w')):=by
 obtain ⟨A,c2,rfl,hl⟩:=uc hr0
 have H:=Mem.startB S hp0
 have H:=H.pB hS0 hl
 refine en Tryz.func141 fun a hf=>?_
 rw [yo] at hF
 refine sq (reg (aL hf H TF.zv30 fun b2 a w hf H=>?_))
 refine wr (pz 1 hf fun a hf=>?_)
 obtain ⟨y,hy,hF⟩:=bs_ hF
 refine oc hf TF.gln (ga0 (S:=NB b0) (H.boxAt 1 rfl) ((ud (x:=c) (H.nb 1 rfl (H.get 0 rfl)))) (fun h=>h rfl) hy) fun v w a hp2 hf=>?_
 obtain ⟨hch,cs2,hbx,hr2,⟨hx,hx2⟩,hs⟩:=hp2
 obtain ⟨F,hp3,hN⟩:=hs
 obtain ⟨A2,c3,F2,A3,c4,F3,rfl,rfl,hl2,hl3⟩:=gaf hp3
 obtain ⟨A4,c5,rfl,hl4⟩:=uc hr2
 obtain ⟨rfl,rfl⟩:=un hx rfl rfl
 have H:=H.bO2 1 rfl hch hbx hN hl2 hl3
 have H:=H.pX 0 rfl hx2
 have H:=H.lend 0 rfl
 have H:=H.lend 1 rfl
 refine oq hf (uA hf (cs:=[(.slice A2 y.1.Nodes.length c3),(.slice A3 y.1.Fibers.length c4),(.slice none 0 0)]) rfl (fun w=>by kernel_rfl)) fun a hf=>?_
 refine aL hf H TF.zv30 fun b3 a w hf H=>?_
 refine sB 0 hf H TF.sz30 fun w H=>?_
 refine we (sqz (pz 1 hf fun a hf=>?_))
 obtain ⟨y2,hy2,hF⟩:=bs_ hF
 refine oc hf TF.yJ (ui (S:=NB b0) (H.boxAt 2 rfl) ((ud (x:=y.2) (H.nb 2 rfl (H.get 2 rfl)))) (fun h=>h rfl) ug hy2) fun v2 w a hp4 hf=>?_
 obtain ⟨hch2,cs3,hbx2,hr3,⟨hx3,hx4⟩,hs2⟩:=hp4
 obtain rfl:=uv hs2
 obtain ⟨A5,c6,rfl,hl5⟩:=uc hr3
 obtain ⟨rfl,rfl⟩:=un hx3 rfl rfl
 have hx5:=hx4.trans hx2
 have H:=H.wroteBox 2 rfl hch2 hbx2
 have H:=H.pX 2 rfl hx4
 refine pz 1 hf fun a hf=>?_
 refine ub (ua ?_)
 have H:=H.nilRow (Light) (.ow []) rfl rfl 49
 have H:=H.rowSh 0 rfl
 obtain ⟨out',hB1,hF⟩:=bs_ hF
 have hf:=hf.pn [0,2,3,4]
 have H:=H.frontD 1 rfl
 have H:=H.lm 7 1 3 3 7
 refine vU (fun (s:Int×List ByteArray×List Fiber×List Light×List By×Int×U64) (a:Act) (w:World)=>match s with | (n',m,m2,m3,m4,m5,m6)=>∃ (A6:Option Addr) (c7:Nat) (F4:List Nat) (A7:Option Addr) (c8:Nat) (F5:List Nat) (A8:Option Addr) (c9:Nat) (E:Go.TypeId),m4=c.code∧Fr a 61 [(0,(.pointer (some ⟨b0,0,none⟩))),(2,(.pointer (some ⟨b2,0,none⟩))),(3,(.pointer (some ⟨b3,0,none⟩))),(4,(.int .i64 n'))]∧Mem ⟨w0,[b0]⟩ S [⟨b3,30,[(.slice A6 m.length c7),(.slice A7 m2.length c8),(.slice A8 m3.length c9)]⟩,⟨b2,30,[(.slice none 0 0),(.slice none 0 0),(.slice none 0 0)]⟩,⟨b0,109,[(.slice A m4.length c2),(.int .i64 m5),(.int .u64 m6.n)]⟩] [⟨.sh true,E,A8,c9,(m3:List Light)⟩] [⟨F5,MP.own F5 [(.slice A7 m2.length c8)] (m2:List Fiber)⟩,⟨F4,MP.own F4 [(.slice A6 m.length c7)] (m:List ByteArray)⟩] [(false,MP.val [(.slice A m4.length c2)] (m4:List By)),(true,MP.val [(.slice A7 m2.length c8)] (m2:List Fiber)),(true,MP.val [(.slice A6 m.length c7)] (m:List ByteArray))] w) (fun k (s:Int×List ByteArray×List Fiber×List Light×List By×Int×U64)=>vy fu k s.1 s.2.1 s.2.2.1 s.2.2.2.1 s.2.2.2.2.1 s.2.2.2.2.2.1 s.2.2.2.2.2.2=some out') (fun s=>out'=s) (y2.1,y.1.Nodes,y.1.Fibers,([]:List Light),y2.2.code,y2.2.at_,y2.2.seed) fu hB1 ⟨A2,c3,F2,A3,c4,F3,none,0,49,hx5,hf,H⟩ (fun s h=>by cases h) ?_ ?_
 rintro fk ⟨n',m,m2,m3,m4,m5,m6⟩ a w hR1 hI
 replace hR1:vy fu (fk + 1) n' m m2 m3 m4 m5 m6=some out':=hR1
 rw [vy] at hR1
 obtain ⟨A6,c7,F4,A7,c8,F5,A8,c9,E,hsm,hf,H⟩:=hI
 refine sq (sqz (pz 2 hf fun a hf=>?_))
 refine ub (ua (ib hR1 hf (fun hc hR1=>?_) fun hc hR1=>?_))
 refine ws (pz 2 hf fun a hf=>?_)
 refine lN 0 hf H TF.la27 fun a hf=>?_
 obtain ⟨y3,hy3,hR1⟩:=bs_ hR1
 refine oc hf TF.glm (gaZ (S:=NB b0) (H.boxAt 2 rfl) ((ud (x:=({ code:=m4,at_:=m5,seed:=m6 }:L1CurP)) (H.nb 2 rfl (H.get 0 rfl)))) (fun h=>h rfl) (uY (x:=({ Nodes:=m,Fibers:=m2 }:Network)) (H.nb 2 rfl (H.get 2 rfl)) (H.nb 2 rfl (H.get 1 rfl))) hy3) fun v3 w a hp5 hf=>?_
 obtain ⟨hch3,cs4,hbx3,hr4,⟨hx6,hx7⟩,hs3⟩:=hp5
 obtain ⟨F6,hp6,hN2⟩:=hs3
 obtain ⟨A9,c10,F7,rfl,rfl,hl6⟩:=yT hp6
 obtain ⟨A10,c11,rfl,hl7⟩:=uc hr4
 obtain ⟨rfl,rfl⟩:=un hx6 rfl rfl
 have hx8:=hx7.trans hsm
 have H:=H.bO1 2 rfl hch3 hbx3 hN2 hl6
 have H:=H.pX 0 rfl hx7
 have H:=H.lend 0 rfl
 refine aL hf H TF.zv45 fun b4 a w hf H=>?_
 refine sB 0 hf H TF.sz45 fun w H=>?_
 refine wr (pz 1 hf fun a hf=>?_)
 obtain ⟨y4,hy4,hR1⟩:=bs_ hR1
 refine oc hf TF.yJ (ui (S:=NB b0) (H.boxAt 3 rfl) ((ud (x:=y3.2) (H.nb 3 rfl (H.get 1 rfl)))) (fun h=>h rfl) ug hy4) fun v4 w a hp7 hf=>?_
 obtain ⟨hch4,cs5,hbx4,hr5,⟨hx9,hx10⟩,hs4⟩:=hp7
 obtain rfl:=uv hs4
 obtain ⟨A11,c12,rfl,hl8⟩:=uc hr5
 obtain ⟨rfl,rfl⟩:=un hx9 rfl rfl
 have hx11:=hx10.trans hx8
 have H:=H.wroteBox 3 rfl hch4 hbx4
 have H:=H.pX 1 rfl hx10
 refine pz 2 hf fun a hf=>?_
 refine wr (lN 1 hf H TF.la30 fun a hf=>?_)
 refine lN 0 hf H TF.la45 fun a hf=>?_
 obtain ⟨y5,hy5,hR1⟩:=bs_ hR1
 refine oc hf TF.gme (gef (S:=TT) (uj (x:=({ Network:=({ Nodes:=m,Fibers:=m2 }:Network),Lights:=m3 }:Plan)) (H.rt 5 rfl) (H.rt 4 rfl) (H.rowTrue 0 rfl)) (xk (x:=y3.1) (H.rt 1 rfl)) hy5) fun v5 w a hp8 hf=>?_
 obtain ⟨hb,hp8⟩:=hp8
 obtain rfl:=uv hp8
 have H:=H.keep hb
 refine pz 1 hf fun a hf=>?_
 obtain ⟨y6,hy6,hR1⟩:=bs_ hR1
 refine oc hf TF.gl2 (geH (S:=TT) ug ug hy6) fun v6 w a hp9 hf=>?_
 obtain ⟨hb2,F8,hp10,hN3⟩:=hp9
 obtain ⟨A12,c13,rfl,hl9⟩:=xP hp10
 have H:=H.aO1 hb2 hN3 hl9
 have H:=H.lend 0 rfl
 refine pz 1 hf fun a hf=>?_
 have hf:=hf.pn [0,2,3,4,5,6,7]
 refine wr (pz 3 hf fun a hf=>?_)
 refine ub (ua (ib hR1 hf (fun hc2 hR1=>?_) fun hc2 hR1=>?_))
 refine sqz (pz 1 hf fun a hf=>?_)
 obtain ⟨e,he,hR1⟩:=bs_ hR1
 refine wl0 rfl (vn hf H Tryz.underlying35 TF.sz3 0 rfl rfl rfl he (by decide) fun p o2 cs6 a hf hr6 H=>?_)
 obtain rfl:=hr6
 refine oq hf (uI hf H TF.ls3 0 0 rfl rfl rfl) fun a hf=>?_
 refine pz 1 hf fun a hf=>?_
 refine we (sqz (pz 1 hf fun a hf=>?_))
 obtain ⟨y7,hy7,hR1⟩:=bs_ hR1
 refine oc hf TF.cl84 (vQ (S:=NB b0) (H.boxAt 3 rfl) ((ud (x:=y4.2) (H.nb 3 rfl (H.get 2 rfl)))) (fun h=>h rfl) ug hy7) fun v7 w a hp11 hf=>?_
 obtain ⟨hch5,cs7,hbx5,hr7,⟨hx12,hx13⟩,hs5⟩:=hp11
 obtain rfl:=uo hs5
 obtain ⟨A13,c14,rfl,hl10⟩:=uc hr7
 obtain ⟨rfl,rfl⟩:=un hx12 rfl rfl
 have hx14:=hx13.trans hx11
 have H:=H.wroteBox 3 rfl hch5 hbx5
 have H:=H.pX 2 rfl hx13
 refine ub (ua (ib hR1 hf (fun hc3 hR1=>?_) fun hc3 hR1=>?_))
 refine reg (pz 4 hf fun a hf=>?_)
 obtain ⟨y8,hy8,hR1⟩:=bs_ hR1
 refine oc hf TF.yJ (ui (S:=NB b0) (H.boxAt 3 rfl) ((ud (x:=y7.2) (H.nb 3 rfl (H.get 0 rfl)))) (fun h=>h rfl) ug hy8) fun v8 w a hp12 hf=>?_
 obtain ⟨hch6,cs8,hbx6,hr8,⟨hx15,hx16⟩,hs6⟩:=hp12
 obtain rfl:=uv hs6
 obtain ⟨A14,c15,rfl,hl11⟩:=uc hr8
 obtain ⟨rfl,rfl⟩:=un hx15 rfl rfl
 have hx17:=hx16.trans hx14
 have H:=H.wroteBox 3 rfl hch6 hbx6
 have H:=H.pX 0 rfl hx16
 obtain ⟨e2,he2,hR1⟩:=bs_ hR1
 refine wl0 rfl (vn hf H Tryz.underlying35 TF.sz3 3 rfl rfl rfl he2 (by decide) fun p2 o3 cs9 a hf hr9 H=>?_)
 obtain rfl:=hr9
 refine oq hf (uI hf H TF.ls3 0 0 rfl rfl rfl) fun a hf=>?_
 refine pz 1 hf fun a hf=>?_
 have hf:=hf.pn [0,2,3,4,5,6,8]
 refine ub (ua (dw [15] 16 fun w hb=>?_))
 have H:=H.keep hb
 refine strT (H.lk 2 0 0 []) (fun w H=>trivial) fun hS=>?_
 refine zS 0 [0,14,15] rfl rfl rfl rfl hf hS (fun w H=>ul hf H TF.la30 0 rfl rfl rfl rfl) fun a hf=>?_
 refine zp 1 hf hS fun a hf=>?_
 refine zS 2 [2,3,4,5,8,13,14,15] rfl rfl rfl rfl hf hS (fun w H=>ue hf H TF.ls28 0 rfl rfl rfl) fun a hf=>?_
 refine zp 3 hf hS fun a hf=>?_
 refine zp 4 hf hS fun a hf=>?_
 refine zp 5 hf hS fun a hf=>?_
 refine zp 6 hf hS fun a hf=>?_
 refine strT (H.lk 3 0 0 []) (fun w H=>H.lk 2 0 0 []) fun hS=>?_
 refine zS 9 [9,13,14,15] rfl rfl rfl rfl hf hS (fun w H=>ul hf H TF.la45 0 rfl rfl rfl rfl) fun a hf=>?_
 refine zp 10 hf hS fun a hf=>?_
 refine zp 11 hf hS fun a hf=>?_
 refine zP 12 rfl rfl rfl rfl hf hS (fun w=>uA hf (cs:=[(.int .i64 e2),(.int .i64 (w64 (1 + y4.1)))]) rfl (fun w=>by kernel_rfl)) fun a hf=>?_
 obtain ⟨y9,hy9,hR1⟩:=bs_ hR1
 refine nn 7 rfl (oC hf TF.yJ (ui (S:=NB b0) (H.boxAt 3 rfl) ((ud (x:=y8.2) (H.nb 3 rfl (H.get 1 rfl)))) (fun h=>h rfl) ug hy9) fun v9 w a hp13 hf=>?_)
 obtain ⟨hch7,cs10,hbx7,hr10,⟨hx18,hx19⟩,hs7⟩:=hp13
 obtain rfl:=uv hs7
 obtain ⟨A15,c16,rfl,hl12⟩:=uc hr10
 obtain ⟨rfl,rfl⟩:=un hx18 rfl rfl
 have hx20:=hx19.trans hx17
 have H:=H.wroteBox 3 rfl hch7 hbx7
 have H:=H.pX 1 rfl hx19
 have hS:=H.lk 3 0 0 []
 refine aS hS ?_
 refine zp 8 hf hS fun a hf=>?_
 refine zP 13 rfl rfl rfl rfl hf hS (fun w=>uA hf (cs:=[(.int .i64 (w64 ((w64 ((w64 ((m3.length:Int) * 3)) + 1)) + y9.1))),(.int .i64 y3.1.Start),(.slice A9 y3.1.Fibers.length c10),(.int .i64 e2),(.int .i64 (w64 (1 + y4.1)))]) rfl (fun w=>by kernel_rfl)) fun a hf=>?_
 obtain ⟨y10,hy10,hR1⟩:=bs_ hR1
 refine nn 14 rfl (oC hf TF.ggC (zd (S:=TT) (uj (x:=({ Network:=({ Nodes:=m,Fibers:=m2 }:Network),Lights:=m3 }:Plan)) (H.rt 11 rfl) (H.rt 10 rfl) (H.rowTrue 0 rfl)) (uT (x:=({ Id:=w64 ((w64 ((w64 ((m3.length:Int) * 3)) + 1)) + y9.1),Route:=y3.1,Block:=({ First:=e2,Count:=w64 (1 + y4.1) }:Block) }:Light)) (H.rt 7 rfl)) hy10) fun v10 w a hp14 hf=>?_)
 obtain ⟨A16,c17,F10,A17,c18,F11,A18,c19,E2,rfl,Hc⟩:=hp14
 have H:=H.comp Hc (.inl rfl)
 have H:=H.lend 0 rfl
 have H:=H.lend 1 rfl
 have hS:=H.lk 3 0 0 []
 refine aS hS ?_
 refine nn 15 rfl (uh hf H 1 TF.sz30 rfl rfl rfl rfl rfl rfl (nle rfl) fun w H=>?_)
 refine ⟨fun h=>absurd h (by decide),?_⟩
 refine dk ?_
 have hf:=hf.pn [0,2,3,4]
 refine uV (ua (reg (pz 3 hf fun a hf=>?_)))
 refine ub ?_
 have H:=H.lm 15 1 63 14 16383
 have hf:=hf.pn [0,2,3,4]
 have H:=H.frontD 1 rfl
 have H:=H.lk 14 1 3 [2,0,1]
 exact ua ⟨(w64 (n' - 1),y10.Network.Nodes,y10.Network.Fibers,y10.Lights,y9.2.code,y9.2.at_,y9.2.seed),hR1,A16,c17,F10,A17,c18,F11,A18,c19,E2,hx20,hf,H⟩
 refine wp_skip (ua (dw [15] 16 fun w hb=>?_))
 have H:=H.keep hb
 refine strT (H.lk 2 0 0 []) (fun w H=>trivial) fun hS=>?_
 refine zS 0 [0,14,15] rfl rfl rfl rfl hf hS (fun w H=>ul hf H TF.la30 0 rfl rfl rfl rfl) fun a hf=>?_
 refine zp 1 hf hS fun a hf=>?_
 refine zS 2 [2,3,4,5,8,13,14,15] rfl rfl rfl rfl hf hS (fun w H=>ue hf H TF.ls28 0 rfl rfl rfl) fun a hf=>?_
 refine zp 3 hf hS fun a hf=>?_
 refine zp 4 hf hS fun a hf=>?_
 refine zp 5 hf hS fun a hf=>?_
 refine zp 6 hf hS fun a hf=>?_
 refine strT (H.lk 3 0 0 []) (fun w H=>H.lk 2 0 0 []) fun hS=>?_
 refine zS 9 [9,13,14,15] rfl rfl rfl rfl hf hS (fun w H=>ul hf H TF.la45 0 rfl rfl rfl rfl) fun a hf=>?_
 refine zp 10 hf hS fun a hf=>?_
 refine zp 11 hf hS fun a hf=>?_
 refine zP 12 rfl rfl rfl rfl hf hS (fun w=>uA hf (cs:=[(.int .i64 e),(.int .i64 (w64 (1 + y4.1)))]) rfl (fun w=>by kernel_rfl)) fun a hf=>?_
 obtain ⟨y11,hy11,hR1⟩:=bs_ hR1
 refine nn 7 rfl (oC hf TF.yJ (ui (S:=NB b0) (H.boxAt 3 rfl) ((ud (x:=y7.2) (H.nb 3 rfl (H.get 0 rfl)))) (fun h=>h rfl) ug hy11) fun v11 w a hp15 hf=>?_)
 obtain ⟨hch8,cs11,hbx8,hr11,⟨hx21,hx22⟩,hs8⟩:=hp15
 obtain rfl:=uv hs8
 obtain ⟨A19,c20,rfl,hl13⟩:=uc hr11
 obtain ⟨rfl,rfl⟩:=un hx21 rfl rfl
 have hx23:=hx22.trans hx14
 have H:=H.wroteBox 3 rfl hch8 hbx8
 have H:=H.pX 0 rfl hx22
 have hS:=H.lk 3 0 0 []
 refine aS hS ?_
 refine zp 8 hf hS fun a hf=>?_
 refine zP 13 rfl rfl rfl rfl hf hS (fun w=>uA hf (cs:=[(.int .i64 (w64 ((w64 ((w64 ((m3.length:Int) * 3)) + 1)) + y11.1))),(.int .i64 y3.1.Start),(.slice A9 y3.1.Fibers.length c10),(.int .i64 e),(.int .i64 (w64 (1 + y4.1)))]) rfl (fun w=>by kernel_rfl)) fun a hf=>?_
 obtain ⟨y12,hy12,hR1⟩:=bs_ hR1
 refine nn 14 rfl (oC hf TF.ggC (zd (S:=TT) (uj (x:=({ Network:=({ Nodes:=m,Fibers:=m2 }:Network),Lights:=m3 }:Plan)) (H.rt 9 rfl) (H.rt 8 rfl) (H.rowTrue 0 rfl)) (uT (x:=({ Id:=w64 ((w64 ((w64 ((m3.length:Int) * 3)) + 1)) + y11.1),Route:=y3.1,Block:=({ First:=e,Count:=w64 (1 + y4.1) }:Block) }:Light)) (H.rt 5 rfl)) hy12) fun v12 w a hp16 hf=>?_)
 obtain ⟨A20,c21,F12,A21,c22,F13,A22,c23,E3,rfl,Hc2⟩:=hp16
 have H:=H.comp Hc2 (.inl rfl)
 have H:=H.lend 0 rfl
 have H:=H.lend 1 rfl
 have hS:=H.lk 3 0 0 []
 refine aS hS ?_
 refine nn 15 rfl (uh hf H 1 TF.sz30 rfl rfl rfl rfl rfl rfl (nle rfl) fun w H=>?_)
 refine ⟨fun h=>absurd h (by decide),?_⟩
 refine dk ?_
 have hf:=hf.pn [0,2,3,4]
 refine uV (ua (reg (pz 3 hf fun a hf=>?_)))
 refine ub ?_
 have H:=H.lm 15 1 63 12 4095
 have hf:=hf.pn [0,2,3,4]
 have H:=H.frontD 1 rfl
 have H:=H.lk 14 1 3 [2,0,1]
 exact ua ⟨(w64 (n' - 1),y12.Network.Nodes,y12.Network.Fibers,y12.Lights,y11.2.code,y11.2.at_,y11.2.seed),hR1,A20,c21,F12,A21,c22,F13,A22,c23,E3,hx23,hf,H⟩
 refine wp_skip (uV (ua (reg (pz 3 hf fun a hf=>?_))))
 refine ub ?_
 have hf:=hf.pn [0,2,3,4]
 have H:=H.lm 14 1 12 7 98
 exact ua ⟨(w64 (n' - 1),m,m2,m3,y4.2.code,y4.2.at_,y4.2.seed),hR1,A6,c7,F4,A7,c8,F5,A8,c9,E,hx11,hf,H⟩
 refine wp_exit (uy (uy (vJ (?_))))
 have hf:=hf.pn [0,2,3,4]
 have H:=H.lm 7 1 3 3 7
 exact ⟨(n',m,m2,m3,m4,m5,m6),(Option.some.inj hR1).symm,A6,c7,F4,A7,c8,F5,A8,c9,E,hsm,hf,H⟩
 rintro a w ⟨⟨n2,m7,m8,m9,m10,m11,m12⟩,rfl,A23,c24,F14,A24,c25,F15,A25,c26,E4,hsm,hf,H⟩
 try dsimp only at hsm
 try dsimp only at hF
 refine ua (sq (reg (lN 0 hf H TF.la30 fun a hf=>?_)))
 refine sB 1 hf H TF.sz30 fun w H=>?_
 refine wer ?_
 have hcell:GoTy.rep w (fun _=>True) [(.slice A m10.length c2),(.int .i64 m11),(.int .u64 m12.n)] (({ code:=m10,at_:=m11,seed:=m12 }:L1CurP):L1CurP):=(ud (x:=({ code:=m10,at_:=m11,seed:=m12 }:L1CurP)) (H.rt 0 rfl))
 have H:=H.frontD 1 rfl
 obtain rfl:=oi hF
 refine xi hf rfl (um hf H 1 TF.la30 rfl rfl rfl) ?_
 have H:=H.lk 4 1 3 []
 exact ⟨_,rfl,_,hcell,⟨fxc hsm,hsm⟩,A23,c24,F14,A24,c25,F15,A25,c26,E4,rfl,H⟩
theorem xe {S:Nat→Prop} {b0:Nat} {cs0:List Value} {c:L1CurP} {r:Block×L1CurP} (hp0:w0.heap[b0]?=some (.cells cs0.toArray 109 (0,0))) (hr0:GoTy.rep w0 S cs0 c) (hS0:¬S b0) (hF:xK fu c=some r) :
    Calls Tryz.prog 143 [(.pointer (some ⟨b0,0,none⟩))].toArray w0 fun e w'=>∃ v,e=.returned v∧(Chg w0 w' [b0]∧∃ cs',w'.heap[b0]?=some (.cells cs'.toArray 109 (0,0))∧GoTy.rep w' (St ⟨w0,[b0]⟩ S [⟨b0,109,cs'⟩] [] [] false) cs' r.2∧(cs'[0]?=cs0[0]?∧r.2.code=c.code)∧VR w' (St ⟨w0,[b0]⟩ S [⟨b0,109,cs'⟩] [] [] true) v r.1):=by
 obtain ⟨A,c2,rfl,hl⟩:=uc hr0
 have H:=Mem.startB S hp0
 have H:=H.pB hS0 hl
 refine en Tryz.func143 fun a hf=>?_
 rw [xK] at hF
 refine sq (reg (aL hf H TF.zv47 fun b2 a w hf H=>?_))
 refine we (sqz (pz 1 hf fun a hf=>?_))
 obtain ⟨y,hy,hF⟩:=bs_ hF
 refine oc hf TF.cl84 (vQ (S:=NB b0) (H.boxAt 1 rfl) ((ud (x:=c) (H.nb 1 rfl (H.get 0 rfl)))) (fun h=>h rfl) ug hy) fun v w a hp2 hf=>?_
 obtain ⟨hch,cs2,hbx,hr2,⟨hx,hx2⟩,hs⟩:=hp2
 obtain rfl:=uo hs
 obtain ⟨A2,c3,rfl,hl2⟩:=uc hr2
 obtain ⟨rfl,rfl⟩:=un hx rfl rfl
 have H:=H.wroteBox 1 rfl hch hbx
 have H:=H.pX 0 rfl hx2
 refine ub (ua (ib hF hf (fun hc hF=>?_) fun hc hF=>?_))
 refine sqz (pz 1 hf fun a hf=>?_)
 obtain ⟨y2,hy2,hF⟩:=bs_ hF
 refine oc hf TF.yJ (ui (S:=NB b0) (H.boxAt 1 rfl) ((ud (x:=y.2) (H.nb 1 rfl (H.get 0 rfl)))) (fun h=>h rfl) ug hy2) fun v2 w a hp3 hf=>?_
 obtain ⟨hch2,cs3,hbx2,hr3,⟨hx3,hx4⟩,hs2⟩:=hp3
 obtain rfl:=uv hs2
 obtain ⟨A3,c4,rfl,hl3⟩:=uc hr3
 obtain ⟨rfl,rfl⟩:=un hx3 rfl rfl
 have hx5:=hx4.trans hx2
 have H:=H.wroteBox 1 rfl hch2 hbx2
 have H:=H.pX 0 rfl hx4
 refine pz 2 hf fun a hf=>?_
 obtain ⟨y3,hy3,hF⟩:=bs_ hF
 refine oc hf TF.yJ (ui (S:=NB b0) (H.boxAt 1 rfl) ((ud (x:=y2.2) (H.nb 1 rfl (H.get 0 rfl)))) (fun h=>h rfl) ug hy3) fun v3 w a hp4 hf=>?_
 obtain ⟨hch3,cs4,hbx3,hr4,⟨hx6,hx7⟩,hs3⟩:=hp4
 obtain rfl:=uv hs3
 obtain ⟨A4,c5,rfl,hl4⟩:=uc hr4
 obtain ⟨rfl,rfl⟩:=un hx6 rfl rfl
 have hx8:=hx7.trans hx5
 have H:=H.wroteBox 1 rfl hch3 hbx3
 have H:=H.pX 0 rfl hx7
 refine pz 1 hf fun a hf=>?_
 refine oq hf (uA hf (cs:=[(.int .i64 (w64 (y2.1 - 1))),(.int .i64 (w64 (y3.1 - 1)))]) rfl (fun w=>by kernel_rfl)) fun a hf=>?_
 refine sB 0 hf H TF.sz47 fun w H=>?_
 refine ub (ua (wp_ret (uf (?_))))
 obtain rfl:=oi hF
 refine xi hf rfl (um hf H 0 TF.la47 rfl rfl rfl) ?_
 exact ⟨_,rfl,H.chg,_,H.boxAt 1 rfl,(ud (x:=y3.2) (eB 1 (H.get 0 rfl))),⟨fxc hx8,hx8⟩,zb⟩
 refine wp_skip (ua (sqz (pz 1 hf fun a hf=>?_)))
 obtain ⟨y4,hy4,hF⟩:=bs_ hF
 refine oc hf TF.yJ (ui (S:=NB b0) (H.boxAt 1 rfl) ((ud (x:=y.2) (H.nb 1 rfl (H.get 0 rfl)))) (fun h=>h rfl) ug hy4) fun v4 w a hp5 hf=>?_
 obtain ⟨hch4,cs5,hbx4,hr5,⟨hx9,hx10⟩,hs4⟩:=hp5
 obtain rfl:=uv hs4
 obtain ⟨A5,c6,rfl,hl5⟩:=uc hr5
 obtain ⟨rfl,rfl⟩:=un hx9 rfl rfl
 have hx11:=hx10.trans hx2
 have H:=H.wroteBox 1 rfl hch4 hbx4
 have H:=H.pX 0 rfl hx10
 refine pz 2 hf fun a hf=>?_
 refine wr (pz 4 hf fun a hf=>?_)
 obtain ⟨y5,hy5,hF⟩:=bs_ hF
 refine oc hf TF.yJ (ui (S:=NB b0) (H.boxAt 1 rfl) ((ud (x:=y4.2) (H.nb 1 rfl (H.get 0 rfl)))) (fun h=>h rfl) ug hy5) fun v5 w a hp6 hf=>?_
 obtain ⟨hch5,cs6,hbx5,hr6,⟨hx12,hx13⟩,hs5⟩:=hp6
 obtain rfl:=uv hs5
 obtain ⟨A6,c7,rfl,hl6⟩:=uc hr6
 obtain ⟨rfl,rfl⟩:=un hx12 rfl rfl
 have hx14:=hx13.trans hx11
 have H:=H.wroteBox 1 rfl hch5 hbx5
 have H:=H.pX 0 rfl hx13
 refine pz 1 hf fun a hf=>?_
 refine oq hf (uA hf (cs:=[(.int .i64 y5.1),(.int .i64 (w64 (1 + y4.1)))]) rfl (fun w=>by kernel_rfl)) fun a hf=>?_
 refine sB 0 hf H TF.sz47 fun w H=>?_
 have hf:=hf.pn [2]
 refine wer ?_
 obtain rfl:=oi hF
 refine xi hf rfl (um hf H 0 TF.la47 rfl rfl rfl) ?_
 exact ⟨_,rfl,H.chg,_,H.boxAt 1 rfl,(ud (x:=y5.2) (eB 1 (H.get 0 rfl))),⟨fxc hx14,hx14⟩,zb⟩
theorem vX {S:Nat→Prop} {b0:Nat} {cs0:List Value} {v1_:Value} {c:L1CurP} {n':Network} {r:Route×L1CurP} (hp0:w0.heap[b0]?=some (.cells cs0.toArray 109 (0,0))) (hr0:GoTy.rep w0 S cs0 c) (hS0:¬S b0) (h1:VR w0 S v1_ n') (hF:xf fu c n'=some r) :
    Calls Tryz.prog 144 [(.pointer (some ⟨b0,0,none⟩)),v1_].toArray w0 fun e w'=>∃ v,e=.returned v∧(Chg w0 w' [b0]∧∃ cs',w'.heap[b0]?=some (.cells cs'.toArray 109 (0,0))∧GoTy.rep w' (St ⟨w0,[b0]⟩ S [⟨b0,109,cs'⟩] [] [] false) cs' r.2∧(cs'[0]?=cs0[0]?∧r.2.code=c.code)∧∃ F0,VO w' F0 v r.1∧New w0 w' F0):=by
 obtain ⟨A,c2,rfl,hl⟩:=uc hr0
 obtain ⟨A2,c3,A3,c4,rfl,hl2,hl3⟩:=vA h1
 have H:=Mem.startB S hp0
 have H:=H.pB hS0 hl
 have H:=H.pB hS0 hl2
 have H:=H.pB hS0 hl3
 refine en Tryz.func144 fun a hf=>?_
 rw [xf] at hF
 refine bx hf H fun b3 a w hf H=>?_
 refine aL hf H TF.zv45 fun b4 a w hf H=>?_
 refine wr (pz 1 hf fun a hf=>?_)
 refine lN 1 hf H TF.la27 fun a hf=>?_
 obtain ⟨y,hy,hF⟩:=bs_ hF
 refine oc hf TF.gll (gbq (S:=NB b0) (H.boxAt 2 rfl) ((ud (x:=c) (H.nb 2 rfl (H.get 2 rfl)))) (fun h=>h rfl) (uY (x:=n') (H.nb 2 rfl (H.get 1 rfl)) (H.nb 2 rfl (H.get 0 rfl))) hy) fun v w a hp3 hf=>?_
 obtain ⟨hch,cs3,hbx,hr3,⟨hx,hx2⟩,hs⟩:=hp3
 obtain ⟨F,hp4,hN⟩:=hs
 obtain ⟨A4,c5,F2,rfl,rfl,hl4⟩:=yT hp4
 obtain ⟨A5,c6,rfl,hl5⟩:=uc hr3
 obtain ⟨rfl,rfl⟩:=un hx rfl rfl
 have H:=H.bO1 2 rfl hch hbx hN hl4
 have H:=H.pX 2 rfl hx2
 have H:=H.lend 0 rfl
 refine aL hf H TF.zv45 fun b5 a w hf H=>?_
 refine sB 0 hf H TF.sz45 fun w H=>?_
 refine we (sqz (pz 1 hf fun a hf=>?_))
 obtain ⟨y2,hy2,hF⟩:=bs_ hF
 refine oc hf TF.yJ (ui (S:=NB b0) (H.boxAt 3 rfl) ((ud (x:=y.2) (H.nb 3 rfl (H.get 1 rfl)))) (fun h=>h rfl) ug hy2) fun v2 w a hp5 hf=>?_
 obtain ⟨hch2,cs4,hbx2,hr4,⟨hx3,hx4⟩,hs2⟩:=hp5
 obtain rfl:=uv hs2
 obtain ⟨A6,c7,rfl,hl6⟩:=uc hr4
 obtain ⟨rfl,rfl⟩:=un hx3 rfl rfl
 have hx5:=hx4.trans hx2
 have H:=H.wroteBox 3 rfl hch2 hbx2
 have H:=H.pX 1 rfl hx4
 refine ub (ua (wp_block (sqz (pz 2 hf fun a hf=>?_))))
 refine ub (ua (ib hF hf (fun hc hF=>?_) fun hc hF=>?_))
 refine reg (pz 1 hf fun a hf=>?_)
 obtain ⟨y3,hy3,hF⟩:=bs_ hF
 refine oc hf TF.yJ (ui (S:=NB b0) (H.boxAt 3 rfl) ((ud (x:=y2.2) (H.nb 3 rfl (H.get 0 rfl)))) (fun h=>h rfl) ug hy3) fun v3 w a hp6 hf=>?_
 obtain ⟨hch3,cs5,hbx3,hr5,⟨hx6,hx7⟩,hs3⟩:=hp6
 obtain rfl:=uv hs3
 obtain ⟨A7,c8,rfl,hl7⟩:=uc hr5
 obtain ⟨rfl,rfl⟩:=un hx6 rfl rfl
 have hx8:=hx7.trans hx5
 have H:=H.wroteBox 3 rfl hch3 hbx3
 have H:=H.pX 0 rfl hx7
 refine pz 2 hf fun a hf=>?_
 refine sB 0 hf H TF.sz3 fun w H=>?_
 have hf:=hf.pn [4,5]
 refine ub (uV (ua (sq (reg (lN 0 hf H TF.la45 fun a hf=>?_)))))
 refine sB 1 hf H TF.sz45 fun w H=>?_
 refine wer ?_
 obtain rfl:=oi hF
 refine xi hf rfl (um hf H 1 TF.la45 rfl rfl rfl) ?_
 have hN:=H.endsB1 3 rfl
 exact ⟨_,rfl,H.chg,_,H.boxAt 3 rfl,(ud (x:=y3.2) (eB 3 (H.get 0 rfl))),⟨fxc hx8,hx8⟩,F2,⟨_,xQ (x:=({ Start:=w64 (y3.1 - 1),Fibers:=y.1.Fibers }:Route)) (H.ownAt 0 rfl),rfl⟩,by first | exact hN | simpa using hN⟩
 refine sqz (pz 2 hf fun a hf=>?_)
 refine ub (ua (ib hF hf (fun hc2 hF=>?_) fun hc2 hF=>?_))
 refine dw [6,8] 9 fun w hb=>?_
 have H:=H.keep hb
 refine zp 0 hf trivial fun a hf=>?_
 refine strT (H.lk 1 0 0 []) (fun w H=>trivial) fun hS=>?_
 refine zS 1 [1,6,7,8] rfl rfl rfl rfl hf hS (fun w H=>ue hf H TF.ls35 0 rfl rfl rfl) fun a hf=>?_
 refine zp 2 hf hS fun a hf=>?_
 obtain ⟨y4,hy4,hF⟩:=bs_ hF
 refine nn 3 rfl (oC hf TF.yJ (ui (S:=NB b0) (H.boxAt 3 rfl) ((ud (x:=y2.2) (H.nb 3 rfl (H.get 0 rfl)))) (fun h=>h rfl) ug hy4) fun v4 w a hp7 hf=>?_)
 obtain ⟨hch4,cs6,hbx4,hr6,⟨hx9,hx10⟩,hs4⟩:=hp7
 obtain rfl:=uv hs4
 obtain ⟨A8,c9,rfl,hl8⟩:=uc hr6
 obtain ⟨rfl,rfl⟩:=un hx9 rfl rfl
 have hx11:=hx10.trans hx5
 have H:=H.wroteBox 3 rfl hch4 hbx4
 have H:=H.pX 0 rfl hx10
 have hS:=H.lk 1 0 0 []
 refine aS hS ?_
 refine zp 4 hf hS fun a hf=>?_
 refine nn 5 rfl (bl hf H 3 ([w64 (y4.1 - 1)]:List Int) [(.int .i64 (w64 (y4.1 - 1)))] (el1 (y:=w64 (y4.1 - 1)) (rfl)) fun A9 a w hf H=>?_)
 have hS:=H.lk 1 0 0 []
 refine aS hS ?_
 obtain ⟨Fs,E,H,-⟩:=H.thaw rfl
 have H:=H.rowSh 0 rfl
 have H:=H.pB hS0 hl
 have H:=H.pB hS0 hl2
 have H:=H.pB hS0 hl3
 have H:=H.argB (by simpa using hS0) (p:=MP.val [(.slice A y4.2.code.length c2)] (y4.2.code:List By)) (by rw [hx11]; exact hl)
 obtain ⟨l,hl_,hF⟩:=bs_ hF
 refine nn 6 rfl (xg hf H Tryz.underlying35 TF.ai3 rfl (by decide) 0 1 rfl rfl rfl rfl (.inr rfl) hl_ (by decide) fun E2 A10 c10 a w hf H=>?_)
 refine ⟨fun h=>absurd h (by decide),?_⟩
 refine tp 7 rfl rfl hf (by kernel_rfl) (fun h=>absurd h (by decide)) rfl fun a hf=>?_
 refine nn 8 rfl (uh hf H 0 TF.sz35 rfl rfl rfl rfl rfl rfl (nle rfl) fun w H=>?_)
 refine ⟨fun h=>absurd h (by decide),?_⟩
 refine dk ?_
 have hf:=hf.pn [4,5]
 refine uV (ua (sq (reg (lN 0 hf H TF.la45 fun a hf=>?_))))
 refine sB 1 hf H TF.sz45 fun w H=>?_
 refine wer ?_
 have H:=H.rowOwn 0 rfl rfl
 obtain ⟨F3,H⟩:=H.freezeOwn 0 rfl
 have H:=H.lend 0 rfl
 obtain rfl:=oi hF
 refine xi hf rfl (um hf H 1 TF.la45 rfl rfl rfl) ?_
 have hN:=H.endsB1 3 rfl
 exact ⟨_,rfl,H.chg,_,H.boxAt 3 rfl,(ud (x:=y4.2) (eB 3 (H.get 1 rfl))),⟨fxc hx11,hx11⟩,F3,⟨_,xQ (x:=({ Start:=y.1.Start,Fibers:=l }:Route)) (H.ownAt 0 rfl),rfl⟩,by first | exact hN | simpa using hN⟩
 refine sqz (pz 2 hf fun a hf=>?_)
 refine ub (ua (ib hF hf (fun hc3 hF=>?_) fun hc3 hF=>?_))
 refine reg (wl0 rfl (bl hf H 3 ([]:List Int) [] el0 fun A11 a w hf H=>?_))
 refine pz 1 hf fun a hf=>?_
 refine sB 0 hf H TF.sz35 fun w H=>?_
 have hf:=hf.pn [4,5]
 refine ub (uV (ua (sq (reg (lN 0 hf H TF.la45 fun a hf=>?_)))))
 refine sB 1 hf H TF.sz45 fun w H=>?_
 refine wer ?_
 have H:=H.rowOwn 0 rfl rfl
 obtain ⟨F4,H⟩:=H.freezeOwn 0 rfl
 have H:=H.lend 0 rfl
 obtain rfl:=oi hF
 refine xi hf rfl (um hf H 1 TF.la45 rfl rfl rfl) ?_
 have hN:=H.endsB1 3 rfl
 exact ⟨_,rfl,H.chg,_,H.boxAt 3 rfl,(ud (x:=y2.2) (eB 3 (H.get 1 rfl))),⟨fxc hx5,hx5⟩,F4,⟨_,xQ (x:=({ Start:=y.1.Start,Fibers:=([]:List Int) }:Route)) (H.ownAt 0 rfl),rfl⟩,by first | exact hN | simpa using hN⟩
 refine sqz (pz 2 hf fun a hf=>?_)
 have hf:=hf.pn [4,5,31]
 refine ub (ua (ib hF hf (fun hc4 hF=>?_) fun hc4 hF=>?_))
 refine sqz (pz 1 hf fun a hf=>?_)
 refine lB 0 hf H TF.ls35 fun a hf=>?_
 refine pz 2 hf fun a hf=>?_
 refine ub (ua (ib hF hf (fun hc5 hF=>?_) fun hc5 hF=>?_))
 refine dw [11,13] 14 fun w hb=>?_
 have H:=H.keep hb
 refine zp 0 hf trivial fun a hf=>?_
 refine strT (H.lk 1 0 0 []) (fun w H=>trivial) fun hS=>?_
 refine zS 1 [1,11,12,13] rfl rfl rfl rfl hf hS (fun w H=>ue hf H TF.ls35 0 rfl rfl rfl) fun a hf=>?_
 refine zp 2 hf hS fun a hf=>?_
 refine zS 3 [3,8,9,10,11,12,13] rfl rfl rfl rfl hf hS (fun w H=>ue hf H TF.ls35 0 rfl rfl rfl) fun a hf=>?_
 refine zp 4 hf hS fun a hf=>?_
 refine zS 5 [5,6,7,8,9,10,11,12,13] rfl rfl rfl rfl hf hS (fun w H=>ue hf H TF.ls35 0 rfl rfl rfl) fun a hf=>?_
 refine zp 6 hf hS fun a hf=>?_
 refine zp 7 hf hS fun a hf=>?_
 obtain ⟨e,he,hF⟩:=bs_ hF
 obtain ⟨p,o3,cs7,hx12,hr7,H⟩:=ux H Tryz.underlying35 TF.sz3 1 rfl he
 refine zP 8 rfl rfl rfl rfl hf hS (fun w=>uu hf rfl rfl rfl hx12 w) fun a hf=>?_
 obtain rfl:=hr7
 refine strT (H.lk 1 0 0 [0]) (fun w H=>H.lk 1 0 0 []) fun hS=>?_
 refine zS 9 [9,10,11,12,13] rfl rfl rfl rfl hf hS (fun w H=>uI hf H TF.ls3 0 0 rfl rfl rfl) fun a hf=>?_
 refine nn 10 rfl (bl hf H 3 ([e]:List Int) [(.int .i64 e)] (el1 (y:=e) (rfl)) fun A12 a w hf H=>?_)
 have hS:=H.lk 1 0 0 [0]
 refine aS hS ?_
 obtain ⟨Fs2,E3,H,-⟩:=H.thaw rfl
 have H:=H.rowSh 0 rfl
 have H:=H.pB hS0 hl
 have H:=H.pB hS0 hl2
 have H:=H.pB hS0 hl3
 have H:=H.argB (by simpa using hS0) (p:=MP.val [(.slice A y2.2.code.length c2)] (y2.2.code:List By)) (by rw [hx5]; exact hl)
 obtain ⟨l2,hl2_,hF⟩:=bs_ hF
 refine nn 11 rfl (xg hf H Tryz.underlying35 TF.ai3 rfl (by decide) 0 1 rfl rfl rfl rfl (.inr rfl) hl2_ (by decide) fun E4 A13 c11 a w hf H=>?_)
 refine ⟨fun h=>absurd h (by decide),?_⟩
 refine tp 12 rfl rfl hf (by kernel_rfl) (fun h=>absurd h (by decide)) rfl fun a hf=>?_
 refine nn 13 rfl (uh hf H 0 TF.sz35 rfl rfl rfl rfl rfl rfl (nle rfl) fun w H=>?_)
 refine ⟨fun h=>absurd h (by decide),?_⟩
 refine dk ?_
 have hf:=hf.pn [4,5]
 refine uV (ua (sq (reg (lN 0 hf H TF.la45 fun a hf=>?_))))
 refine sB 1 hf H TF.sz45 fun w H=>?_
 refine wer ?_
 have H:=H.rowOwn 0 rfl rfl
 obtain ⟨F5,H⟩:=H.freezeOwn 0 rfl
 have H:=H.lend 0 rfl
 obtain rfl:=oi hF
 refine xi hf rfl (um hf H 1 TF.la45 rfl rfl rfl) ?_
 have hN:=H.endsB1 3 rfl
 exact ⟨_,rfl,H.chg,_,H.boxAt 3 rfl,(ud (x:=y2.2) (eB 3 (H.get 1 rfl))),⟨fxc hx5,hx5⟩,F5,⟨_,xQ (x:=({ Start:=y.1.Start,Fibers:=l2 }:Route)) (H.ownAt 0 rfl),rfl⟩,by first | exact hN | simpa using hN⟩
 refine wp_skip (uV (ua (sq (reg (lN 0 hf H TF.la45 fun a hf=>?_)))))
 refine sB 1 hf H TF.sz45 fun w H=>?_
 refine wer ?_
 obtain rfl:=oi hF
 refine xi hf rfl (um hf H 1 TF.la45 rfl rfl rfl) ?_
 have hN:=H.endsB1 3 rfl
 exact ⟨_,rfl,H.chg,_,H.boxAt 3 rfl,(ud (x:=y2.2) (eB 3 (H.get 0 rfl))),⟨fxc hx5,hx5⟩,F2,⟨_,xQ (x:=y.1) (H.ownAt 0 rfl),rfl⟩,by first | exact hN | simpa using hN⟩
 refine wp_skip (uV (ua (sq (reg (lN 0 hf H TF.la45 fun a hf=>?_)))))
 refine sB 1 hf H TF.sz45 fun w H=>?_
 refine wer ?_
 obtain rfl:=oi hF
 refine xi hf rfl (um hf H 1 TF.la45 rfl rfl rfl) ?_
 have hN:=H.endsB1 3 rfl
 exact ⟨_,rfl,H.chg,_,H.boxAt 3 rfl,(ud (x:=y2.2) (eB 3 (H.get 0 rfl))),⟨fxc hx5,hx5⟩,F2,⟨_,xQ (x:=y.1) (H.ownAt 0 rfl),rfl⟩,by first | exact hN | simpa using hN⟩
theorem gdW {S:Nat→Prop} {b0:Nat} {cs0:List Value} {v1_:Value} {c:L1CurP} {list:List ByteArray} {r:ByteArray×L1CurP} (hp0:w0.heap[b0]?=some (.cells cs0.toArray 109 (0,0))) (hr0:GoTy.rep w0 S cs0 c) (hS0:¬S b0) (h1:VR w0 S v1_ list) (hF:gaj fu c list=some r) :
    Calls Tryz.prog 231 [(.pointer (some ⟨b0,0,none⟩)),v1_].toArray w0 fun e w'=>∃ v,e=.returned v∧(Chg w0 w' [b0]∧∃ cs',w'.heap[b0]?=some (.cells cs'.toArray 109 (0,0))∧GoTy.rep w' (St ⟨w0,[b0]⟩ S [⟨b0,109,cs'⟩] [] [] false) cs' r.2∧(cs'[0]?=cs0[0]?∧r.2.code=c.code)∧VR w' (St ⟨w0,[b0]⟩ S [⟨b0,109,cs'⟩] [] [] true) v r.1):=by
 obtain ⟨A,c2,rfl,hl⟩:=uc hr0
 obtain ⟨A2,c3,rfl,hl2⟩:=u4 h1
 have H:=Mem.startB S hp0
 have H:=H.pB hS0 hl
 have H:=H.pB hS0 hl2
 refine en Tryz.func231 fun a hf=>?_
 rw [gaj] at hF
 refine sqz (pz 1 hf fun a hf=>?_)
 refine wr (pz 4 hf fun a hf=>?_)
 obtain ⟨y,hy,hF⟩:=bs_ hF
 refine oc hf TF.yJ (ui (S:=NB b0) (H.boxAt 0 rfl) ((ud (x:=c) (H.nb 0 rfl (H.get 1 rfl)))) (fun h=>h rfl) ug hy) fun v w a hp3 hf=>?_
 obtain ⟨hch,cs3,hbx,hr3,⟨hx,hx2⟩,hs⟩:=hp3
 obtain rfl:=uv hs
 obtain ⟨A3,c4,rfl,hl3⟩:=uc hr3
 obtain ⟨rfl,rfl⟩:=un hx rfl rfl
 have H:=H.wroteBox 0 rfl hch hbx
 have H:=H.pX 1 rfl hx2
 obtain ⟨e,he,hF⟩:=bs_ hF
 refine wl0 rfl (vn hf H Tryz.underlying24 TF.sz9 1 rfl rfl rfl he (by decide) fun p o3 cs4 a hf hr4 H=>?_)
 obtain rfl:=hr4
 refine oq hf (uI hf H TF.ls9 0 0 rfl rfl rfl) fun a hf=>?_
 refine pz 1 hf fun a hf=>?_
 refine wer ?_
 obtain rfl:=oi hF
 refine rT hf ?_
 exact ⟨_,rfl,H.chg,_,H.boxAt 0 rfl,(ud (x:=y.2) (eB 0 (H.get 1 rfl))),⟨fxc hx2,hx2⟩,ge2⟩
theorem gbQ {S:Nat→Prop} {b0:Nat} {cs0:List Value} {c:L1CurP} {r:Network×L1CurP} (hp0:w0.heap[b0]?=some (.cells cs0.toArray 109 (0,0))) (hr0:GoTy.rep w0 S cs0 c) (hS0:¬S b0) (hF:xG fu c=some r) :
    Calls Tryz.prog 145 [(.pointer (some ⟨b0,0,none⟩))].toArray w0 fun e w'=>∃ v,e=.returned v∧(Chg w0 w' [b0]∧∃ cs',w'.heap[b0]?=some (.cells cs'.toArray 109 (0,0))∧GoTy.rep w' (St ⟨w0,[b0]⟩ S [⟨b0,109,cs'⟩] [] [] false) cs' r.2∧(cs'[0]?=cs0[0]?∧r.2.code=c.code)∧∃ F0,VO w' F0 v r.1∧New w0 w' F0):=by
 obtain ⟨A,c2,rfl,hl⟩:=uc hr0
 have H:=Mem.startB S hp0
 have H:=H.pB hS0 hl
 refine en Tryz.func145 fun a hf=>?_
 rw [xG] at hF
 refine sq (reg (aL hf H TF.zv27 fun b2 a w hf H=>?_))
 refine wr (pz 1 hf fun a hf=>?_)
 obtain ⟨y,hy,hF⟩:=bs_ hF
 refine oc hf TF.glk (gaN (S:=NB b0) (H.boxAt 1 rfl) ((ud (x:=c) (H.nb 1 rfl (H.get 0 rfl)))) (fun h=>h rfl) hy) fun v w a hp2 hf=>?_
 obtain ⟨hch,cs2,hbx,hr2,⟨hx,hx2⟩,hs⟩:=hp2
 obtain ⟨F,hp3,hN⟩:=hs
 obtain ⟨A2,c3,F2,A3,c4,F3,rfl,rfl,hl2,hl3⟩:=gaf hp3
 obtain ⟨A4,c5,rfl,hl4⟩:=uc hr2
 obtain ⟨rfl,rfl⟩:=un hx rfl rfl
 have H:=H.bO2 1 rfl hch hbx hN hl2 hl3
 have H:=H.pX 0 rfl hx2
 have H:=H.lend 0 rfl
 have H:=H.lend 1 rfl
 obtain ⟨Fs,E,H,-⟩:=H.thaw rfl
 have H:=H.rowSh 0 rfl
 have H:=H.pB hS0 hl
 have H:=H.argB (by simpa using hS0) (p:=MP.val [(.slice A y.2.code.length c2)] (y.2.code:List By)) (by rw [hx2]; exact hl)
 have H:=H.lend 0 rfl
 obtain ⟨Fs2,E2,H,-⟩:=H.thaw rfl
 have H:=H.rowSh 0 rfl
 have H:=H.pB hS0 hl
 have H:=H.argB (by simpa using hS0) (p:=MP.val [(.slice A y.2.code.length c2)] (y.2.code:List By)) (by rw [hx2]; exact hl)
 refine aL hf H TF.zv27 fun b3 a w hf H=>?_
 refine sB 0 hf H TF.sz27 fun w H=>?_
 refine we (sqz (pz 1 hf fun a hf=>?_))
 refine lB 0 hf H TF.ls25 fun a hf=>?_
 refine pz 2 hf fun a hf=>?_
 refine ub (ua (ib hF hf (fun hc hF=>?_) fun hc hF=>?_))
 refine sq (reg (lN 0 hf H TF.la27 fun a hf=>?_))
 refine sB 1 hf H TF.sz27 fun w H=>?_
 refine ub (ua (wp_ret (uf (?_))))
 have H:=H.rowOwn 1 rfl rfl
 obtain ⟨F4,H⟩:=H.freezeOwn 1 rfl
 have H:=H.lend 0 rfl
 have H:=H.rowOwn 0 rfl rfl
 obtain ⟨F5,H⟩:=H.freezeOwn 0 rfl
 have H:=H.lend 0 rfl
 have H:=H.frontD 1 rfl
 obtain rfl:=oi hF
 refine xi hf rfl (um hf H 1 TF.la27 rfl rfl rfl) ?_
 have hN:=H.endsB2 2 rfl
 exact ⟨_,rfl,H.chg,_,H.boxAt 2 rfl,(ud (x:=y.2) (eB 2 (H.get 2 rfl))),⟨fxc hx2,hx2⟩,(F4++F5),⟨_,vw (x:=y.1) (H.ownAt 0 rfl) (H.ownAt 1 rfl),rfl⟩,by first | exact hN | simpa using hN⟩
 refine wp_skip (ua (sqz (pz 2 hf fun a hf=>?_)))
 refine lB 0 hf H TF.ls25 fun a hf=>?_
 refine pz 1 hf fun a hf=>?_
 obtain ⟨y2,hy2,hF⟩:=bs_ hF
 refine oc hf TF.yJ (ui (S:=NB b0) (H.boxAt 2 rfl) ((ud (x:=y.2) (H.nb 2 rfl (H.get 0 rfl)))) (fun h=>h rfl) ug hy2) fun v2 w a hp4 hf=>?_
 obtain ⟨hch2,cs3,hbx2,hr3,⟨hx3,hx4⟩,hs2⟩:=hp4
 obtain rfl:=uv hs2
 obtain ⟨A5,c6,rfl,hl5⟩:=uc hr3
 obtain ⟨rfl,rfl⟩:=un hx3 rfl rfl
 have hx5:=hx4.trans hx2
 have H:=H.wroteBox 2 rfl hch2 hbx2
 have H:=H.pX 0 rfl hx4
 refine pz 1 hf fun a hf=>?_
 refine wr (pz 1 hf fun a hf=>?_)
 refine lB 0 hf H TF.ls25 fun a hf=>?_
 refine pz 1 hf fun a hf=>?_
 obtain ⟨e,he,hF⟩:=bs_ hF
 refine wl0 rfl (vD hf H Tryz.underlying25 TF.zc 0 rfl rfl rfl he (by decide) fun p o2 cs4 a hf hA hr4 hk=>?_)
 obtain rfl:=uZ hr4
 refine oq hf (gdc hf TF.gas rfl rfl (fun j c hj=>hk _ c (by simpa using hj))) fun a hf=>?_
 refine aL hf H TF.gj2 fun b4 a w hf H=>?_
 refine sB 0 hf H TF.zc fun w H=>?_
 have hf:=hf.pn [0,2,3,4,5]
 refine we (sqz (pz 1 hf fun a hf=>?_))
 obtain ⟨y3,hy3,hF⟩:=bs_ hF
 refine oc hf TF.yJ (ui (S:=NB b0) (H.boxAt 3 rfl) ((ud (x:=y2.2) (H.nb 3 rfl (H.get 0 rfl)))) (fun h=>h rfl) ug hy3) fun v3 w a hp5 hf=>?_
 obtain ⟨hch3,cs5,hbx3,hr5,⟨hx6,hx7⟩,hs3⟩:=hp5
 obtain rfl:=uv hs3
 obtain ⟨A6,c7,rfl,hl6⟩:=uc hr5
 obtain ⟨rfl,rfl⟩:=un hx6 rfl rfl
 have hx8:=hx7.trans hx5
 have H:=H.wroteBox 3 rfl hch3 hbx3
 have H:=H.pX 0 rfl hx7
 refine ub (ua (wp_block (sqz (pz 2 hf fun a hf=>?_))))
 refine ub (ua (ib hF hf (fun hc2 hF=>?_) fun hc2 hF=>?_))
 refine dw [6] 7 fun w hb=>?_
 have H:=H.keep hb
 refine zp 0 hf trivial fun a hf=>?_
 refine strT (H.lk 2 0 0 []) (fun w H=>trivial) fun hS=>?_
 refine zS 1 [1,5,6] rfl rfl rfl rfl hf hS (fun w H=>ue hf H TF.ls24 0 rfl rfl rfl) fun a hf=>?_
 refine zp 2 hf hS fun a hf=>?_
 refine nn 3 rfl (bl hf H 9 ([(⟨#[98]⟩:ByteArray),ByteArray.empty,(⟨#[65]⟩:ByteArray),(⟨#[97,98,99,100,101,102,103,104]⟩:ByteArray),(⟨#[97,98,99,100,101,102,103,104,105]⟩:ByteArray),(⟨#[120,49]⟩:ByteArray)]:List ByteArray) [(.string (⟨#[98]⟩:ByteArray)),(.string ByteArray.empty),(.string (⟨#[65]⟩:ByteArray)),(.string (⟨#[97,98,99,100,101,102,103,104]⟩:ByteArray)),(.string (⟨#[97,98,99,100,101,102,103,104,105]⟩:ByteArray)),(.string (⟨#[120,49]⟩:ByteArray))] (elL [([(.string (⟨#[98]⟩:ByteArray))],((⟨#[98]⟩:ByteArray):ByteArray)),([(.string ByteArray.empty)],(ByteArray.empty:ByteArray)),([(.string (⟨#[65]⟩:ByteArray))],((⟨#[65]⟩:ByteArray):ByteArray)),([(.string (⟨#[97,98,99,100,101,102,103,104]⟩:ByteArray))],((⟨#[97,98,99,100,101,102,103,104]⟩:ByteArray):ByteArray)),([(.string (⟨#[97,98,99,100,101,102,103,104,105]⟩:ByteArray))],((⟨#[97,98,99,100,101,102,103,104,105]⟩:ByteArray):ByteArray)),([(.string (⟨#[120,49]⟩:ByteArray))],((⟨#[120,49]⟩:ByteArray):ByteArray))] (al1 (x:=((⟨#[98]⟩:ByteArray):ByteArray)) (rfl) (al1 (x:=(ByteArray.empty:ByteArray)) (rfl) (al1 (x:=((⟨#[65]⟩:ByteArray):ByteArray)) (rfl) (al1 (x:=((⟨#[97,98,99,100,101,102,103,104]⟩:ByteArray):ByteArray)) (rfl) (al1 (x:=((⟨#[97,98,99,100,101,102,103,104,105]⟩:ByteArray):ByteArray)) (rfl) (al1 (x:=((⟨#[120,49]⟩:ByteArray):ByteArray)) (rfl) al0))))))) fun A7 a w hf H=>?_)
 have hS:=H.lk 2 0 0 []
 refine aS hS ?_
 have H:=H.freeze 0 rfl
 obtain ⟨y4,hy4,hF⟩:=bs_ hF
 refine nn 4 rfl (oC hf TF.gl1 (gdW (S:=NB b0) (H.boxAt 3 rfl) ((ud (x:=y3.2) (H.nb 3 rfl (H.get 1 rfl)))) (fun h=>h rfl) (uB (H.nb 3 rfl (H.get 0 rfl))) hy4) fun v4 w a hp6 hf=>?_)
 obtain ⟨hch4,cs6,hbx4,hr6,⟨hx9,hx10⟩,hs4⟩:=hp6
 obtain rfl:=ge6 hs4
 obtain ⟨A8,c8,rfl,hl7⟩:=uc hr6
 obtain ⟨rfl,rfl⟩:=un hx9 rfl rfl
 have hx11:=hx10.trans hx8
 have H:=H.wroteBox 3 rfl hch4 hbx4
 have H:=H.pX 1 rfl hx10
 have hS:=H.lk 2 0 0 []
 refine aS hS ?_
 obtain ⟨e2,he2,hF⟩:=bs_ hF
 refine nn 5 rfl (vD hf H Tryz.underlying24 TF.sz9 1 rfl rfl rfl he2 (by decide) fun p2 o3 cs7 a hf hA2 hr7 hk2=>?_)
 obtain rfl:=hr7
 have hS:=H.lk 2 0 0 []
 refine aS hS ?_
 refine nn 6 rfl (xj (e':=y4.1) (o:=o3) (off:=0) hf H TF.sz9 1 rfl rfl rfl rfl rfl (nle rfl) rfl hA2 he2 (yU rfl) fun w H=>?_)
 replace hf:Fr a 104 [(0,(.pointer (some ⟨b0,0,none⟩))),(2,(.pointer (some ⟨b2,0,none⟩))),(3,(.pointer (some ⟨b3,0,none⟩))),(4,(.int .i64 y2.1)),(5,(.pointer (some ⟨b4,0,none⟩))),(27,(.pointer (some ⟨b3,0,none⟩))),(28,(.slice A2 y.1.Nodes.length c3)),(29,(.pointer (some ⟨b0,0,none⟩))),(30,(.slice A7 6 6)),(31,(.string y4.1)),(32,(.pointer (some ⟨p2,o3 + 0,none⟩)))]:=hf.prune [0,2,3,4,5,27,28,29,30,31,32] rfl
 replace hf:Fr a 104 [(0,(.pointer (some ⟨b0,0,none⟩))),(2,(.pointer (some ⟨b2,0,none⟩))),(3,(.pointer (some ⟨b3,0,none⟩))),(4,(.int .i64 y2.1)),(5,(.pointer (some ⟨b4,0,none⟩))),(27,(.pointer (some ⟨b3,0,none⟩))),(28,(.slice A2 (y.1.Nodes.set (0:Int).toNat y4.1).length c3)),(29,(.pointer (some ⟨b0,0,none⟩))),(30,(.slice A7 6 6)),(31,(.string y4.1)),(32,(.pointer (some ⟨p2,o3 + 0,none⟩)))]:=by simpa only [List.length_set,Nat.add_zero] using hf
 replace H:Mem ⟨w0,[b0]⟩ S [⟨b4,180,[(.int .i64 e.A),(.int .i64 e.B),(.int .i64 e.Length),(.int .i64 e.Risk)]⟩,⟨b3,27,[(.slice A2 (y.1.Nodes.set (0:Int).toNat y4.1).length c3),(.slice A3 y.1.Fibers.length c4)]⟩,⟨b2,27,[(.slice none 0 0),(.slice none 0 0)]⟩,⟨b0,109,[(.slice A y4.2.code.length c2),(.int .i64 y4.2.at_),(.int .u64 y4.2.seed.n)]⟩] [⟨.sh true,E2,A3,c4,(y.1.Fibers:List Fiber)⟩,⟨.sh true,E,A2,c3,(y.1.Nodes.set (0:Int).toNat y4.1:List ByteArray)⟩] [] [(false,MP.val [(.slice A y4.2.code.length c2)] (y4.2.code:List By)),(true,MP.val [(.slice A7 6 6)] ([(⟨#[98]⟩:ByteArray),ByteArray.empty,(⟨#[65]⟩:ByteArray),(⟨#[97,98,99,100,101,102,103,104]⟩:ByteArray),(⟨#[97,98,99,100,101,102,103,104,105]⟩:ByteArray),(⟨#[120,49]⟩:ByteArray)]:List ByteArray)),(false,MP.val [(.slice A y3.2.code.length c2)] (y3.2.code:List By)),(false,MP.val [(.slice A y2.2.code.length c2)] (y2.2.code:List By)),(false,MP.val [(.slice A y.2.code.length c2)] (y.2.code:List By)),(false,MP.val [(.slice A c.code.length c2)] (c.code:List By))] w:=by first | (simp only [List.length_set]; exact H) | (simp only [List.length_set] at H ⊢; exact H)
 refine ⟨fun h=>absurd h (by decide),?_⟩
 refine dk ?_
 refine uV (ua (sqz (pz 1 hf fun a hf=>?_)))
 refine lB 1 hf H TF.ls25 fun a hf=>?_
 refine pz 1 hf fun a hf=>?_
 refine lN 0 hf H TF.gas fun a hf=>?_
 obtain ⟨e3,he3,hF⟩:=bs_ hF
 refine wl0 rfl (vD hf H Tryz.underlying25 TF.zc 0 rfl rfl rfl he3 (by decide) fun p3 o4 cs8 a hf hA3 hr8 hk3=>?_)
 obtain rfl:=uZ hr8
 refine wl0 rfl (xj (e':=e) (o:=o4) (off:=0) hf H TF.zc 0 rfl rfl rfl rfl rfl (nle rfl) rfl hA3 he3 (yU (zr (x:=e))) fun w H=>?_)
 replace hf:Fr a 104 [(2,(.pointer (some ⟨b2,0,none⟩))),(3,(.pointer (some ⟨b3,0,none⟩))),(4,(.int .i64 y2.1)),(5,(.pointer (some ⟨b4,0,none⟩))),(98,(.pointer (some ⟨b3,1,none⟩))),(99,(.slice A3 y.1.Fibers.length c4)),(100,(.int .i64 y2.1)),(101,(.agg #[(.int .i64 e.A),(.int .i64 e.B),(.int .i64 e.Length),(.int .i64 e.Risk)])),(102,(.pointer (some ⟨p3,o4 + 0,none⟩)))]:=hf.prune [2,3,4,5,98,99,100,101,102] rfl
 replace hf:Fr a 104 [(2,(.pointer (some ⟨b2,0,none⟩))),(3,(.pointer (some ⟨b3,0,none⟩))),(4,(.int .i64 y2.1)),(5,(.pointer (some ⟨b4,0,none⟩))),(98,(.pointer (some ⟨b3,1,none⟩))),(99,(.slice A3 (y.1.Fibers.set (y2.1:Int).toNat e).length c4)),(100,(.int .i64 y2.1)),(101,(.agg #[(.int .i64 e.A),(.int .i64 e.B),(.int .i64 e.Length),(.int .i64 e.Risk)])),(102,(.pointer (some ⟨p3,o4 + 0,none⟩)))]:=by simpa only [List.length_set,Nat.add_zero] using hf
 replace H:Mem ⟨w0,[b0]⟩ S [⟨b4,180,[(.int .i64 e.A),(.int .i64 e.B),(.int .i64 e.Length),(.int .i64 e.Risk)]⟩,⟨b3,27,[(.slice A2 (y.1.Nodes.set (0:Int).toNat y4.1).length c3),(.slice A3 (y.1.Fibers.set (y2.1:Int).toNat e).length c4)]⟩,⟨b2,27,[(.slice none 0 0),(.slice none 0 0)]⟩,⟨b0,109,[(.slice A y4.2.code.length c2),(.int .i64 y4.2.at_),(.int .u64 y4.2.seed.n)]⟩] [⟨.sh true,E2,A3,c4,(y.1.Fibers.set (y2.1:Int).toNat e:List Fiber)⟩,⟨.sh true,E,A2,c3,(y.1.Nodes.set (0:Int).toNat y4.1:List ByteArray)⟩] [] [(false,MP.val [(.slice A y4.2.code.length c2)] (y4.2.code:List By)),(true,MP.val [(.slice A7 6 6)] ([(⟨#[98]⟩:ByteArray),ByteArray.empty,(⟨#[65]⟩:ByteArray),(⟨#[97,98,99,100,101,102,103,104]⟩:ByteArray),(⟨#[97,98,99,100,101,102,103,104,105]⟩:ByteArray),(⟨#[120,49]⟩:ByteArray)]:List ByteArray)),(false,MP.val [(.slice A y3.2.code.length c2)] (y3.2.code:List By)),(false,MP.val [(.slice A y2.2.code.length c2)] (y2.2.code:List By)),(false,MP.val [(.slice A y.2.code.length c2)] (y.2.code:List By)),(false,MP.val [(.slice A c.code.length c2)] (c.code:List By))] w:=by first | (simp only [List.length_set]; exact H) | (simp only [List.length_set] at H ⊢; exact H)
 refine wr (lN 1 hf H TF.la27 fun a hf=>?_)
 refine sB 2 hf H TF.sz27 fun w H=>?_
 refine wer ?_
 have H:=H.rowOwn 1 rfl rfl
 obtain ⟨F6,H⟩:=H.freezeOwn 1 rfl
 have H:=H.lend 0 rfl
 have H:=H.rowOwn 0 rfl rfl
 obtain ⟨F7,H⟩:=H.freezeOwn 0 rfl
 have H:=H.lend 0 rfl
 have H:=H.frontD 1 rfl
 obtain rfl:=oi hF
 refine xi hf rfl (um hf H 2 TF.la27 rfl rfl rfl) ?_
 have hN:=H.endsB2 3 rfl
 exact ⟨_,rfl,H.chg,_,H.boxAt 3 rfl,(ud (x:=y4.2) (eB 3 (H.get 2 rfl))),⟨fxc hx11,hx11⟩,(F6++F7),⟨_,vw (x:=({ Nodes:=y.1.Nodes.set (0:Int).toNat y4.1,Fibers:=y.1.Fibers.set (y2.1:Int).toNat e }:Network)) (H.ownAt 0 rfl) (H.ownAt 1 rfl),rfl⟩,by first | exact hN | simpa using hN⟩
 refine sqz (pz 2 hf fun a hf=>?_)
 refine ub (ua (ib hF hf (fun hc3 hF=>?_) fun hc3 hF=>?_))
 refine reg (pz 1 hf fun a hf=>?_)
 obtain ⟨y5,hy5,hF⟩:=bs_ hF
 refine oc hf TF.yJ (ui (S:=NB b0) (H.boxAt 3 rfl) ((ud (x:=y3.2) (H.nb 3 rfl (H.get 0 rfl)))) (fun h=>h rfl) ug hy5) fun v5 w a hp7 hf=>?_
 obtain ⟨hch5,cs9,hbx5,hr9,⟨hx12,hx13⟩,hs5⟩:=hp7
 obtain rfl:=uv hs5
 obtain ⟨A9,c9,rfl,hl8⟩:=uc hr9
 obtain ⟨rfl,rfl⟩:=un hx12 rfl rfl
 have hx14:=hx13.trans hx8
 have H:=H.wroteBox 3 rfl hch5 hbx5
 have H:=H.pX 0 rfl hx13
 refine pz 2 hf fun a hf=>?_
 refine sB 0 hf H TF.sz3 fun w H=>?_
 refine ub (uV (ua (sqz (pz 1 hf fun a hf=>?_))))
 refine lB 1 hf H TF.ls25 fun a hf=>?_
 refine pz 1 hf fun a hf=>?_
 refine lN 0 hf H TF.gas fun a hf=>?_
 obtain ⟨e4,he4,hF⟩:=bs_ hF
 refine wl0 rfl (vD hf H Tryz.underlying25 TF.zc 0 rfl rfl rfl he4 (by decide) fun p4 o5 cs10 a hf hA4 hr10 hk4=>?_)
 obtain rfl:=uZ hr10
 refine wl0 rfl (xj (e':=({ A:=w64 (y5.1 - 1),B:=e.B,Length:=e.Length,Risk:=e.Risk }:Fiber)) (o:=o5) (off:=0) hf H TF.zc 0 rfl rfl rfl rfl rfl (nle rfl) rfl hA4 he4 (yU (zr (x:=({ A:=w64 (y5.1 - 1),B:=e.B,Length:=e.Length,Risk:=e.Risk }:Fiber)))) fun w H=>?_)
 replace hf:Fr a 104 [(2,(.pointer (some ⟨b2,0,none⟩))),(3,(.pointer (some ⟨b3,0,none⟩))),(4,(.int .i64 y2.1)),(5,(.pointer (some ⟨b4,0,none⟩))),(98,(.pointer (some ⟨b3,1,none⟩))),(99,(.slice A3 y.1.Fibers.length c4)),(100,(.int .i64 y2.1)),(101,(.agg #[(.int .i64 (w64 (y5.1 - 1))),(.int .i64 e.B),(.int .i64 e.Length),(.int .i64 e.Risk)])),(102,(.pointer (some ⟨p4,o5 + 0,none⟩)))]:=hf.prune [2,3,4,5,98,99,100,101,102] rfl
 replace hf:Fr a 104 [(2,(.pointer (some ⟨b2,0,none⟩))),(3,(.pointer (some ⟨b3,0,none⟩))),(4,(.int .i64 y2.1)),(5,(.pointer (some ⟨b4,0,none⟩))),(98,(.pointer (some ⟨b3,1,none⟩))),(99,(.slice A3 (y.1.Fibers.set (y2.1:Int).toNat ({ A:=w64 (y5.1 - 1),B:=e.B,Length:=e.Length,Risk:=e.Risk }:Fiber)).length c4)),(100,(.int .i64 y2.1)),(101,(.agg #[(.int .i64 (w64 (y5.1 - 1))),(.int .i64 e.B),(.int .i64 e.Length),(.int .i64 e.Risk)])),(102,(.pointer (some ⟨p4,o5 + 0,none⟩)))]:=by simpa only [List.length_set,Nat.add_zero] using hf
 replace H:Mem ⟨w0,[b0]⟩ S [⟨b4,180,[(.int .i64 (w64 (y5.1 - 1))),(.int .i64 e.B),(.int .i64 e.Length),(.int .i64 e.Risk)]⟩,⟨b3,27,[(.slice A2 y.1.Nodes.length c3),(.slice A3 (y.1.Fibers.set (y2.1:Int).toNat ({ A:=w64 (y5.1 - 1),B:=e.B,Length:=e.Length,Risk:=e.Risk }:Fiber)).length c4)]⟩,⟨b2,27,[(.slice none 0 0),(.slice none 0 0)]⟩,⟨b0,109,[(.slice A y5.2.code.length c2),(.int .i64 y5.2.at_),(.int .u64 y5.2.seed.n)]⟩] [⟨.sh true,E2,A3,c4,(y.1.Fibers.set (y2.1:Int).toNat ({ A:=w64 (y5.1 - 1),B:=e.B,Length:=e.Length,Risk:=e.Risk }:Fiber):List Fiber)⟩,⟨.sh true,E,A2,c3,(y.1.Nodes:List ByteArray)⟩] [] [(false,MP.val [(.slice A y5.2.code.length c2)] (y5.2.code:List By)),(false,MP.val [(.slice A y3.2.code.length c2)] (y3.2.code:List By)),(false,MP.val [(.slice A y2.2.code.length c2)] (y2.2.code:List By)),(false,MP.val [(.slice A y.2.code.length c2)] (y.2.code:List By)),(false,MP.val [(.slice A c.code.length c2)] (c.code:List By))] w:=by first | (simp only [List.length_set]; exact H) | (simp only [List.length_set] at H ⊢; exact H)
 refine wr (lN 1 hf H TF.la27 fun a hf=>?_)
 refine sB 2 hf H TF.sz27 fun w H=>?_
 refine wer ?_
 have H:=H.rowOwn 1 rfl rfl
 obtain ⟨F8,H⟩:=H.freezeOwn 1 rfl
 have H:=H.lend 0 rfl
 have H:=H.rowOwn 0 rfl rfl
 obtain ⟨F9,H⟩:=H.freezeOwn 0 rfl
 have H:=H.lend 0 rfl
 have H:=H.frontD 1 rfl
 obtain rfl:=oi hF
 refine xi hf rfl (um hf H 2 TF.la27 rfl rfl rfl) ?_
 have hN:=H.endsB2 3 rfl
 exact ⟨_,rfl,H.chg,_,H.boxAt 3 rfl,(ud (x:=y5.2) (eB 3 (H.get 2 rfl))),⟨fxc hx14,hx14⟩,(F8++F9),⟨_,vw (x:=({ Nodes:=y.1.Nodes,Fibers:=y.1.Fibers.set (y2.1:Int).toNat ({ A:=w64 (y5.1 - 1),B:=e.B,Length:=e.Length,Risk:=e.Risk }:Fiber) }:Network)) (H.ownAt 0 rfl) (H.ownAt 1 rfl),rfl⟩,by first | exact hN | simpa using hN⟩
 refine sqz (pz 2 hf fun a hf=>?_)
 refine ub (ua (ib hF hf (fun hc4 hF=>?_) fun hc4 hF=>?_))
 refine reg (pz 1 hf fun a hf=>?_)
 obtain ⟨y6,hy6,hF⟩:=bs_ hF
 refine oc hf TF.yJ (ui (S:=NB b0) (H.boxAt 3 rfl) ((ud (x:=y3.2) (H.nb 3 rfl (H.get 0 rfl)))) (fun h=>h rfl) ug hy6) fun v6 w a hp8 hf=>?_
 obtain ⟨hch6,cs11,hbx6,hr11,⟨hx15,hx16⟩,hs6⟩:=hp8
 obtain rfl:=uv hs6
 obtain ⟨A10,c10,rfl,hl9⟩:=uc hr11
 obtain ⟨rfl,rfl⟩:=un hx15 rfl rfl
 have hx17:=hx16.trans hx8
 have H:=H.wroteBox 3 rfl hch6 hbx6
 have H:=H.pX 0 rfl hx16
 refine pz 2 hf fun a hf=>?_
 refine sB 0 hf H TF.sz3 fun w H=>?_
 have hf:=hf.pn [2,3,4,5]
 refine ub (uV (ua (sqz (pz 1 hf fun a hf=>?_))))
 refine lB 1 hf H TF.ls25 fun a hf=>?_
 refine pz 1 hf fun a hf=>?_
 refine lN 0 hf H TF.gas fun a hf=>?_
 obtain ⟨e5,he5,hF⟩:=bs_ hF
 refine wl0 rfl (vD hf H Tryz.underlying25 TF.zc 0 rfl rfl rfl he5 (by decide) fun p5 o6 cs12 a hf hA5 hr12 hk5=>?_)
 obtain rfl:=uZ hr12
 refine wl0 rfl (xj (e':=({ A:=e.A,B:=w64 (y6.1 - 1),Length:=e.Length,Risk:=e.Risk }:Fiber)) (o:=o6) (off:=0) hf H TF.zc 0 rfl rfl rfl rfl rfl (nle rfl) rfl hA5 he5 (yU (zr (x:=({ A:=e.A,B:=w64 (y6.1 - 1),Length:=e.Length,Risk:=e.Risk }:Fiber)))) fun w H=>?_)
 replace hf:Fr a 104 [(2,(.pointer (some ⟨b2,0,none⟩))),(3,(.pointer (some ⟨b3,0,none⟩))),(4,(.int .i64 y2.1)),(5,(.pointer (some ⟨b4,0,none⟩))),(98,(.pointer (some ⟨b3,1,none⟩))),(99,(.slice A3 y.1.Fibers.length c4)),(100,(.int .i64 y2.1)),(101,(.agg #[(.int .i64 e.A),(.int .i64 (w64 (y6.1 - 1))),(.int .i64 e.Length),(.int .i64 e.Risk)])),(102,(.pointer (some ⟨p5,o6 + 0,none⟩)))]:=hf.prune [2,3,4,5,98,99,100,101,102] rfl
 replace hf:Fr a 104 [(2,(.pointer (some ⟨b2,0,none⟩))),(3,(.pointer (some ⟨b3,0,none⟩))),(4,(.int .i64 y2.1)),(5,(.pointer (some ⟨b4,0,none⟩))),(98,(.pointer (some ⟨b3,1,none⟩))),(99,(.slice A3 (y.1.Fibers.set (y2.1:Int).toNat ({ A:=e.A,B:=w64 (y6.1 - 1),Length:=e.Length,Risk:=e.Risk }:Fiber)).length c4)),(100,(.int .i64 y2.1)),(101,(.agg #[(.int .i64 e.A),(.int .i64 (w64 (y6.1 - 1))),(.int .i64 e.Length),(.int .i64 e.Risk)])),(102,(.pointer (some ⟨p5,o6 + 0,none⟩)))]:=by simpa only [List.length_set,Nat.add_zero] using hf
 replace H:Mem ⟨w0,[b0]⟩ S [⟨b4,180,[(.int .i64 e.A),(.int .i64 (w64 (y6.1 - 1))),(.int .i64 e.Length),(.int .i64 e.Risk)]⟩,⟨b3,27,[(.slice A2 y.1.Nodes.length c3),(.slice A3 (y.1.Fibers.set (y2.1:Int).toNat ({ A:=e.A,B:=w64 (y6.1 - 1),Length:=e.Length,Risk:=e.Risk }:Fiber)).length c4)]⟩,⟨b2,27,[(.slice none 0 0),(.slice none 0 0)]⟩,⟨b0,109,[(.slice A y6.2.code.length c2),(.int .i64 y6.2.at_),(.int .u64 y6.2.seed.n)]⟩] [⟨.sh true,E2,A3,c4,(y.1.Fibers.set (y2.1:Int).toNat ({ A:=e.A,B:=w64 (y6.1 - 1),Length:=e.Length,Risk:=e.Risk }:Fiber):List Fiber)⟩,⟨.sh true,E,A2,c3,(y.1.Nodes:List ByteArray)⟩] [] [(false,MP.val [(.slice A y6.2.code.length c2)] (y6.2.code:List By)),(false,MP.val [(.slice A y3.2.code.length c2)] (y3.2.code:List By)),(false,MP.val [(.slice A y2.2.code.length c2)] (y2.2.code:List By)),(false,MP.val [(.slice A y.2.code.length c2)] (y.2.code:List By)),(false,MP.val [(.slice A c.code.length c2)] (c.code:List By))] w:=by first | (simp only [List.length_set]; exact H) | (simp only [List.length_set] at H ⊢; exact H)
 refine wr (lN 1 hf H TF.la27 fun a hf=>?_)
 refine sB 2 hf H TF.sz27 fun w H=>?_
 refine wer ?_
 have H:=H.rowOwn 1 rfl rfl
 obtain ⟨F10,H⟩:=H.freezeOwn 1 rfl
 have H:=H.lend 0 rfl
 have H:=H.rowOwn 0 rfl rfl
 obtain ⟨F11,H⟩:=H.freezeOwn 0 rfl
 have H:=H.lend 0 rfl
 have H:=H.frontD 1 rfl
 obtain rfl:=oi hF
 refine xi hf rfl (um hf H 2 TF.la27 rfl rfl rfl) ?_
 have hN:=H.endsB2 3 rfl
 exact ⟨_,rfl,H.chg,_,H.boxAt 3 rfl,(ud (x:=y6.2) (eB 3 (H.get 2 rfl))),⟨fxc hx17,hx17⟩,(F10++F11),⟨_,vw (x:=({ Nodes:=y.1.Nodes,Fibers:=y.1.Fibers.set (y2.1:Int).toNat ({ A:=e.A,B:=w64 (y6.1 - 1),Length:=e.Length,Risk:=e.Risk }:Fiber) }:Network)) (H.ownAt 0 rfl) (H.ownAt 1 rfl),rfl⟩,by first | exact hN | simpa using hN⟩
 refine sqz (pz 2 hf fun a hf=>?_)
 refine ub (ua (ib hF hf (fun hc5 hF=>?_) fun hc5 hF=>?_))
 refine reg (pz 1 hf fun a hf=>?_)
 refine wl0 rfl (bl hf H 3 ([0,1,5000,5001]:List Int) [(.int .i64 0),(.int .i64 1),(.int .i64 5000),(.int .i64 5001)] (elI [0,1,5000,5001]) fun A11 a w hf H=>?_)
 have H:=H.freeze 0 rfl
 obtain ⟨y7,hy7,hF⟩:=bs_ hF
 refine oc hf TF.gcq (uJ (S:=NB b0) (H.boxAt 3 rfl) ((ud (x:=y3.2) (H.nb 3 rfl (H.get 1 rfl)))) (fun h=>h rfl) (uB (H.nb 3 rfl (H.get 0 rfl))) hy7) fun v7 w a hp9 hf=>?_
 obtain ⟨hch7,cs13,hbx7,hr13,⟨hx18,hx19⟩,hs7⟩:=hp9
 obtain rfl:=uv hs7
 obtain ⟨A12,c11,rfl,hl10⟩:=uc hr13
 obtain ⟨rfl,rfl⟩:=un hx18 rfl rfl
 have hx20:=hx19.trans hx8
 have H:=H.wroteBox 3 rfl hch7 hbx7
 have H:=H.pX 1 rfl hx19
 refine pz 1 hf fun a hf=>?_
 refine sB 0 hf H TF.sz3 fun w H=>?_
 have hf:=hf.pn [2,3,4,5]
 refine ub (uV (ua (sqz (pz 1 hf fun a hf=>?_))))
 refine lB 1 hf H TF.ls25 fun a hf=>?_
 refine pz 1 hf fun a hf=>?_
 refine lN 0 hf H TF.gas fun a hf=>?_
 obtain ⟨e6,he6,hF⟩:=bs_ hF
 refine wl0 rfl (vD hf H Tryz.underlying25 TF.zc 0 rfl rfl rfl he6 (by decide) fun p6 o7 cs14 a hf hA6 hr14 hk6=>?_)
 obtain rfl:=uZ hr14
 refine wl0 rfl (xj (e':=({ A:=e.A,B:=e.B,Length:=y7.1,Risk:=e.Risk }:Fiber)) (o:=o7) (off:=0) hf H TF.zc 0 rfl rfl rfl rfl rfl (nle rfl) rfl hA6 he6 (yU (zr (x:=({ A:=e.A,B:=e.B,Length:=y7.1,Risk:=e.Risk }:Fiber)))) fun w H=>?_)
 replace hf:Fr a 104 [(2,(.pointer (some ⟨b2,0,none⟩))),(3,(.pointer (some ⟨b3,0,none⟩))),(4,(.int .i64 y2.1)),(5,(.pointer (some ⟨b4,0,none⟩))),(98,(.pointer (some ⟨b3,1,none⟩))),(99,(.slice A3 y.1.Fibers.length c4)),(100,(.int .i64 y2.1)),(101,(.agg #[(.int .i64 e.A),(.int .i64 e.B),(.int .i64 y7.1),(.int .i64 e.Risk)])),(102,(.pointer (some ⟨p6,o7 + 0,none⟩)))]:=hf.prune [2,3,4,5,98,99,100,101,102] rfl
 replace hf:Fr a 104 [(2,(.pointer (some ⟨b2,0,none⟩))),(3,(.pointer (some ⟨b3,0,none⟩))),(4,(.int .i64 y2.1)),(5,(.pointer (some ⟨b4,0,none⟩))),(98,(.pointer (some ⟨b3,1,none⟩))),(99,(.slice A3 (y.1.Fibers.set (y2.1:Int).toNat ({ A:=e.A,B:=e.B,Length:=y7.1,Risk:=e.Risk }:Fiber)).length c4)),(100,(.int .i64 y2.1)),(101,(.agg #[(.int .i64 e.A),(.int .i64 e.B),(.int .i64 y7.1),(.int .i64 e.Risk)])),(102,(.pointer (some ⟨p6,o7 + 0,none⟩)))]:=by simpa only [List.length_set,Nat.add_zero] using hf
 replace H:Mem ⟨w0,[b0]⟩ S [⟨b4,180,[(.int .i64 e.A),(.int .i64 e.B),(.int .i64 y7.1),(.int .i64 e.Risk)]⟩,⟨b3,27,[(.slice A2 y.1.Nodes.length c3),(.slice A3 (y.1.Fibers.set (y2.1:Int).toNat ({ A:=e.A,B:=e.B,Length:=y7.1,Risk:=e.Risk }:Fiber)).length c4)]⟩,⟨b2,27,[(.slice none 0 0),(.slice none 0 0)]⟩,⟨b0,109,[(.slice A y7.2.code.length c2),(.int .i64 y7.2.at_),(.int .u64 y7.2.seed.n)]⟩] [⟨.sh true,E2,A3,c4,(y.1.Fibers.set (y2.1:Int).toNat ({ A:=e.A,B:=e.B,Length:=y7.1,Risk:=e.Risk }:Fiber):List Fiber)⟩,⟨.sh true,E,A2,c3,(y.1.Nodes:List ByteArray)⟩] [] [(false,MP.val [(.slice A y7.2.code.length c2)] (y7.2.code:List By)),(true,MP.val [(.slice A11 4 4)] ([0,1,5000,5001]:List Int)),(false,MP.val [(.slice A y3.2.code.length c2)] (y3.2.code:List By)),(false,MP.val [(.slice A y2.2.code.length c2)] (y2.2.code:List By)),(false,MP.val [(.slice A y.2.code.length c2)] (y.2.code:List By)),(false,MP.val [(.slice A c.code.length c2)] (c.code:List By))] w:=by first | (simp only [List.length_set]; exact H) | (simp only [List.length_set] at H ⊢; exact H)
 refine wr (lN 1 hf H TF.la27 fun a hf=>?_)
 refine sB 2 hf H TF.sz27 fun w H=>?_
 refine wer ?_
 have H:=H.rowOwn 1 rfl rfl
 obtain ⟨F12,H⟩:=H.freezeOwn 1 rfl
 have H:=H.lend 0 rfl
 have H:=H.rowOwn 0 rfl rfl
 obtain ⟨F13,H⟩:=H.freezeOwn 0 rfl
 have H:=H.lend 0 rfl
 have H:=H.frontD 1 rfl
 obtain rfl:=oi hF
 refine xi hf rfl (um hf H 2 TF.la27 rfl rfl rfl) ?_
 have hN:=H.endsB2 3 rfl
 exact ⟨_,rfl,H.chg,_,H.boxAt 3 rfl,(ud (x:=y7.2) (eB 3 (H.get 2 rfl))),⟨fxc hx20,hx20⟩,(F12++F13),⟨_,vw (x:=({ Nodes:=y.1.Nodes,Fibers:=y.1.Fibers.set (y2.1:Int).toNat ({ A:=e.A,B:=e.B,Length:=y7.1,Risk:=e.Risk }:Fiber) }:Network)) (H.ownAt 0 rfl) (H.ownAt 1 rfl),rfl⟩,by first | exact hN | simpa using hN⟩
 refine sqz (pz 2 hf fun a hf=>?_)
 refine ub (ua (ib hF hf (fun hc6 hF=>?_) fun hc6 hF=>?_))
 refine reg (pz 1 hf fun a hf=>?_)
 refine wl0 rfl (bl hf H 3 ([(-1),9,10]:List Int) [(.int .i64 (-1)),(.int .i64 9),(.int .i64 10)] (elI [(-1),9,10]) fun A13 a w hf H=>?_)
 have H:=H.freeze 0 rfl
 obtain ⟨y8,hy8,hF⟩:=bs_ hF
 refine oc hf TF.gcq (uJ (S:=NB b0) (H.boxAt 3 rfl) ((ud (x:=y3.2) (H.nb 3 rfl (H.get 1 rfl)))) (fun h=>h rfl) (uB (H.nb 3 rfl (H.get 0 rfl))) hy8) fun v8 w a hp10 hf=>?_
 obtain ⟨hch8,cs15,hbx8,hr15,⟨hx21,hx22⟩,hs8⟩:=hp10
 obtain rfl:=uv hs8
 obtain ⟨A14,c12,rfl,hl11⟩:=uc hr15
 obtain ⟨rfl,rfl⟩:=un hx21 rfl rfl
 have hx23:=hx22.trans hx8
 have H:=H.wroteBox 3 rfl hch8 hbx8
 have H:=H.pX 1 rfl hx22
 refine pz 1 hf fun a hf=>?_
 refine sB 0 hf H TF.sz3 fun w H=>?_
 have hf:=hf.pn [2,3,4,5]
 refine ub (uV (ua (sqz (pz 1 hf fun a hf=>?_))))
 refine lB 1 hf H TF.ls25 fun a hf=>?_
 refine pz 1 hf fun a hf=>?_
 refine lN 0 hf H TF.gas fun a hf=>?_
 obtain ⟨e7,he7,hF⟩:=bs_ hF
 refine wl0 rfl (vD hf H Tryz.underlying25 TF.zc 0 rfl rfl rfl he7 (by decide) fun p7 o8 cs16 a hf hA7 hr16 hk7=>?_)
 obtain rfl:=uZ hr16
 refine wl0 rfl (xj (e':=({ A:=e.A,B:=e.B,Length:=e.Length,Risk:=y8.1 }:Fiber)) (o:=o8) (off:=0) hf H TF.zc 0 rfl rfl rfl rfl rfl (nle rfl) rfl hA7 he7 (yU (zr (x:=({ A:=e.A,B:=e.B,Length:=e.Length,Risk:=y8.1 }:Fiber)))) fun w H=>?_)
 replace hf:Fr a 104 [(2,(.pointer (some ⟨b2,0,none⟩))),(3,(.pointer (some ⟨b3,0,none⟩))),(4,(.int .i64 y2.1)),(5,(.pointer (some ⟨b4,0,none⟩))),(98,(.pointer (some ⟨b3,1,none⟩))),(99,(.slice A3 y.1.Fibers.length c4)),(100,(.int .i64 y2.1)),(101,(.agg #[(.int .i64 e.A),(.int .i64 e.B),(.int .i64 e.Length),(.int .i64 y8.1)])),(102,(.pointer (some ⟨p7,o8 + 0,none⟩)))]:=hf.prune [2,3,4,5,98,99,100,101,102] rfl
 replace hf:Fr a 104 [(2,(.pointer (some ⟨b2,0,none⟩))),(3,(.pointer (some ⟨b3,0,none⟩))),(4,(.int .i64 y2.1)),(5,(.pointer (some ⟨b4,0,none⟩))),(98,(.pointer (some ⟨b3,1,none⟩))),(99,(.slice A3 (y.1.Fibers.set (y2.1:Int).toNat ({ A:=e.A,B:=e.B,Length:=e.Length,Risk:=y8.1 }:Fiber)).length c4)),(100,(.int .i64 y2.1)),(101,(.agg #[(.int .i64 e.A),(.int .i64 e.B),(.int .i64 e.Length),(.int .i64 y8.1)])),(102,(.pointer (some ⟨p7,o8 + 0,none⟩)))]:=by simpa only [List.length_set,Nat.add_zero] using hf
 replace H:Mem ⟨w0,[b0]⟩ S [⟨b4,180,[(.int .i64 e.A),(.int .i64 e.B),(.int .i64 e.Length),(.int .i64 y8.1)]⟩,⟨b3,27,[(.slice A2 y.1.Nodes.length c3),(.slice A3 (y.1.Fibers.set (y2.1:Int).toNat ({ A:=e.A,B:=e.B,Length:=e.Length,Risk:=y8.1 }:Fiber)).length c4)]⟩,⟨b2,27,[(.slice none 0 0),(.slice none 0 0)]⟩,⟨b0,109,[(.slice A y8.2.code.length c2),(.int .i64 y8.2.at_),(.int .u64 y8.2.seed.n)]⟩] [⟨.sh true,E2,A3,c4,(y.1.Fibers.set (y2.1:Int).toNat ({ A:=e.A,B:=e.B,Length:=e.Length,Risk:=y8.1 }:Fiber):List Fiber)⟩,⟨.sh true,E,A2,c3,(y.1.Nodes:List ByteArray)⟩] [] [(false,MP.val [(.slice A y8.2.code.length c2)] (y8.2.code:List By)),(true,MP.val [(.slice A13 3 3)] ([(-1),9,10]:List Int)),(false,MP.val [(.slice A y3.2.code.length c2)] (y3.2.code:List By)),(false,MP.val [(.slice A y2.2.code.length c2)] (y2.2.code:List By)),(false,MP.val [(.slice A y.2.code.length c2)] (y.2.code:List By)),(false,MP.val [(.slice A c.code.length c2)] (c.code:List By))] w:=by first | (simp only [List.length_set]; exact H) | (simp only [List.length_set] at H ⊢; exact H)
 refine wr (lN 1 hf H TF.la27 fun a hf=>?_)
 refine sB 2 hf H TF.sz27 fun w H=>?_
 refine wer ?_
 have H:=H.rowOwn 1 rfl rfl
 obtain ⟨F14,H⟩:=H.freezeOwn 1 rfl
 have H:=H.lend 0 rfl
 have H:=H.rowOwn 0 rfl rfl
 obtain ⟨F15,H⟩:=H.freezeOwn 0 rfl
 have H:=H.lend 0 rfl
 have H:=H.frontD 1 rfl
 obtain rfl:=oi hF
 refine xi hf rfl (um hf H 2 TF.la27 rfl rfl rfl) ?_
 have hN:=H.endsB2 3 rfl
 exact ⟨_,rfl,H.chg,_,H.boxAt 3 rfl,(ud (x:=y8.2) (eB 3 (H.get 2 rfl))),⟨fxc hx23,hx23⟩,(F14++F15),⟨_,vw (x:=({ Nodes:=y.1.Nodes,Fibers:=y.1.Fibers.set (y2.1:Int).toNat ({ A:=e.A,B:=e.B,Length:=e.Length,Risk:=y8.1 }:Fiber) }:Network)) (H.ownAt 0 rfl) (H.ownAt 1 rfl),rfl⟩,by first | exact hN | simpa using hN⟩
 refine sqz (pz 2 hf fun a hf=>?_)
 refine ub (ua (ib hF hf (fun hc7 hF=>?_) fun hc7 hF=>?_))
 refine dw [7,9] 10 fun w hb=>?_
 have H:=H.keep hb
 refine zp 0 hf trivial fun a hf=>?_
 refine strT (H.lk 2 0 0 []) (fun w H=>trivial) fun hS=>?_
 refine zS 1 [1,7,8,9] rfl rfl rfl rfl hf hS (fun w H=>ue hf H TF.ls25 0 rfl rfl rfl) fun a hf=>?_
 refine zp 2 hf hS fun a hf=>?_
 refine zS 3 [3,4,5,6,7,8,9] rfl rfl rfl rfl hf hS (fun w H=>ue hf H TF.ls25 0 rfl rfl rfl) fun a hf=>?_
 obtain ⟨e8,he8,hF⟩:=bs_ hF
 obtain ⟨p8,o9,hA8,hx24⟩:=zM H Tryz.underlying25 TF.zc 0 rfl he8
 refine zP 4 rfl rfl rfl rfl hf hS (fun w=>uu hf rfl rfl rfl hx24 w) fun a hf=>?_
 refine strT (H.lk 2 1 0 []) (fun w H=>H.lk 1 0 0 []) fun hS=>?_
 refine zS 5 [5,6,7,8,9] rfl rfl rfl rfl hf hS (fun w H=>geh (off:=0) hf H TF.gas 0 rfl rfl hA8 he8 rfl (fun w T cs h=>by obtain rfl:=uZ h; rfl)) fun a hf=>?_
 refine nn 6 rfl (bl hf H 180 ([e8]:List Fiber) [(.int .i64 e8.A),(.int .i64 e8.B),(.int .i64 e8.Length),(.int .i64 e8.Risk)] (el1 (y:=e8) ((zr (x:=e8)))) fun A15 a w hf H=>?_)
 have hS:=H.lk 2 2 0 []
 refine aS hS ?_
 obtain ⟨l,hl_,hF⟩:=bs_ hF
 refine nn 7 rfl (xg hf H Tryz.underlying25 TF.gcd rfl (by decide) 1 0 rfl rfl rfl rfl (.inr rfl) hl_ (by decide) fun E3 A16 c13 a w hf H=>?_)
 refine ⟨fun h=>absurd h (by decide),?_⟩
 refine tp 8 rfl rfl hf (by kernel_rfl) (fun h=>absurd h (by decide)) rfl fun a hf=>?_
 refine nn 9 rfl (uh hf H 1 TF.sz25 rfl rfl rfl rfl rfl rfl (nle rfl) fun w H=>?_)
 refine ⟨fun h=>absurd h (by decide),?_⟩
 refine dk ?_
 have hf:=hf.pn [2,3,4,5]
 refine uV (ua (sqz (pz 1 hf fun a hf=>?_)))
 refine lB 1 hf H TF.ls25 fun a hf=>?_
 refine pz 1 hf fun a hf=>?_
 refine lN 0 hf H TF.gas fun a hf=>?_
 obtain ⟨e9,he9,hF⟩:=bs_ hF
 refine wl0 rfl (vD hf H Tryz.underlying25 TF.zc 1 rfl rfl rfl he9 (by decide) fun p9 o10 cs17 a hf hA9 hr17 hk8=>?_)
 obtain rfl:=uZ hr17
 refine wl0 rfl (xj (e':=e) (o:=o10) (off:=0) hf H TF.zc 1 rfl rfl rfl rfl rfl (nle rfl) rfl hA9 he9 (yU (zr (x:=e))) fun w H=>?_)
 replace hf:Fr a 104 [(2,(.pointer (some ⟨b2,0,none⟩))),(3,(.pointer (some ⟨b3,0,none⟩))),(4,(.int .i64 y2.1)),(5,(.pointer (some ⟨b4,0,none⟩))),(98,(.pointer (some ⟨b3,1,none⟩))),(99,(.slice A16 l.length c13)),(100,(.int .i64 y2.1)),(101,(.agg #[(.int .i64 e.A),(.int .i64 e.B),(.int .i64 e.Length),(.int .i64 e.Risk)])),(102,(.pointer (some ⟨p9,o10 + 0,none⟩)))]:=hf.prune [2,3,4,5,98,99,100,101,102] rfl
 replace hf:Fr a 104 [(2,(.pointer (some ⟨b2,0,none⟩))),(3,(.pointer (some ⟨b3,0,none⟩))),(4,(.int .i64 y2.1)),(5,(.pointer (some ⟨b4,0,none⟩))),(98,(.pointer (some ⟨b3,1,none⟩))),(99,(.slice A16 (l.set (y2.1:Int).toNat e).length c13)),(100,(.int .i64 y2.1)),(101,(.agg #[(.int .i64 e.A),(.int .i64 e.B),(.int .i64 e.Length),(.int .i64 e.Risk)])),(102,(.pointer (some ⟨p9,o10 + 0,none⟩)))]:=by simpa only [List.length_set,Nat.add_zero] using hf
 replace H:Mem ⟨w0,[b0]⟩ S [⟨b4,180,[(.int .i64 e.A),(.int .i64 e.B),(.int .i64 e.Length),(.int .i64 e.Risk)]⟩,⟨b3,27,[(.slice A2 y.1.Nodes.length c3),(.slice A16 (l.set (y2.1:Int).toNat e).length c13)]⟩,⟨b2,27,[(.slice none 0 0),(.slice none 0 0)]⟩,⟨b0,109,[(.slice A y3.2.code.length c2),(.int .i64 y3.2.at_),(.int .u64 y3.2.seed.n)]⟩] [⟨.sh true,180,A15,1,([e8]:List Fiber)⟩,⟨.sh true,E3,A16,c13,(l.set (y2.1:Int).toNat e:List Fiber)⟩,⟨.sh true,E,A2,c3,(y.1.Nodes:List ByteArray)⟩] [] [(false,MP.val [(.slice A y3.2.code.length c2)] (y3.2.code:List By)),(false,MP.val [(.slice A y2.2.code.length c2)] (y2.2.code:List By)),(false,MP.val [(.slice A y.2.code.length c2)] (y.2.code:List By)),(false,MP.val [(.slice A c.code.length c2)] (c.code:List By))] w:=by first | (simp only [List.length_set]; exact H) | (simp only [List.length_set] at H ⊢; exact H)
 refine wr (lN 1 hf H TF.la27 fun a hf=>?_)
 refine sB 2 hf H TF.sz27 fun w H=>?_
 refine wer ?_
 have H:=H.rowOwn 2 rfl rfl
 obtain ⟨F16,H⟩:=H.freezeOwn 2 rfl
 have H:=H.lend 0 rfl
 have H:=H.rowOwn 1 rfl rfl
 obtain ⟨F17,H⟩:=H.freezeOwn 1 rfl
 have H:=H.lend 0 rfl
 have H:=H.frontD 1 rfl
 obtain rfl:=oi hF
 refine xi hf rfl (um hf H 2 TF.la27 rfl rfl rfl) ?_
 have hN:=H.endsB2 3 rfl
 exact ⟨_,rfl,H.chg,_,H.boxAt 3 rfl,(ud (x:=y3.2) (eB 3 (H.get 2 rfl))),⟨fxc hx8,hx8⟩,(F16++F17),⟨_,vw (x:=({ Nodes:=y.1.Nodes,Fibers:=l.set (y2.1:Int).toNat e }:Network)) (H.ownAt 0 rfl) (H.ownAt 1 rfl),rfl⟩,by first | exact hN | simpa using hN⟩
 refine sqz (pz 2 hf fun a hf=>?_)
 have hf:=hf.pn [0,2,3,4,5,24,68]
 refine ub (ua (ib hF hf (fun hc8 hF=>?_) fun hc8 hF=>?_))
 refine sq ?_
 obtain ⟨out',hB1,hF⟩:=bs_ hF
 have hf:=hf.pn [0,2,3]
 have H:=H.lk 14 3 0 [0]
 refine vU (fun (s:List Fiber×List By×Int×U64) (a:Act) (w:World)=>match s with | (m,m2,m3,m4)=>∃ (A17:Option Addr) (c14:Nat) (E4:Go.TypeId),m2=c.code∧Fr a 104 [(0,(.pointer (some ⟨b0,0,none⟩))),(2,(.pointer (some ⟨b2,0,none⟩))),(3,(.pointer (some ⟨b3,0,none⟩)))]∧Mem ⟨w0,[b0]⟩ S [⟨b3,27,[(.slice A2 y.1.Nodes.length c3),(.slice A17 m.length c14)]⟩,⟨b2,27,[(.slice none 0 0),(.slice none 0 0)]⟩,⟨b0,109,[(.slice A m2.length c2),(.int .i64 m3),(.int .u64 m4.n)]⟩] [⟨.sh true,E4,A17,c14,(m:List Fiber)⟩,⟨.sh true,E,A2,c3,(y.1.Nodes:List ByteArray)⟩] [] [(false,MP.val [(.slice A m2.length c2)] (m2:List By))] w) (fun k (s:List Fiber×List By×Int×U64)=>vx fu k s.1 s.2.1 s.2.2.1 s.2.2.2=some out') (fun s=>out'=s) (y.1.Fibers,y3.2.code,y3.2.at_,y3.2.seed) fu hB1 ⟨A3,c4,E2,hx8,hf,H⟩ (fun s h=>by cases h) ?_ ?_
 rintro fk ⟨m,m2,m3,m4⟩ a w hR1 hI
 replace hR1:vx fu (fk + 1) m m2 m3 m4=some out':=hR1
 rw [vx] at hR1
 obtain ⟨A17,c14,E4,hsm,hf,H⟩:=hI
 refine sq (sq (dw [] 7 fun w hb=>?_))
 have H:=H.keep hb
 refine zp 0 hf trivial fun a hf=>?_
 refine strT (H.lk 1 0 0 []) (fun w H=>trivial) fun hS=>?_
 refine zS 1 [] rfl rfl rfl rfl hf hS (fun w H=>ue hf H TF.ls25 0 rfl rfl rfl) fun a hf=>?_
 refine zp 2 hf hS fun a hf=>?_
 refine zp 3 hf hS fun a hf=>?_
 obtain ⟨y9,hy9,hR1⟩:=bs_ hR1
 refine nn 4 rfl (oC hf TF.yJ (ui (S:=NB b0) (H.boxAt 2 rfl) ((ud (x:=({ code:=m2,at_:=m3,seed:=m4 }:L1CurP)) (H.nb 2 rfl (H.get 0 rfl)))) (fun h=>h rfl) ug hy9) fun v9 w a hp11 hf=>?_)
 obtain ⟨hch9,cs18,hbx9,hr18,⟨hx25,hx26⟩,hs9⟩:=hp11
 obtain rfl:=uv hs9
 obtain ⟨A18,c15,rfl,hl12⟩:=uc hr18
 obtain ⟨rfl,rfl⟩:=un hx25 rfl rfl
 have hx27:=hx26.trans hsm
 have H:=H.wroteBox 2 rfl hch9 hbx9
 have H:=H.pX 0 rfl hx26
 have hS:=H.lk 1 0 0 []
 refine aS hS ?_
 refine zp 5 hf hS fun a hf=>?_
 refine zp 6 hf hS fun a hf=>?_
 refine dk ?_
 refine ua (ib hR1 hf (fun hc9 hR1=>?_) fun hc9 hR1=>?_)
 refine wp_skip (ua (wp_block (dw [11,13] 14 fun w hb=>?_)))
 have H:=H.keep hb
 refine zp 0 hf trivial fun a hf=>?_
 refine strT (H.lk 1 0 0 []) (fun w H=>trivial) fun hS=>?_
 refine zS 1 [1,11,12,13] rfl rfl rfl rfl hf hS (fun w H=>ue hf H TF.ls25 0 rfl rfl rfl) fun a hf=>?_
 refine zp 2 hf hS fun a hf=>?_
 refine zS 3 [3,8,9,10,11,12,13] rfl rfl rfl rfl hf hS (fun w H=>ue hf H TF.ls25 0 rfl rfl rfl) fun a hf=>?_
 refine zp 4 hf hS fun a hf=>?_
 refine zS 5 [5,6,7,8,9,10,11,12,13] rfl rfl rfl rfl hf hS (fun w H=>ue hf H TF.ls25 0 rfl rfl rfl) fun a hf=>?_
 refine zp 6 hf hS fun a hf=>?_
 refine zp 7 hf hS fun a hf=>?_
 obtain ⟨e10,he10,hR1⟩:=bs_ hR1
 obtain ⟨p10,o11,hA10,hx28⟩:=zM H Tryz.underlying25 TF.zc 0 rfl he10
 refine zP 8 rfl rfl rfl rfl hf hS (fun w=>uu hf rfl rfl rfl hx28 w) fun a hf=>?_
 refine strT (H.lk 1 1 0 []) (fun w H=>H.lk 1 0 0 []) fun hS=>?_
 refine zS 9 [9,10,11,12,13] rfl rfl rfl rfl hf hS (fun w H=>geh (off:=0) hf H TF.gas 0 rfl rfl hA10 he10 rfl (fun w T cs h=>by obtain rfl:=uZ h; rfl)) fun a hf=>?_
 refine nn 10 rfl (bl hf H 180 ([e10]:List Fiber) [(.int .i64 e10.A),(.int .i64 e10.B),(.int .i64 e10.Length),(.int .i64 e10.Risk)] (el1 (y:=e10) ((zr (x:=e10)))) fun A19 a w hf H=>?_)
 have hS:=H.lk 1 2 0 []
 refine aS hS ?_
 obtain ⟨l2,hl2_,hR1⟩:=bs_ hR1
 refine nn 11 rfl (xg hf H Tryz.underlying25 TF.gcd rfl (by decide) 1 0 rfl rfl rfl rfl (.inr rfl) hl2_ (by decide) fun E5 A20 c16 a w hf H=>?_)
 refine ⟨fun h=>absurd h (by decide),?_⟩
 refine tp 12 rfl rfl hf (by kernel_rfl) (fun h=>absurd h (by decide)) rfl fun a hf=>?_
 refine nn 13 rfl (uh hf H 0 TF.sz25 rfl rfl rfl rfl rfl rfl (nle rfl) fun w H=>?_)
 refine ⟨fun h=>absurd h (by decide),?_⟩
 refine dk ?_
 have hf:=hf.pn [0,2,3]
 refine uV ?_
 have hf:=hf.pn [0,2,3]
 have H:=H.lk 7 6 0 [0]
 exact ua ⟨(l2,y9.2.code,y9.2.at_,y9.2.seed),hR1,A20,c16,E5,hx27,hf,H⟩
 refine wp_exit (uy (uy (vJ (?_))))
 have hf:=hf.pn [0,2,3]
 have H:=H.lk 7 3 0 [0]
 exact ⟨(m,y9.2.code,y9.2.at_,y9.2.seed),(Option.some.inj hR1).symm,A17,c14,E4,hx27,hf,H⟩
 rintro a w ⟨⟨m5,m6,m7,m8⟩,rfl,A21,c17,E6,hsm,hf,H⟩
 try dsimp only at hsm
 try dsimp only at hF
 refine ua (sq (reg (lN 0 hf H TF.la27 fun a hf=>?_)))
 refine sB 1 hf H TF.sz27 fun w H=>?_
 refine ub (ua (wp_ret (u9 (uf (?_)))))
 have H:=H.rowOwn 1 rfl rfl
 obtain ⟨F18,H⟩:=H.freezeOwn 1 rfl
 have H:=H.lend 0 rfl
 have H:=H.rowOwn 0 rfl rfl
 obtain ⟨F19,H⟩:=H.freezeOwn 0 rfl
 have H:=H.lend 0 rfl
 have H:=H.frontD 1 rfl
 obtain rfl:=oi hF
 refine xi hf rfl (um hf H 1 TF.la27 rfl rfl rfl) ?_
 have hN:=H.endsB2 2 rfl
 exact ⟨_,rfl,H.chg,_,H.boxAt 2 rfl,(ud (x:=({ code:=m6,at_:=m7,seed:=m8 }:L1CurP)) (eB 2 (H.get 2 rfl))),⟨fxc hsm,hsm⟩,(F18++F19),⟨_,vw (x:=({ Nodes:=y.1.Nodes,Fibers:=m5 }:Network)) (H.ownAt 0 rfl) (H.ownAt 1 rfl),rfl⟩,by first | exact hN | simpa using hN⟩
 refine sqz (pz 2 hf fun a hf=>?_)
 refine ub (ua (ib hF hf (fun hc10 hF=>?_) fun hc10 hF=>?_))
 refine reg (pz 1 hf fun a hf=>?_)
 refine lB 1 hf H TF.ls24 fun a hf=>?_
 refine wl0 rfl (bl hf H 9 ([(⟨#[112]⟩:ByteArray),(⟨#[113]⟩:ByteArray),(⟨#[114]⟩:ByteArray),(⟨#[115]⟩:ByteArray)]:List ByteArray) [(.string (⟨#[112]⟩:ByteArray)),(.string (⟨#[113]⟩:ByteArray)),(.string (⟨#[114]⟩:ByteArray)),(.string (⟨#[115]⟩:ByteArray))] (elL [([(.string (⟨#[112]⟩:ByteArray))],((⟨#[112]⟩:ByteArray):ByteArray)),([(.string (⟨#[113]⟩:ByteArray))],((⟨#[113]⟩:ByteArray):ByteArray)),([(.string (⟨#[114]⟩:ByteArray))],((⟨#[114]⟩:ByteArray):ByteArray)),([(.string (⟨#[115]⟩:ByteArray))],((⟨#[115]⟩:ByteArray):ByteArray))] (al1 (x:=((⟨#[112]⟩:ByteArray):ByteArray)) (rfl) (al1 (x:=((⟨#[113]⟩:ByteArray):ByteArray)) (rfl) (al1 (x:=((⟨#[114]⟩:ByteArray):ByteArray)) (rfl) (al1 (x:=((⟨#[115]⟩:ByteArray):ByteArray)) (rfl) al0))))) fun A22 a w hf H=>?_)
 obtain ⟨l3,hl3_,hF⟩:=bs_ hF
 refine wl0 rfl (xg hf H Tryz.underlying24 TF.ai9 rfl (by decide) 2 0 rfl rfl rfl rfl (.inr rfl) hl3_ (by decide) fun E7 A23 c18 a w hf H=>?_)
 refine pz 1 hf fun a hf=>?_
 refine sB 1 hf H TF.sz24 fun w H=>?_
 refine ub (uV (ua (sqz (pz 1 hf fun a hf=>?_))))
 refine lB 1 hf H TF.ls25 fun a hf=>?_
 refine pz 1 hf fun a hf=>?_
 refine lN 0 hf H TF.gas fun a hf=>?_
 obtain ⟨e11,he11,hF⟩:=bs_ hF
 refine wl0 rfl (vD hf H Tryz.underlying25 TF.zc 1 rfl rfl rfl he11 (by decide) fun p11 o12 cs19 a hf hA11 hr19 hk9=>?_)
 obtain rfl:=uZ hr19
 refine wl0 rfl (xj (e':=e) (o:=o12) (off:=0) hf H TF.zc 1 rfl rfl rfl rfl rfl (nle rfl) rfl hA11 he11 (yU (zr (x:=e))) fun w H=>?_)
 replace hf:Fr a 104 [(2,(.pointer (some ⟨b2,0,none⟩))),(3,(.pointer (some ⟨b3,0,none⟩))),(4,(.int .i64 y2.1)),(5,(.pointer (some ⟨b4,0,none⟩))),(98,(.pointer (some ⟨b3,1,none⟩))),(99,(.slice A3 y.1.Fibers.length c4)),(100,(.int .i64 y2.1)),(101,(.agg #[(.int .i64 e.A),(.int .i64 e.B),(.int .i64 e.Length),(.int .i64 e.Risk)])),(102,(.pointer (some ⟨p11,o12 + 0,none⟩)))]:=hf.prune [2,3,4,5,98,99,100,101,102] rfl
 replace hf:Fr a 104 [(2,(.pointer (some ⟨b2,0,none⟩))),(3,(.pointer (some ⟨b3,0,none⟩))),(4,(.int .i64 y2.1)),(5,(.pointer (some ⟨b4,0,none⟩))),(98,(.pointer (some ⟨b3,1,none⟩))),(99,(.slice A3 (y.1.Fibers.set (y2.1:Int).toNat e).length c4)),(100,(.int .i64 y2.1)),(101,(.agg #[(.int .i64 e.A),(.int .i64 e.B),(.int .i64 e.Length),(.int .i64 e.Risk)])),(102,(.pointer (some ⟨p11,o12 + 0,none⟩)))]:=by simpa only [List.length_set,Nat.add_zero] using hf
 replace H:Mem ⟨w0,[b0]⟩ S [⟨b4,180,[(.int .i64 e.A),(.int .i64 e.B),(.int .i64 e.Length),(.int .i64 e.Risk)]⟩,⟨b3,27,[(.slice A23 l3.length c18),(.slice A3 (y.1.Fibers.set (y2.1:Int).toNat e).length c4)]⟩,⟨b2,27,[(.slice none 0 0),(.slice none 0 0)]⟩,⟨b0,109,[(.slice A y3.2.code.length c2),(.int .i64 y3.2.at_),(.int .u64 y3.2.seed.n)]⟩] [⟨.sh true,9,A22,4,([(⟨#[112]⟩:ByteArray),(⟨#[113]⟩:ByteArray),(⟨#[114]⟩:ByteArray),(⟨#[115]⟩:ByteArray)]:List ByteArray)⟩,⟨.sh true,E2,A3,c4,(y.1.Fibers.set (y2.1:Int).toNat e:List Fiber)⟩,⟨.sh true,E7,A23,c18,(l3:List ByteArray)⟩] [] [(false,MP.val [(.slice A y3.2.code.length c2)] (y3.2.code:List By)),(false,MP.val [(.slice A y2.2.code.length c2)] (y2.2.code:List By)),(false,MP.val [(.slice A y.2.code.length c2)] (y.2.code:List By)),(false,MP.val [(.slice A c.code.length c2)] (c.code:List By))] w:=by first | (simp only [List.length_set]; exact H) | (simp only [List.length_set] at H ⊢; exact H)
 refine wr (lN 1 hf H TF.la27 fun a hf=>?_)
 refine sB 2 hf H TF.sz27 fun w H=>?_
 refine wer ?_
 have H:=H.rowOwn 2 rfl rfl
 obtain ⟨F20,H⟩:=H.freezeOwn 2 rfl
 have H:=H.lend 0 rfl
 have H:=H.rowOwn 1 rfl rfl
 obtain ⟨F21,H⟩:=H.freezeOwn 1 rfl
 have H:=H.lend 0 rfl
 have H:=H.frontD 1 rfl
 obtain rfl:=oi hF
 refine xi hf rfl (um hf H 2 TF.la27 rfl rfl rfl) ?_
 have hN:=H.endsB2 3 rfl
 exact ⟨_,rfl,H.chg,_,H.boxAt 3 rfl,(ud (x:=y3.2) (eB 3 (H.get 2 rfl))),⟨fxc hx8,hx8⟩,(F20++F21),⟨_,vw (x:=({ Nodes:=l3,Fibers:=y.1.Fibers.set (y2.1:Int).toNat e }:Network)) (H.ownAt 0 rfl) (H.ownAt 1 rfl),rfl⟩,by first | exact hN | simpa using hN⟩
 refine wp_skip (uV (ua (sqz (pz 1 hf fun a hf=>?_))))
 refine lB 1 hf H TF.ls25 fun a hf=>?_
 refine pz 1 hf fun a hf=>?_
 refine lN 0 hf H TF.gas fun a hf=>?_
 obtain ⟨e12,he12,hF⟩:=bs_ hF
 refine wl0 rfl (vD hf H Tryz.underlying25 TF.zc 0 rfl rfl rfl he12 (by decide) fun p12 o13 cs20 a hf hA12 hr20 hk10=>?_)
 obtain rfl:=uZ hr20
 refine wl0 rfl (xj (e':=e) (o:=o13) (off:=0) hf H TF.zc 0 rfl rfl rfl rfl rfl (nle rfl) rfl hA12 he12 (yU (zr (x:=e))) fun w H=>?_)
 replace hf:Fr a 104 [(2,(.pointer (some ⟨b2,0,none⟩))),(3,(.pointer (some ⟨b3,0,none⟩))),(4,(.int .i64 y2.1)),(5,(.pointer (some ⟨b4,0,none⟩))),(98,(.pointer (some ⟨b3,1,none⟩))),(99,(.slice A3 y.1.Fibers.length c4)),(100,(.int .i64 y2.1)),(101,(.agg #[(.int .i64 e.A),(.int .i64 e.B),(.int .i64 e.Length),(.int .i64 e.Risk)])),(102,(.pointer (some ⟨p12,o13 + 0,none⟩)))]:=hf.prune [2,3,4,5,98,99,100,101,102] rfl
 replace hf:Fr a 104 [(2,(.pointer (some ⟨b2,0,none⟩))),(3,(.pointer (some ⟨b3,0,none⟩))),(4,(.int .i64 y2.1)),(5,(.pointer (some ⟨b4,0,none⟩))),(98,(.pointer (some ⟨b3,1,none⟩))),(99,(.slice A3 (y.1.Fibers.set (y2.1:Int).toNat e).length c4)),(100,(.int .i64 y2.1)),(101,(.agg #[(.int .i64 e.A),(.int .i64 e.B),(.int .i64 e.Length),(.int .i64 e.Risk)])),(102,(.pointer (some ⟨p12,o13 + 0,none⟩)))]:=by simpa only [List.length_set,Nat.add_zero] using hf
 replace H:Mem ⟨w0,[b0]⟩ S [⟨b4,180,[(.int .i64 e.A),(.int .i64 e.B),(.int .i64 e.Length),(.int .i64 e.Risk)]⟩,⟨b3,27,[(.slice A2 y.1.Nodes.length c3),(.slice A3 (y.1.Fibers.set (y2.1:Int).toNat e).length c4)]⟩,⟨b2,27,[(.slice none 0 0),(.slice none 0 0)]⟩,⟨b0,109,[(.slice A y3.2.code.length c2),(.int .i64 y3.2.at_),(.int .u64 y3.2.seed.n)]⟩] [⟨.sh true,E2,A3,c4,(y.1.Fibers.set (y2.1:Int).toNat e:List Fiber)⟩,⟨.sh true,E,A2,c3,(y.1.Nodes:List ByteArray)⟩] [] [(false,MP.val [(.slice A y3.2.code.length c2)] (y3.2.code:List By)),(false,MP.val [(.slice A y2.2.code.length c2)] (y2.2.code:List By)),(false,MP.val [(.slice A y.2.code.length c2)] (y.2.code:List By)),(false,MP.val [(.slice A c.code.length c2)] (c.code:List By))] w:=by first | (simp only [List.length_set]; exact H) | (simp only [List.length_set] at H ⊢; exact H)
 refine wr (lN 1 hf H TF.la27 fun a hf=>?_)
 refine sB 2 hf H TF.sz27 fun w H=>?_
 refine wer ?_
 have H:=H.rowOwn 1 rfl rfl
 obtain ⟨F22,H⟩:=H.freezeOwn 1 rfl
 have H:=H.lend 0 rfl
 have H:=H.rowOwn 0 rfl rfl
 obtain ⟨F23,H⟩:=H.freezeOwn 0 rfl
 have H:=H.lend 0 rfl
 have H:=H.frontD 1 rfl
 obtain rfl:=oi hF
 refine xi hf rfl (um hf H 2 TF.la27 rfl rfl rfl) ?_
 have hN:=H.endsB2 3 rfl
 exact ⟨_,rfl,H.chg,_,H.boxAt 3 rfl,(ud (x:=y3.2) (eB 3 (H.get 2 rfl))),⟨fxc hx8,hx8⟩,(F22++F23),⟨_,vw (x:=({ Nodes:=y.1.Nodes,Fibers:=y.1.Fibers.set (y2.1:Int).toNat e }:Network)) (H.ownAt 0 rfl) (H.ownAt 1 rfl),rfl⟩,by first | exact hN | simpa using hN⟩
theorem gcg {S:Nat→Prop} {b0:Nat} {cs0:List Value} {c:L1CurP} {r:Plan×L1CurP} (hp0:w0.heap[b0]?=some (.cells cs0.toArray 109 (0,0))) (hr0:GoTy.rep w0 S cs0 c) (hS0:¬S b0) (hF:yC fu c=some r) :
    Calls Tryz.prog 56 [(.pointer (some ⟨b0,0,none⟩))].toArray w0 fun e w'=>∃ v,e=.returned v∧(∃ cs',GoTy.rep w' (fun _=>True) cs' r.2∧(cs'[0]?=cs0[0]?∧r.2.code=c.code)∧(∃ (A0_0:Option Addr) (c0_0:Nat) (F0_0:List Nat) (A0_1:Option Addr) (c0_1:Nat) (F0_1:List Nat) (A0_2:Option Addr) (c0_2:Nat) (E0_2:Go.TypeId),v=(.agg #[(.slice A0_0 r.1.Network.Nodes.length c0_0),(.slice A0_1 r.1.Network.Fibers.length c0_1),(.slice A0_2 r.1.Lights.length c0_2)])∧Mem ⟨w0,[b0]⟩ S [⟨b0,109,cs'⟩] [⟨.sh true,E0_2,A0_2,c0_2,(r.1.Lights:List Light)⟩] [⟨F0_0,MP.own F0_0 [(.slice A0_0 r.1.Network.Nodes.length c0_0)] (r.1.Network.Nodes:List ByteArray)⟩,⟨F0_1,MP.own F0_1 [(.slice A0_1 r.1.Network.Fibers.length c0_1)] (r.1.Network.Fibers:List Fiber)⟩] [] w')):=by
 obtain ⟨A,c2,rfl,hl⟩:=uc hr0
 have H:=Mem.startB S hp0
 have H:=H.pB hS0 hl
 refine en Tryz.func56 fun a hf=>?_
 rw [yC] at hF
 refine sq (reg (aL hf H TF.zv30 fun b2 a w hf H=>?_))
 refine wr (pz 1 hf fun a hf=>?_)
 obtain ⟨y,hy,hF⟩:=bs_ hF
 refine oc hf TF.gkH (gai (S:=NB b0) (H.boxAt 1 rfl) ((ud (x:=c) (H.nb 1 rfl (H.get 0 rfl)))) (fun h=>h rfl) hy) fun v w a hp2 hf=>?_
 obtain ⟨cs2,hr2,⟨hx,hx2⟩,A2,c3,F,A3,c4,F2,A4,c5,E,rfl,Hc⟩:=hp2
 obtain ⟨A5,c6,rfl,hl2⟩:=uc hr2
 obtain ⟨rfl,rfl⟩:=un hx rfl rfl
 have H:=H.compB 1 rfl Hc (.inl rfl)
 have H:=H.pX 0 rfl hx2
 have H:=H.lend 0 rfl
 have H:=H.lend 1 rfl
 refine aL hf H TF.zv30 fun b3 a w hf H=>?_
 refine sB 0 hf H TF.sz30 fun w H=>?_
 refine we (sqz (pz 1 hf fun a hf=>?_))
 refine lB 0 hf H TF.ls28 fun a hf=>?_
 refine pz 2 hf fun a hf=>?_
 refine ub (ua (ib hF hf (fun hc hF=>?_) fun hc hF=>?_))
 refine sq (reg (lN 0 hf H TF.la30 fun a hf=>?_))
 refine sB 1 hf H TF.sz30 fun w H=>?_
 refine ub (ua (wp_ret (uf (?_))))
 have hcell:GoTy.rep w (fun _=>True) [(.slice A y.2.code.length c2),(.int .i64 y.2.at_),(.int .u64 y.2.seed.n)] (y.2:L1CurP):=(ud (x:=y.2) (H.rt 2 rfl))
 have H:=H.frontD 1 rfl
 have H:=H.frontD 1 rfl
 obtain rfl:=oi hF
 refine xi hf rfl (um hf H 1 TF.la30 rfl rfl rfl) ?_
 have H:=H.lk 4 1 3 []
 exact ⟨_,rfl,_,hcell,⟨fxc hx2,hx2⟩,A2,c3,F,A3,c4,F2,A4,c5,E,rfl,H⟩
 refine wp_skip (ua (sqz (pz 2 hf fun a hf=>?_)))
 refine lB 0 hf H TF.ls28 fun a hf=>?_
 refine pz 1 hf fun a hf=>?_
 obtain ⟨y2,hy2,hF⟩:=bs_ hF
 refine oc hf TF.yJ (ui (S:=NB b0) (H.boxAt 2 rfl) ((ud (x:=y.2) (H.nb 2 rfl (H.get 2 rfl)))) (fun h=>h rfl) ug hy2) fun v2 w a hp3 hf=>?_
 obtain ⟨hch,cs3,hbx,hr3,⟨hx3,hx4⟩,hs⟩:=hp3
 obtain rfl:=uv hs
 obtain ⟨A6,c7,rfl,hl3⟩:=uc hr3
 obtain ⟨rfl,rfl⟩:=un hx3 rfl rfl
 have hx5:=hx4.trans hx2
 have H:=H.wroteBox 2 rfl hch hbx
 have H:=H.pX 2 rfl hx4
 refine pz 1 hf fun a hf=>?_
 refine wr (pz 1 hf fun a hf=>?_)
 refine lB 0 hf H TF.ls28 fun a hf=>?_
 refine pz 1 hf fun a hf=>?_
 obtain ⟨e,he,hF⟩:=bs_ hF
 refine wl0 rfl (vD hf H Tryz.underlying28 TF.sz49 0 rfl rfl rfl he (by decide) fun p o2 cs4 a hf hA hr4 hk=>?_)
 obtain ⟨A7,c8,rfl,hl4⟩:=uq hr4
 have H:=H.pT hl4
 refine oq hf (gdc hf TF.la49 rfl rfl (fun j c hj=>hk _ c (by simpa using hj))) fun a hf=>?_
 refine aL hf H TF.zv49 fun b4 a w hf H=>?_
 refine sB 0 hf H TF.sz49 fun w H=>?_
 have hf:=hf.pn [0,2,3,4,5]
 refine we (sqz (pz 1 hf fun a hf=>?_))
 obtain ⟨y3,hy3,hF⟩:=bs_ hF
 refine oc hf TF.yJ (ui (S:=NB b0) (H.boxAt 3 rfl) ((ud (x:=y2.2) (H.nb 3 rfl (H.get 1 rfl)))) (fun h=>h rfl) ug hy3) fun v3 w a hp4 hf=>?_
 obtain ⟨hch2,cs5,hbx2,hr5,⟨hx6,hx7⟩,hs2⟩:=hp4
 obtain rfl:=uv hs2
 obtain ⟨A8,c9,rfl,hl5⟩:=uc hr5
 obtain ⟨rfl,rfl⟩:=un hx6 rfl rfl
 have hx8:=hx7.trans hx5
 have H:=H.wroteBox 3 rfl hch2 hbx2
 have H:=H.pX 1 rfl hx7
 refine ub (ua (wp_block (sqz (pz 2 hf fun a hf=>?_))))
 refine ub (ua (ib hF hf (fun hc2 hF=>?_) fun hc2 hF=>?_))
 refine reg (pz 1 hf fun a hf=>?_)
 refine wl0 rfl (bl hf H 3 ([0,999,1000,1,4]:List Int) [(.int .i64 0),(.int .i64 999),(.int .i64 1000),(.int .i64 1),(.int .i64 4)] (elI [0,999,1000,1,4]) fun A9 a w hf H=>?_)
 have H:=H.freeze 0 rfl
 obtain ⟨y4,hy4,hF⟩:=bs_ hF
 refine oc hf TF.gcq (uJ (S:=NB b0) (H.boxAt 3 rfl) ((ud (x:=y3.2) (H.nb 3 rfl (H.get 1 rfl)))) (fun h=>h rfl) (uB (H.nb 3 rfl (H.get 0 rfl))) hy4) fun v4 w a hp5 hf=>?_
 obtain ⟨hch3,cs6,hbx3,hr6,⟨hx9,hx10⟩,hs3⟩:=hp5
 obtain rfl:=uv hs3
 obtain ⟨A10,c10,rfl,hl6⟩:=uc hr6
 obtain ⟨rfl,rfl⟩:=un hx9 rfl rfl
 have hx11:=hx10.trans hx8
 have H:=H.wroteBox 3 rfl hch3 hbx3
 have H:=H.pX 1 rfl hx10
 refine pz 1 hf fun a hf=>?_
 refine sB 0 hf H TF.sz3 fun w H=>?_
 refine ub (uV (ua (sqz (pz 1 hf fun a hf=>?_))))
 refine lB 1 hf H TF.ls28 fun a hf=>?_
 refine pz 1 hf fun a hf=>?_
 refine lN 0 hf H TF.la49 fun a hf=>?_
 obtain ⟨e2,he2,hF⟩:=bs_ hF
 refine wl0 rfl (vD hf H Tryz.underlying28 TF.sz49 0 rfl rfl rfl he2 (by decide) fun p2 o3 cs7 a hf hA2 hr7 hk2=>?_)
 obtain ⟨A11,c11,rfl,hl7⟩:=uq hr7
 have H:=H.pT hl7
 refine wl0 rfl (xj (e':=({ Id:=y4.1,Route:=e.Route,Block:=e.Block }:Light)) (o:=o3) (off:=0) hf H TF.sz49 0 rfl rfl rfl rfl rfl (nle rfl) rfl hA2 he2 (yU (zq (x:=({ Id:=y4.1,Route:=e.Route,Block:=e.Block }:Light)) (H.get 4 rfl))) fun w H=>?_)
 replace hf:Fr a 98 [(2,(.pointer (some ⟨b2,0,none⟩))),(3,(.pointer (some ⟨b3,0,none⟩))),(4,(.int .i64 y2.1)),(5,(.pointer (some ⟨b4,0,none⟩))),(92,(.pointer (some ⟨b3,2,none⟩))),(93,(.slice A4 y.1.Lights.length c5)),(94,(.int .i64 y2.1)),(95,(.agg #[(.int .i64 y4.1),(.int .i64 e.Route.Start),(.slice A7 e.Route.Fibers.length c8),(.int .i64 e.Block.First),(.int .i64 e.Block.Count)])),(96,(.pointer (some ⟨p2,o3 + 0,none⟩)))]:=hf.prune [2,3,4,5,92,93,94,95,96] rfl
 replace hf:Fr a 98 [(2,(.pointer (some ⟨b2,0,none⟩))),(3,(.pointer (some ⟨b3,0,none⟩))),(4,(.int .i64 y2.1)),(5,(.pointer (some ⟨b4,0,none⟩))),(92,(.pointer (some ⟨b3,2,none⟩))),(93,(.slice A4 (y.1.Lights.set (y2.1:Int).toNat ({ Id:=y4.1,Route:=e.Route,Block:=e.Block }:Light)).length c5)),(94,(.int .i64 y2.1)),(95,(.agg #[(.int .i64 y4.1),(.int .i64 e.Route.Start),(.slice A7 e.Route.Fibers.length c8),(.int .i64 e.Block.First),(.int .i64 e.Block.Count)])),(96,(.pointer (some ⟨p2,o3 + 0,none⟩)))]:=by simpa only [List.length_set,Nat.add_zero] using hf
 replace H:Mem ⟨w0,[b0]⟩ S [⟨b4,49,[(.int .i64 y4.1),(.int .i64 e.Route.Start),(.slice A7 e.Route.Fibers.length c8),(.int .i64 e.Block.First),(.int .i64 e.Block.Count)]⟩,⟨b3,30,[(.slice A2 y.1.Network.Nodes.length c3),(.slice A3 y.1.Network.Fibers.length c4),(.slice A4 (y.1.Lights.set (y2.1:Int).toNat ({ Id:=y4.1,Route:=e.Route,Block:=e.Block }:Light)).length c5)]⟩,⟨b2,30,[(.slice none 0 0),(.slice none 0 0),(.slice none 0 0)]⟩,⟨b0,109,[(.slice A y4.2.code.length c2),(.int .i64 y4.2.at_),(.int .u64 y4.2.seed.n)]⟩] [⟨.sh true,E,A4,c5,(y.1.Lights.set (y2.1:Int).toNat ({ Id:=y4.1,Route:=e.Route,Block:=e.Block }:Light):List Light)⟩] [⟨F,MP.own F [(.slice A2 y.1.Network.Nodes.length c3)] (y.1.Network.Nodes:List ByteArray)⟩,⟨F2,MP.own F2 [(.slice A3 y.1.Network.Fibers.length c4)] (y.1.Network.Fibers:List Fiber)⟩] [(true,MP.val [(.slice A11 e2.Route.Fibers.length c11)] (e2.Route.Fibers:List Int)),(false,MP.val [(.slice A y4.2.code.length c2)] (y4.2.code:List By)),(true,MP.val [(.slice A9 5 5)] ([0,999,1000,1,4]:List Int)),(false,MP.val [(.slice A y3.2.code.length c2)] (y3.2.code:List By)),(true,MP.val [(.slice A7 e.Route.Fibers.length c8)] (e.Route.Fibers:List Int)),(false,MP.val [(.slice A y2.2.code.length c2)] (y2.2.code:List By)),(true,MP.val [(.slice A3 y.1.Network.Fibers.length c4)] (y.1.Network.Fibers:List Fiber)),(true,MP.val [(.slice A2 y.1.Network.Nodes.length c3)] (y.1.Network.Nodes:List ByteArray)),(false,MP.val [(.slice A y.2.code.length c2)] (y.2.code:List By)),(false,MP.val [(.slice A c.code.length c2)] (c.code:List By))] w:=by first | (simp only [List.length_set]; exact H) | (simp only [List.length_set] at H ⊢; exact H)
 refine wr (lN 1 hf H TF.la30 fun a hf=>?_)
 refine sB 2 hf H TF.sz30 fun w H=>?_
 refine wer ?_
 have hcell:GoTy.rep w (fun _=>True) [(.slice A y4.2.code.length c2),(.int .i64 y4.2.at_),(.int .u64 y4.2.seed.n)] (y4.2:L1CurP):=(ud (x:=y4.2) (H.rt 1 rfl))
 have H:=H.frontD 1 rfl
 have H:=H.frontD 1 rfl
 obtain rfl:=oi hF
 refine xi hf rfl (um hf H 2 TF.la30 rfl rfl rfl) ?_
 have H:=H.lk 8 1 3 []
 exact ⟨_,rfl,_,hcell,⟨fxc hx11,hx11⟩,A2,c3,F,A3,c4,F2,A4,c5,E,rfl,H⟩
 refine sqz (pz 2 hf fun a hf=>?_)
 refine ub (ua (ib hF hf (fun hc3 hF=>?_) fun hc3 hF=>?_))
 refine reg (pz 1 hf fun a hf=>?_)
 obtain ⟨y5,hy5,hF⟩:=bs_ hF
 refine oc hf TF.ggD (xe (S:=NB b0) (H.boxAt 3 rfl) ((ud (x:=y3.2) (H.nb 3 rfl (H.get 0 rfl)))) (fun h=>h rfl) hy5) fun v5 w a hp6 hf=>?_
 obtain ⟨hch4,cs8,hbx4,hr8,⟨hx12,hx13⟩,hs4⟩:=hp6
 obtain rfl:=yj hs4
 obtain ⟨A12,c12,rfl,hl8⟩:=uc hr8
 obtain ⟨rfl,rfl⟩:=un hx12 rfl rfl
 have hx14:=hx13.trans hx8
 have H:=H.wroteBox 3 rfl hch4 hbx4
 have H:=H.pX 0 rfl hx13
 refine pz 1 hf fun a hf=>?_
 refine sB 0 hf H TF.sz47 fun w H=>?_
 refine ub (uV (ua (sqz (pz 1 hf fun a hf=>?_))))
 refine lB 1 hf H TF.ls28 fun a hf=>?_
 refine pz 1 hf fun a hf=>?_
 refine lN 0 hf H TF.la49 fun a hf=>?_
 obtain ⟨e3,he3,hF⟩:=bs_ hF
 refine wl0 rfl (vD hf H Tryz.underlying28 TF.sz49 0 rfl rfl rfl he3 (by decide) fun p3 o4 cs9 a hf hA3 hr9 hk3=>?_)
 obtain ⟨A13,c13,rfl,hl9⟩:=uq hr9
 have H:=H.pT hl9
 refine wl0 rfl (xj (e':=({ Id:=e.Id,Route:=e.Route,Block:=y5.1 }:Light)) (o:=o4) (off:=0) hf H TF.sz49 0 rfl rfl rfl rfl rfl (nle rfl) rfl hA3 he3 (yU (zq (x:=({ Id:=e.Id,Route:=e.Route,Block:=y5.1 }:Light)) (H.get 3 rfl))) fun w H=>?_)
 replace hf:Fr a 98 [(2,(.pointer (some ⟨b2,0,none⟩))),(3,(.pointer (some ⟨b3,0,none⟩))),(4,(.int .i64 y2.1)),(5,(.pointer (some ⟨b4,0,none⟩))),(92,(.pointer (some ⟨b3,2,none⟩))),(93,(.slice A4 y.1.Lights.length c5)),(94,(.int .i64 y2.1)),(95,(.agg #[(.int .i64 e.Id),(.int .i64 e.Route.Start),(.slice A7 e.Route.Fibers.length c8),(.int .i64 y5.1.First),(.int .i64 y5.1.Count)])),(96,(.pointer (some ⟨p3,o4 + 0,none⟩)))]:=hf.prune [2,3,4,5,92,93,94,95,96] rfl
 replace hf:Fr a 98 [(2,(.pointer (some ⟨b2,0,none⟩))),(3,(.pointer (some ⟨b3,0,none⟩))),(4,(.int .i64 y2.1)),(5,(.pointer (some ⟨b4,0,none⟩))),(92,(.pointer (some ⟨b3,2,none⟩))),(93,(.slice A4 (y.1.Lights.set (y2.1:Int).toNat ({ Id:=e.Id,Route:=e.Route,Block:=y5.1 }:Light)).length c5)),(94,(.int .i64 y2.1)),(95,(.agg #[(.int .i64 e.Id),(.int .i64 e.Route.Start),(.slice A7 e.Route.Fibers.length c8),(.int .i64 y5.1.First),(.int .i64 y5.1.Count)])),(96,(.pointer (some ⟨p3,o4 + 0,none⟩)))]:=by simpa only [List.length_set,Nat.add_zero] using hf
 replace H:Mem ⟨w0,[b0]⟩ S [⟨b4,49,[(.int .i64 e.Id),(.int .i64 e.Route.Start),(.slice A7 e.Route.Fibers.length c8),(.int .i64 y5.1.First),(.int .i64 y5.1.Count)]⟩,⟨b3,30,[(.slice A2 y.1.Network.Nodes.length c3),(.slice A3 y.1.Network.Fibers.length c4),(.slice A4 (y.1.Lights.set (y2.1:Int).toNat ({ Id:=e.Id,Route:=e.Route,Block:=y5.1 }:Light)).length c5)]⟩,⟨b2,30,[(.slice none 0 0),(.slice none 0 0),(.slice none 0 0)]⟩,⟨b0,109,[(.slice A y5.2.code.length c2),(.int .i64 y5.2.at_),(.int .u64 y5.2.seed.n)]⟩] [⟨.sh true,E,A4,c5,(y.1.Lights.set (y2.1:Int).toNat ({ Id:=e.Id,Route:=e.Route,Block:=y5.1 }:Light):List Light)⟩] [⟨F,MP.own F [(.slice A2 y.1.Network.Nodes.length c3)] (y.1.Network.Nodes:List ByteArray)⟩,⟨F2,MP.own F2 [(.slice A3 y.1.Network.Fibers.length c4)] (y.1.Network.Fibers:List Fiber)⟩] [(true,MP.val [(.slice A13 e3.Route.Fibers.length c13)] (e3.Route.Fibers:List Int)),(false,MP.val [(.slice A y5.2.code.length c2)] (y5.2.code:List By)),(false,MP.val [(.slice A y3.2.code.length c2)] (y3.2.code:List By)),(true,MP.val [(.slice A7 e.Route.Fibers.length c8)] (e.Route.Fibers:List Int)),(false,MP.val [(.slice A y2.2.code.length c2)] (y2.2.code:List By)),(true,MP.val [(.slice A3 y.1.Network.Fibers.length c4)] (y.1.Network.Fibers:List Fiber)),(true,MP.val [(.slice A2 y.1.Network.Nodes.length c3)] (y.1.Network.Nodes:List ByteArray)),(false,MP.val [(.slice A y.2.code.length c2)] (y.2.code:List By)),(false,MP.val [(.slice A c.code.length c2)] (c.code:List By))] w:=by first | (simp only [List.length_set]; exact H) | (simp only [List.length_set] at H ⊢; exact H)
 refine wr (lN 1 hf H TF.la30 fun a hf=>?_)
 refine sB 2 hf H TF.sz30 fun w H=>?_
 refine wer ?_
 have hcell:GoTy.rep w (fun _=>True) [(.slice A y5.2.code.length c2),(.int .i64 y5.2.at_),(.int .u64 y5.2.seed.n)] (y5.2:L1CurP):=(ud (x:=y5.2) (H.rt 1 rfl))
 have H:=H.frontD 1 rfl
 have H:=H.frontD 1 rfl
 obtain rfl:=oi hF
 refine xi hf rfl (um hf H 2 TF.la30 rfl rfl rfl) ?_
 have H:=H.lk 8 1 3 []
 exact ⟨_,rfl,_,hcell,⟨fxc hx14,hx14⟩,A2,c3,F,A3,c4,F2,A4,c5,E,rfl,H⟩
 refine sqz (pz 2 hf fun a hf=>?_)
 refine ub (ua (ib hF hf (fun hc4 hF=>?_) fun hc4 hF=>?_))
 refine reg (pz 2 hf fun a hf=>?_)
 refine lN 1 hf H TF.la27 fun a hf=>?_
 obtain ⟨y6,hy6,hF⟩:=bs_ hF
 refine oc hf TF.ghx (vX (S:=NB b0) (H.boxAt 3 rfl) ((ud (x:=y3.2) (H.nb 3 rfl (H.get 0 rfl)))) (fun h=>h rfl) (uY (x:=y.1.Network) (H.nb 3 rfl (H.get 4 rfl)) (H.nb 3 rfl (H.get 3 rfl))) hy6) fun v6 w a hp7 hf=>?_
 obtain ⟨hch5,cs10,hbx5,hr10,⟨hx15,hx16⟩,hs5⟩:=hp7
 obtain ⟨F3,hp8,hN⟩:=hs5
 obtain ⟨A14,c14,F4,rfl,rfl,hl10⟩:=yT hp8
 obtain ⟨A15,c15,rfl,hl11⟩:=uc hr10
 obtain ⟨rfl,rfl⟩:=un hx15 rfl rfl
 have hx17:=hx16.trans hx8
 have H:=H.bO1 3 rfl hch5 hbx5 hN hl10
 have H:=H.pX 0 rfl hx16
 have H:=H.lend 0 rfl
 refine pz 1 hf fun a hf=>?_
 refine sB 0 hf H TF.sz45 fun w H=>?_
 have hf:=hf.pn [2,3,4,5]
 refine ub (uV (ua (sqz (pz 1 hf fun a hf=>?_))))
 refine lB 1 hf H TF.ls28 fun a hf=>?_
 refine pz 1 hf fun a hf=>?_
 refine lN 0 hf H TF.la49 fun a hf=>?_
 obtain ⟨e4,he4,hF⟩:=bs_ hF
 refine wl0 rfl (vD hf H Tryz.underlying28 TF.sz49 0 rfl rfl rfl he4 (by decide) fun p4 o5 cs11 a hf hA4 hr11 hk4=>?_)
 obtain ⟨A16,c16,rfl,hl12⟩:=uq hr11
 have H:=H.pT hl12
 refine wl0 rfl (xj (e':=({ Id:=e.Id,Route:=y6.1,Block:=e.Block }:Light)) (o:=o5) (off:=0) hf H TF.sz49 0 rfl rfl rfl rfl rfl (nle rfl) rfl hA4 he4 (yU (zq (x:=({ Id:=e.Id,Route:=y6.1,Block:=e.Block }:Light)) (H.get 1 rfl))) fun w H=>?_)
 replace hf:Fr a 98 [(2,(.pointer (some ⟨b2,0,none⟩))),(3,(.pointer (some ⟨b3,0,none⟩))),(4,(.int .i64 y2.1)),(5,(.pointer (some ⟨b4,0,none⟩))),(92,(.pointer (some ⟨b3,2,none⟩))),(93,(.slice A4 y.1.Lights.length c5)),(94,(.int .i64 y2.1)),(95,(.agg #[(.int .i64 e.Id),(.int .i64 y6.1.Start),(.slice A14 y6.1.Fibers.length c14),(.int .i64 e.Block.First),(.int .i64 e.Block.Count)])),(96,(.pointer (some ⟨p4,o5 + 0,none⟩)))]:=hf.prune [2,3,4,5,92,93,94,95,96] rfl
 replace hf:Fr a 98 [(2,(.pointer (some ⟨b2,0,none⟩))),(3,(.pointer (some ⟨b3,0,none⟩))),(4,(.int .i64 y2.1)),(5,(.pointer (some ⟨b4,0,none⟩))),(92,(.pointer (some ⟨b3,2,none⟩))),(93,(.slice A4 (y.1.Lights.set (y2.1:Int).toNat ({ Id:=e.Id,Route:=y6.1,Block:=e.Block }:Light)).length c5)),(94,(.int .i64 y2.1)),(95,(.agg #[(.int .i64 e.Id),(.int .i64 y6.1.Start),(.slice A14 y6.1.Fibers.length c14),(.int .i64 e.Block.First),(.int .i64 e.Block.Count)])),(96,(.pointer (some ⟨p4,o5 + 0,none⟩)))]:=by simpa only [List.length_set,Nat.add_zero] using hf
 replace H:Mem ⟨w0,[b0]⟩ S [⟨b4,49,[(.int .i64 e.Id),(.int .i64 y6.1.Start),(.slice A14 y6.1.Fibers.length c14),(.int .i64 e.Block.First),(.int .i64 e.Block.Count)]⟩,⟨b3,30,[(.slice A2 y.1.Network.Nodes.length c3),(.slice A3 y.1.Network.Fibers.length c4),(.slice A4 (y.1.Lights.set (y2.1:Int).toNat ({ Id:=e.Id,Route:=y6.1,Block:=e.Block }:Light)).length c5)]⟩,⟨b2,30,[(.slice none 0 0),(.slice none 0 0),(.slice none 0 0)]⟩,⟨b0,109,[(.slice A y6.2.code.length c2),(.int .i64 y6.2.at_),(.int .u64 y6.2.seed.n)]⟩] [⟨.sh true,E,A4,c5,(y.1.Lights.set (y2.1:Int).toNat ({ Id:=e.Id,Route:=y6.1,Block:=e.Block }:Light):List Light)⟩] [⟨F4,MP.own F4 [(.slice A14 y6.1.Fibers.length c14)] (y6.1.Fibers:List Int)⟩,⟨F,MP.own F [(.slice A2 y.1.Network.Nodes.length c3)] (y.1.Network.Nodes:List ByteArray)⟩,⟨F2,MP.own F2 [(.slice A3 y.1.Network.Fibers.length c4)] (y.1.Network.Fibers:List Fiber)⟩] [(true,MP.val [(.slice A16 e4.Route.Fibers.length c16)] (e4.Route.Fibers:List Int)),(true,MP.val [(.slice A14 y6.1.Fibers.length c14)] (y6.1.Fibers:List Int)),(false,MP.val [(.slice A y6.2.code.length c2)] (y6.2.code:List By)),(false,MP.val [(.slice A y3.2.code.length c2)] (y3.2.code:List By)),(true,MP.val [(.slice A7 e.Route.Fibers.length c8)] (e.Route.Fibers:List Int)),(false,MP.val [(.slice A y2.2.code.length c2)] (y2.2.code:List By)),(true,MP.val [(.slice A3 y.1.Network.Fibers.length c4)] (y.1.Network.Fibers:List Fiber)),(true,MP.val [(.slice A2 y.1.Network.Nodes.length c3)] (y.1.Network.Nodes:List ByteArray)),(false,MP.val [(.slice A y.2.code.length c2)] (y.2.code:List By)),(false,MP.val [(.slice A c.code.length c2)] (c.code:List By))] w:=by first | (simp only [List.length_set]; exact H) | (simp only [List.length_set] at H ⊢; exact H)
 refine wr (lN 1 hf H TF.la30 fun a hf=>?_)
 refine sB 2 hf H TF.sz30 fun w H=>?_
 refine wer ?_
 have hcell:GoTy.rep w (fun _=>True) [(.slice A y6.2.code.length c2),(.int .i64 y6.2.at_),(.int .u64 y6.2.seed.n)] (y6.2:L1CurP):=(ud (x:=y6.2) (H.rt 2 rfl))
 have H:=H.frontD 2 rfl
 have H:=H.frontD 2 rfl
 obtain rfl:=oi hF
 refine xi hf rfl (um hf H 2 TF.la30 rfl rfl rfl) ?_
 have H:=H.lk 8 1 3 []
 exact ⟨_,rfl,_,hcell,⟨fxc hx17,hx17⟩,A2,c3,F,A3,c4,F2,A4,c5,E,rfl,H⟩
 refine sqz (pz 2 hf fun a hf=>?_)
 refine ub (ua (ib hF hf (fun hc5 hF=>?_) fun hc5 hF=>?_))
 refine reg (pz 1 hf fun a hf=>?_)
 refine lB 1 hf H TF.ls28 fun a hf=>?_
 refine lN 0 hf H TF.la49 fun a hf=>?_
 refine wl0 rfl (bl hf H 49 ([e]:List Light) [(.int .i64 e.Id),(.int .i64 e.Route.Start),(.slice A7 e.Route.Fibers.length c8),(.int .i64 e.Block.First),(.int .i64 e.Block.Count)] (el1 (y:=e) ((zq (x:=e) (H.get 1 rfl)))) fun A17 a w hf H=>?_)
 obtain ⟨l,hl_,hF⟩:=bs_ hF
 refine wl0 rfl (xg hf H Tryz.underlying28 TF.ai49 rfl (by decide) 1 0 rfl rfl rfl rfl (.inr rfl) hl_ (by decide) fun E2 A18 c17 a w hf H=>?_)
 refine pz 1 hf fun a hf=>?_
 refine sB 1 hf H TF.sz28 fun w H=>?_
 have hf:=hf.pn [2,3,4,5]
 refine ub (uV (ua (sqz (pz 1 hf fun a hf=>?_))))
 refine lB 1 hf H TF.ls28 fun a hf=>?_
 refine pz 1 hf fun a hf=>?_
 refine lN 0 hf H TF.la49 fun a hf=>?_
 obtain ⟨e5,he5,hF⟩:=bs_ hF
 refine wl0 rfl (vD hf H Tryz.underlying28 TF.sz49 1 rfl rfl rfl he5 (by decide) fun p5 o6 cs12 a hf hA5 hr12 hk5=>?_)
 obtain ⟨A19,c18,rfl,hl13⟩:=uq hr12
 have H:=H.pT hl13
 refine wl0 rfl (xj (e':=e) (o:=o6) (off:=0) hf H TF.sz49 1 rfl rfl rfl rfl rfl (nle rfl) rfl hA5 he5 (yU (zq (x:=e) (H.get 2 rfl))) fun w H=>?_)
 replace hf:Fr a 98 [(2,(.pointer (some ⟨b2,0,none⟩))),(3,(.pointer (some ⟨b3,0,none⟩))),(4,(.int .i64 y2.1)),(5,(.pointer (some ⟨b4,0,none⟩))),(92,(.pointer (some ⟨b3,2,none⟩))),(93,(.slice A18 l.length c17)),(94,(.int .i64 y2.1)),(95,(.agg #[(.int .i64 e.Id),(.int .i64 e.Route.Start),(.slice A7 e.Route.Fibers.length c8),(.int .i64 e.Block.First),(.int .i64 e.Block.Count)])),(96,(.pointer (some ⟨p5,o6 + 0,none⟩)))]:=hf.prune [2,3,4,5,92,93,94,95,96] rfl
 replace hf:Fr a 98 [(2,(.pointer (some ⟨b2,0,none⟩))),(3,(.pointer (some ⟨b3,0,none⟩))),(4,(.int .i64 y2.1)),(5,(.pointer (some ⟨b4,0,none⟩))),(92,(.pointer (some ⟨b3,2,none⟩))),(93,(.slice A18 (l.set (y2.1:Int).toNat e).length c17)),(94,(.int .i64 y2.1)),(95,(.agg #[(.int .i64 e.Id),(.int .i64 e.Route.Start),(.slice A7 e.Route.Fibers.length c8),(.int .i64 e.Block.First),(.int .i64 e.Block.Count)])),(96,(.pointer (some ⟨p5,o6 + 0,none⟩)))]:=by simpa only [List.length_set,Nat.add_zero] using hf
 replace H:Mem ⟨w0,[b0]⟩ S [⟨b4,49,[(.int .i64 e.Id),(.int .i64 e.Route.Start),(.slice A7 e.Route.Fibers.length c8),(.int .i64 e.Block.First),(.int .i64 e.Block.Count)]⟩,⟨b3,30,[(.slice A2 y.1.Network.Nodes.length c3),(.slice A3 y.1.Network.Fibers.length c4),(.slice A18 (l.set (y2.1:Int).toNat e).length c17)]⟩,⟨b2,30,[(.slice none 0 0),(.slice none 0 0),(.slice none 0 0)]⟩,⟨b0,109,[(.slice A y3.2.code.length c2),(.int .i64 y3.2.at_),(.int .u64 y3.2.seed.n)]⟩] [⟨.sh true,49,A17,1,([e]:List Light)⟩,⟨.sh true,E2,A18,c17,(l.set (y2.1:Int).toNat e:List Light)⟩] [⟨F,MP.own F [(.slice A2 y.1.Network.Nodes.length c3)] (y.1.Network.Nodes:List ByteArray)⟩,⟨F2,MP.own F2 [(.slice A3 y.1.Network.Fibers.length c4)] (y.1.Network.Fibers:List Fiber)⟩] [(true,MP.val [(.slice A19 e5.Route.Fibers.length c18)] (e5.Route.Fibers:List Int)),(false,MP.val [(.slice A y3.2.code.length c2)] (y3.2.code:List By)),(true,MP.val [(.slice A7 e.Route.Fibers.length c8)] (e.Route.Fibers:List Int)),(false,MP.val [(.slice A y2.2.code.length c2)] (y2.2.code:List By)),(true,MP.val [(.slice A3 y.1.Network.Fibers.length c4)] (y.1.Network.Fibers:List Fiber)),(true,MP.val [(.slice A2 y.1.Network.Nodes.length c3)] (y.1.Network.Nodes:List ByteArray)),(false,MP.val [(.slice A y.2.code.length c2)] (y.2.code:List By)),(false,MP.val [(.slice A c.code.length c2)] (c.code:List By))] w:=by first | (simp only [List.length_set]; exact H) | (simp only [List.length_set] at H ⊢; exact H)
 refine wr (lN 1 hf H TF.la30 fun a hf=>?_)
 refine sB 2 hf H TF.sz30 fun w H=>?_
 refine wer ?_
 have H:=H.lm 15 2 3 8 255
 have hcell:GoTy.rep w (fun _=>True) [(.slice A y3.2.code.length c2),(.int .i64 y3.2.at_),(.int .u64 y3.2.seed.n)] (y3.2:L1CurP):=(ud (x:=y3.2) (H.rt 1 rfl))
 have H:=H.frontD 1 rfl
 have H:=H.frontD 1 rfl
 obtain rfl:=oi hF
 refine xi hf rfl (um hf H 2 TF.la30 rfl rfl rfl) ?_
 have H:=H.lk 8 1 3 []
 exact ⟨_,rfl,_,hcell,⟨fxc hx8,hx8⟩,A2,c3,F,A3,c4,F2,A18,c17,E2,rfl,H⟩
 refine sqz (pz 2 hf fun a hf=>?_)
 refine ub (ua (ib hF hf (fun hc6 hF=>?_) fun hc6 hF=>?_))
 refine reg (pz 1 hf fun a hf=>?_)
 obtain ⟨y7,hy7,hF⟩:=bs_ hF
 refine oc hf TF.gmo (gbQ (S:=NB b0) (H.boxAt 3 rfl) ((ud (x:=y3.2) (H.nb 3 rfl (H.get 0 rfl)))) (fun h=>h rfl) hy7) fun v7 w a hp9 hf=>?_
 obtain ⟨hch6,cs13,hbx6,hr13,⟨hx18,hx19⟩,hs6⟩:=hp9
 obtain ⟨F5,hp10,hN2⟩:=hs6
 obtain ⟨A20,c19,F6,A21,c20,F7,rfl,rfl,hl14,hl15⟩:=gaf hp10
 obtain ⟨A22,c21,rfl,hl16⟩:=uc hr13
 obtain ⟨rfl,rfl⟩:=un hx18 rfl rfl
 have hx20:=hx19.trans hx8
 have H:=H.bO2 3 rfl hch6 hbx6 hN2 hl14 hl15
 have H:=H.pX 0 rfl hx19
 have H:=H.lend 0 rfl
 have H:=H.lend 1 rfl
 refine pz 1 hf fun a hf=>?_
 refine sB 1 hf H TF.sz27 fun w H=>?_
 have hf:=hf.pn [2,3,4,5]
 refine ub (uV (ua (sqz (pz 1 hf fun a hf=>?_))))
 refine lB 1 hf H TF.ls28 fun a hf=>?_
 refine pz 1 hf fun a hf=>?_
 refine lN 0 hf H TF.la49 fun a hf=>?_
 obtain ⟨e6,he6,hF⟩:=bs_ hF
 refine wl0 rfl (vD hf H Tryz.underlying28 TF.sz49 0 rfl rfl rfl he6 (by decide) fun p6 o7 cs14 a hf hA6 hr14 hk6=>?_)
 obtain ⟨A23,c22,rfl,hl17⟩:=uq hr14
 have H:=H.pT hl17
 refine wl0 rfl (xj (e':=e) (o:=o7) (off:=0) hf H TF.sz49 0 rfl rfl rfl rfl rfl (nle rfl) rfl hA6 he6 (yU (zq (x:=e) (H.get 5 rfl))) fun w H=>?_)
 replace hf:Fr a 98 [(2,(.pointer (some ⟨b2,0,none⟩))),(3,(.pointer (some ⟨b3,0,none⟩))),(4,(.int .i64 y2.1)),(5,(.pointer (some ⟨b4,0,none⟩))),(92,(.pointer (some ⟨b3,2,none⟩))),(93,(.slice A4 y.1.Lights.length c5)),(94,(.int .i64 y2.1)),(95,(.agg #[(.int .i64 e.Id),(.int .i64 e.Route.Start),(.slice A7 e.Route.Fibers.length c8),(.int .i64 e.Block.First),(.int .i64 e.Block.Count)])),(96,(.pointer (some ⟨p6,o7 + 0,none⟩)))]:=hf.prune [2,3,4,5,92,93,94,95,96] rfl
 replace hf:Fr a 98 [(2,(.pointer (some ⟨b2,0,none⟩))),(3,(.pointer (some ⟨b3,0,none⟩))),(4,(.int .i64 y2.1)),(5,(.pointer (some ⟨b4,0,none⟩))),(92,(.pointer (some ⟨b3,2,none⟩))),(93,(.slice A4 (y.1.Lights.set (y2.1:Int).toNat e).length c5)),(94,(.int .i64 y2.1)),(95,(.agg #[(.int .i64 e.Id),(.int .i64 e.Route.Start),(.slice A7 e.Route.Fibers.length c8),(.int .i64 e.Block.First),(.int .i64 e.Block.Count)])),(96,(.pointer (some ⟨p6,o7 + 0,none⟩)))]:=by simpa only [List.length_set,Nat.add_zero] using hf
 replace H:Mem ⟨w0,[b0]⟩ S [⟨b4,49,[(.int .i64 e.Id),(.int .i64 e.Route.Start),(.slice A7 e.Route.Fibers.length c8),(.int .i64 e.Block.First),(.int .i64 e.Block.Count)]⟩,⟨b3,30,[(.slice A20 y7.1.Nodes.length c19),(.slice A21 y7.1.Fibers.length c20),(.slice A4 (y.1.Lights.set (y2.1:Int).toNat e).length c5)]⟩,⟨b2,30,[(.slice none 0 0),(.slice none 0 0),(.slice none 0 0)]⟩,⟨b0,109,[(.slice A y7.2.code.length c2),(.int .i64 y7.2.at_),(.int .u64 y7.2.seed.n)]⟩] [⟨.sh true,E,A4,c5,(y.1.Lights.set (y2.1:Int).toNat e:List Light)⟩] [⟨F6,MP.own F6 [(.slice A20 y7.1.Nodes.length c19)] (y7.1.Nodes:List ByteArray)⟩,⟨F7,MP.own F7 [(.slice A21 y7.1.Fibers.length c20)] (y7.1.Fibers:List Fiber)⟩,⟨F,MP.own F [(.slice A2 y.1.Network.Nodes.length c3)] (y.1.Network.Nodes:List ByteArray)⟩,⟨F2,MP.own F2 [(.slice A3 y.1.Network.Fibers.length c4)] (y.1.Network.Fibers:List Fiber)⟩] [(true,MP.val [(.slice A23 e6.Route.Fibers.length c22)] (e6.Route.Fibers:List Int)),(true,MP.val [(.slice A21 y7.1.Fibers.length c20)] (y7.1.Fibers:List Fiber)),(true,MP.val [(.slice A20 y7.1.Nodes.length c19)] (y7.1.Nodes:List ByteArray)),(false,MP.val [(.slice A y7.2.code.length c2)] (y7.2.code:List By)),(false,MP.val [(.slice A y3.2.code.length c2)] (y3.2.code:List By)),(true,MP.val [(.slice A7 e.Route.Fibers.length c8)] (e.Route.Fibers:List Int)),(false,MP.val [(.slice A y2.2.code.length c2)] (y2.2.code:List By)),(true,MP.val [(.slice A3 y.1.Network.Fibers.length c4)] (y.1.Network.Fibers:List Fiber)),(true,MP.val [(.slice A2 y.1.Network.Nodes.length c3)] (y.1.Network.Nodes:List ByteArray)),(false,MP.val [(.slice A y.2.code.length c2)] (y.2.code:List By)),(false,MP.val [(.slice A c.code.length c2)] (c.code:List By))] w:=by first | (simp only [List.length_set]; exact H) | (simp only [List.length_set] at H ⊢; exact H)
 refine wr (lN 1 hf H TF.la30 fun a hf=>?_)
 refine sB 2 hf H TF.sz30 fun w H=>?_
 refine wer ?_
 have hcell:GoTy.rep w (fun _=>True) [(.slice A y7.2.code.length c2),(.int .i64 y7.2.at_),(.int .u64 y7.2.seed.n)] (y7.2:L1CurP):=(ud (x:=y7.2) (H.rt 3 rfl))
 have H:=H.frontD 1 rfl
 have H:=H.frontD 1 rfl
 obtain rfl:=oi hF
 refine xi hf rfl (um hf H 2 TF.la30 rfl rfl rfl) ?_
 have H:=H.lk 8 1 3 []
 exact ⟨_,rfl,_,hcell,⟨fxc hx20,hx20⟩,A20,c19,F6,A21,c20,F7,A4,c5,E,rfl,H⟩
 refine sqz (pz 2 hf fun a hf=>?_)
 have hf:=hf.pn [0,2,3,4,5,57]
 refine ub (ua (ib hF hf (fun hc7 hF=>?_) fun hc7 hF=>?_))
 refine sq (sqz (pz 1 hf fun a hf=>?_))
 refine ub (ua ?_)
 obtain ⟨out',hB1,hF⟩:=bs_ hF
 have hf:=hf.pn [0,2,3,6]
 have H:=H.lm 14 1 3 5 25
 refine vU (fun (s:Int×List Light×List By×Int×U64) (a:Act) (w:World)=>match s with | (n',m,m2,m3,m4)=>∃ (A24:Option Addr) (c23:Nat) (E3:Go.TypeId),m2=c.code∧Fr a 98 [(0,(.pointer (some ⟨b0,0,none⟩))),(2,(.pointer (some ⟨b2,0,none⟩))),(3,(.pointer (some ⟨b3,0,none⟩))),(6,(.int .i64 n'))]∧Mem ⟨w0,[b0]⟩ S [⟨b3,30,[(.slice A2 y.1.Network.Nodes.length c3),(.slice A3 y.1.Network.Fibers.length c4),(.slice A24 m.length c23)]⟩,⟨b2,30,[(.slice none 0 0),(.slice none 0 0),(.slice none 0 0)]⟩,⟨b0,109,[(.slice A m2.length c2),(.int .i64 m3),(.int .u64 m4.n)]⟩] [⟨.sh true,E3,A24,c23,(m:List Light)⟩] [⟨F,MP.own F [(.slice A2 y.1.Network.Nodes.length c3)] (y.1.Network.Nodes:List ByteArray)⟩,⟨F2,MP.own F2 [(.slice A3 y.1.Network.Fibers.length c4)] (y.1.Network.Fibers:List Fiber)⟩] [(false,MP.val [(.slice A m2.length c2)] (m2:List By)),(true,MP.val [(.slice A3 y.1.Network.Fibers.length c4)] (y.1.Network.Fibers:List Fiber)),(true,MP.val [(.slice A2 y.1.Network.Nodes.length c3)] (y.1.Network.Nodes:List ByteArray))] w) (fun k (s:Int×List Light×List By×Int×U64)=>vM fu y k s.1 s.2.1 s.2.2.1 s.2.2.2.1 s.2.2.2.2=some out') (fun s=>out'=s) (0,y.1.Lights,y3.2.code,y3.2.at_,y3.2.seed) fu hB1 ⟨A4,c5,E,hx8,hf,H⟩ (fun s h=>by cases h) ?_ ?_
 rintro fk ⟨n',m,m2,m3,m4⟩ a w hR1 hI
 replace hR1:vM fu y (fk + 1) n' m m2 m3 m4=some out':=hR1
 rw [vM] at hR1
 obtain ⟨A24,c23,E3,hsm,hf,H⟩:=hI
 refine sq (sq (dw [] 11 fun w hb=>?_))
 have H:=H.keep hb
 refine zp 0 hf trivial fun a hf=>?_
 refine strT (H.lk 1 0 0 []) (fun w H=>trivial) fun hS=>?_
 refine zS 1 [] rfl rfl rfl rfl hf hS (fun w H=>ue hf H TF.ls28 0 rfl rfl rfl) fun a hf=>?_
 refine zp 2 hf hS fun a hf=>?_
 refine zp 3 hf hS fun a hf=>?_
 obtain ⟨y8,hy8,hR1⟩:=bs_ hR1
 refine nn 4 rfl (oC hf TF.yJ (ui (S:=NB b0) (H.boxAt 2 rfl) ((ud (x:=({ code:=m2,at_:=m3,seed:=m4 }:L1CurP)) (H.nb 2 rfl (H.get 0 rfl)))) (fun h=>h rfl) ug hy8) fun v8 w a hp11 hf=>?_)
 obtain ⟨hch7,cs15,hbx7,hr15,⟨hx21,hx22⟩,hs7⟩:=hp11
 obtain rfl:=uv hs7
 obtain ⟨A25,c24,rfl,hl18⟩:=uc hr15
 obtain ⟨rfl,rfl⟩:=un hx21 rfl rfl
 have hx23:=hx22.trans hsm
 have H:=H.wroteBox 2 rfl hch7 hbx7
 have H:=H.pX 0 rfl hx22
 have hS:=H.lk 1 0 0 []
 refine aS hS ?_
 refine zp 5 hf hS fun a hf=>?_
 refine zp 6 hf hS fun a hf=>?_
 refine zp 7 hf hS fun a hf=>?_
 refine iteB hR1 (fun hc8 hR1=>?_) fun hc8 hR1=>?_
 have hf:=hf.lit 66 rfl hc8
 refine zg 8 hf hS fun a hf=>?_
 refine zg 9 hf hS fun a hf=>?_
 refine zp 10 hf hS fun a hf=>?_
 refine dk ?_
 refine ua (ib hR1 hf (fun hc9 hR1=>?_) fun hc9 hR1=>?_)
 refine wp_skip (ua (sq (wp_block (dw [19] 20 fun w hb=>?_))))
 have H:=H.keep hb
 refine zp 0 hf trivial fun a hf=>?_
 refine strT (H.lk 1 0 0 []) (fun w H=>trivial) fun hS=>?_
 refine zS 1 [1,17,18,19] rfl rfl rfl rfl hf hS (fun w H=>ue hf H TF.ls28 0 rfl rfl rfl) fun a hf=>?_
 refine zp 2 hf hS fun a hf=>?_
 refine zp 3 hf hS fun a hf=>?_
 refine zp 4 hf hS fun a hf=>?_
 refine zp 5 hf hS fun a hf=>?_
 refine zS 6 [6,7,8,9,11,15,16,17,18,19] rfl rfl rfl rfl hf hS (fun w H=>ue hf H TF.ls25 0 rfl rfl rfl) fun a hf=>?_
 obtain ⟨e7,he7,hR1⟩:=bs_ hR1
 obtain ⟨p7,o8,cs16,hx24,hr16,H⟩:=ux H Tryz.underlying25 TF.zc 2 rfl he7
 refine zP 7 rfl rfl rfl rfl hf hS (fun w=>uu hf rfl rfl rfl hx24 w) fun a hf=>?_
 obtain rfl:=uZ hr16
 refine zp 8 hf hS fun a hf=>?_
 refine strT (H.lk 1 0 0 [0]) (fun w H=>H.lk 1 0 0 []) fun hS=>?_
 refine zS 9 [9,11,15,16,17,18,19] rfl rfl rfl rfl hf hS (fun w H=>uI hf H TF.ls3 0 0 rfl rfl rfl) fun a hf=>?_
 refine zp 12 hf hS fun a hf=>?_
 refine zp 13 hf hS fun a hf=>?_
 refine zP 14 rfl rfl rfl rfl hf hS (fun w=>uA hf (cs:=[(.int .i64 (w64 (23 - n'))),(.int .i64 1)]) rfl (fun w=>by kernel_rfl)) fun a hf=>?_
 refine nn 10 rfl (bl hf H 3 ([0]:List Int) [(.int .i64 0)] (el1 (y:=0) (rfl)) fun A26 a w hf H=>?_)
 have hS:=H.lk 1 0 0 [0]
 refine aS hS ?_
 refine zP 11 rfl rfl rfl rfl hf hS (fun w=>uA hf (cs:=[(.int .i64 e7.A),(.slice A26 1 1)]) rfl (fun w=>by kernel_rfl)) fun a hf=>?_
 refine zP 15 rfl rfl rfl rfl hf hS (fun w=>uA hf (cs:=[(.int .i64 (w64 (500 + n'))),(.int .i64 e7.A),(.slice A26 1 1),(.int .i64 (w64 (23 - n'))),(.int .i64 1)]) rfl (fun w=>by kernel_rfl)) fun a hf=>?_
 have H:=H.rowOwn 0 rfl rfl
 obtain ⟨F8,H⟩:=H.freezeOwn 0 rfl
 have H:=H.lend 0 rfl
 have H:=H.recast (X:=[(⟨F8,MP.own F8 [(.slice A26 1 1)] ([0]:List Int)⟩:DI)]) (Y:=[(⟨F8,MP.own F8 [(.int .i64 (w64 (500 + n'))),(.int .i64 e7.A),(.slice A26 1 1),(.int .i64 (w64 (23 - n'))),(.int .i64 1)] (({ Id:=w64 (500 + n'),Route:=({ Start:=e7.A,Fibers:=[0] }:Route),Block:=({ First:=w64 (23 - n'),Count:=1 }:Block) }:Light):Light)⟩:DI)]) (List.Perm.of_eq (by simp)) fun _=>ps1 (xR (x:=({ Id:=w64 (500 + n'),Route:=({ Start:=e7.A,Fibers:=[0] }:Route),Block:=({ First:=w64 (23 - n'),Count:=1 }:Block) }:Light)) (H.ownAt 0 rfl)) ps0
 refine nn 16 rfl (yh hf 49 H rfl (fun w=>by kernel_rfl) (by decide) fun A27 a w hf H=>?_)
 have hS:=H.lk 1 0 0 [1]
 refine aS hS ?_
 have H:=H.rowSh 0 rfl
 obtain ⟨l2,hl2_,hR1⟩:=bs_ hR1
 refine nn 17 rfl (xg hf H Tryz.underlying28 TF.ai49 rfl (by decide) 1 0 rfl rfl rfl rfl (.inr rfl) hl2_ (by decide) fun E4 A28 c25 a w hf H=>?_)
 have hS:=H.lk 1 0 0 [1]
 refine aS hS ?_
 refine zp 18 hf hS fun a hf=>?_
 refine nn 19 rfl (uh hf H 0 TF.sz28 rfl rfl rfl rfl rfl rfl (nle rfl) fun w H=>?_)
 refine ⟨fun h=>absurd h (by decide),?_⟩
 refine dk ?_
 have hf:=hf.pn [0,2,3,6,67,68]
 refine uV (ua (reg (pz 3 hf fun a hf=>?_)))
 refine ub ?_
 have H:=H.lm 7 2 3 6 63
 have hf:=hf.pn [0,2,3,6]
 have H:=H.lm 7 1 3 6 52
 exact ua ⟨(w64 (n' + 1),l2,y8.2.code,y8.2.at_,y8.2.seed),hR1,A28,c25,E4,hx23,hf,H⟩
 refine wp_exit (uy (uy (vJ (?_))))
 have hf:=hf.pn [0,2,3,6]
 have H:=H.lm 7 1 3 4 13
 exact ⟨(n',m,y8.2.code,y8.2.at_,y8.2.seed),(Option.some.inj hR1).symm,A24,c23,E3,hx23,hf,H⟩
 have hf:=hf.lit 66 rfl hc8
 refine zU 8 hf hS fun a hf=>?_
 refine zU 9 hf hS fun a hf=>?_
 refine zp 10 hf hS fun a hf=>?_
 refine dk ?_
 refine ua (cd_f hf rfl rfl (wp_exit (uy (uy (vJ (?_))))))
 have hf:=hf.pn [0,2,3,6]
 have H:=H.lm 7 1 3 4 13
 exact ⟨(n',m,y8.2.code,y8.2.at_,y8.2.seed),(Option.some.inj hR1).symm,A24,c23,E3,hx23,hf,H⟩
 rintro a w ⟨⟨n2,m5,m6,m7,m8⟩,rfl,A29,c26,E5,hsm,hf,H⟩
 try dsimp only at hsm
 try dsimp only at hF
 refine ua (sq (reg (lN 0 hf H TF.la30 fun a hf=>?_)))
 refine sB 1 hf H TF.sz30 fun w H=>?_
 refine ub (ua (wp_ret (u9 (uf (?_)))))
 have hcell:GoTy.rep w (fun _=>True) [(.slice A m6.length c2),(.int .i64 m7),(.int .u64 m8.n)] (({ code:=m6,at_:=m7,seed:=m8 }:L1CurP):L1CurP):=(ud (x:=({ code:=m6,at_:=m7,seed:=m8 }:L1CurP)) (H.rt 0 rfl))
 have H:=H.frontD 1 rfl
 have H:=H.frontD 1 rfl
 obtain rfl:=oi hF
 refine xi hf rfl (um hf H 1 TF.la30 rfl rfl rfl) ?_
 have H:=H.lk 4 1 3 []
 exact ⟨_,rfl,_,hcell,⟨fxc hsm,hsm⟩,A2,c3,F,A3,c4,F2,A29,c26,E5,rfl,H⟩
 refine wp_skip (uV (ua (sqz (pz 1 hf fun a hf=>?_))))
 refine lB 1 hf H TF.ls28 fun a hf=>?_
 refine pz 1 hf fun a hf=>?_
 refine lN 0 hf H TF.la49 fun a hf=>?_
 obtain ⟨e8,he8,hF⟩:=bs_ hF
 refine wl0 rfl (vD hf H Tryz.underlying28 TF.sz49 0 rfl rfl rfl he8 (by decide) fun p8 o9 cs17 a hf hA7 hr17 hk7=>?_)
 obtain ⟨A30,c27,rfl,hl19⟩:=uq hr17
 have H:=H.pT hl19
 refine wl0 rfl (xj (e':=e) (o:=o9) (off:=0) hf H TF.sz49 0 rfl rfl rfl rfl rfl (nle rfl) rfl hA7 he8 (yU (zq (x:=e) (H.get 2 rfl))) fun w H=>?_)
 replace hf:Fr a 98 [(2,(.pointer (some ⟨b2,0,none⟩))),(3,(.pointer (some ⟨b3,0,none⟩))),(4,(.int .i64 y2.1)),(5,(.pointer (some ⟨b4,0,none⟩))),(92,(.pointer (some ⟨b3,2,none⟩))),(93,(.slice A4 y.1.Lights.length c5)),(94,(.int .i64 y2.1)),(95,(.agg #[(.int .i64 e.Id),(.int .i64 e.Route.Start),(.slice A7 e.Route.Fibers.length c8),(.int .i64 e.Block.First),(.int .i64 e.Block.Count)])),(96,(.pointer (some ⟨p8,o9 + 0,none⟩)))]:=hf.prune [2,3,4,5,92,93,94,95,96] rfl
 replace hf:Fr a 98 [(2,(.pointer (some ⟨b2,0,none⟩))),(3,(.pointer (some ⟨b3,0,none⟩))),(4,(.int .i64 y2.1)),(5,(.pointer (some ⟨b4,0,none⟩))),(92,(.pointer (some ⟨b3,2,none⟩))),(93,(.slice A4 (y.1.Lights.set (y2.1:Int).toNat e).length c5)),(94,(.int .i64 y2.1)),(95,(.agg #[(.int .i64 e.Id),(.int .i64 e.Route.Start),(.slice A7 e.Route.Fibers.length c8),(.int .i64 e.Block.First),(.int .i64 e.Block.Count)])),(96,(.pointer (some ⟨p8,o9 + 0,none⟩)))]:=by simpa only [List.length_set,Nat.add_zero] using hf
 replace H:Mem ⟨w0,[b0]⟩ S [⟨b4,49,[(.int .i64 e.Id),(.int .i64 e.Route.Start),(.slice A7 e.Route.Fibers.length c8),(.int .i64 e.Block.First),(.int .i64 e.Block.Count)]⟩,⟨b3,30,[(.slice A2 y.1.Network.Nodes.length c3),(.slice A3 y.1.Network.Fibers.length c4),(.slice A4 (y.1.Lights.set (y2.1:Int).toNat e).length c5)]⟩,⟨b2,30,[(.slice none 0 0),(.slice none 0 0),(.slice none 0 0)]⟩,⟨b0,109,[(.slice A y3.2.code.length c2),(.int .i64 y3.2.at_),(.int .u64 y3.2.seed.n)]⟩] [⟨.sh true,E,A4,c5,(y.1.Lights.set (y2.1:Int).toNat e:List Light)⟩] [⟨F,MP.own F [(.slice A2 y.1.Network.Nodes.length c3)] (y.1.Network.Nodes:List ByteArray)⟩,⟨F2,MP.own F2 [(.slice A3 y.1.Network.Fibers.length c4)] (y.1.Network.Fibers:List Fiber)⟩] [(true,MP.val [(.slice A30 e8.Route.Fibers.length c27)] (e8.Route.Fibers:List Int)),(false,MP.val [(.slice A y3.2.code.length c2)] (y3.2.code:List By)),(true,MP.val [(.slice A7 e.Route.Fibers.length c8)] (e.Route.Fibers:List Int)),(false,MP.val [(.slice A y2.2.code.length c2)] (y2.2.code:List By)),(true,MP.val [(.slice A3 y.1.Network.Fibers.length c4)] (y.1.Network.Fibers:List Fiber)),(true,MP.val [(.slice A2 y.1.Network.Nodes.length c3)] (y.1.Network.Nodes:List ByteArray)),(false,MP.val [(.slice A y.2.code.length c2)] (y.2.code:List By)),(false,MP.val [(.slice A c.code.length c2)] (c.code:List By))] w:=by first | (simp only [List.length_set]; exact H) | (simp only [List.length_set] at H ⊢; exact H)
 refine wr (lN 1 hf H TF.la30 fun a hf=>?_)
 refine sB 2 hf H TF.sz30 fun w H=>?_
 refine wer ?_
 have hcell:GoTy.rep w (fun _=>True) [(.slice A y3.2.code.length c2),(.int .i64 y3.2.at_),(.int .u64 y3.2.seed.n)] (y3.2:L1CurP):=(ud (x:=y3.2) (H.rt 1 rfl))
 have H:=H.frontD 1 rfl
 have H:=H.frontD 1 rfl
 obtain rfl:=oi hF
 refine xi hf rfl (um hf H 2 TF.la30 rfl rfl rfl) ?_
 have H:=H.lk 8 1 3 []
 exact ⟨_,rfl,_,hcell,⟨fxc hx8,hx8⟩,A2,c3,F,A3,c4,F2,A4,c5,E,rfl,H⟩
theorem xF {S:Nat→Prop} {v0_:Value} {v1_:Value} {v2_:Value} {x1:Int} {a':Int} {b':Int} {r:Bool} (h0:VR w0 S v0_ x1) (h1:VR w0 S v1_ a') (h2:VR w0 S v2_ b') (hF:yn fu x1 a' b'=some r) :
    Calls Tryz.prog 153 [v0_,v1_,v2_].toArray w0 fun e w'=>∃ v,e=.returned v∧(Below w0.heap.size w0 w'∧VR w' (St ⟨w0,[]⟩ S [] [] [] true) v r):=by
 obtain rfl:=uv h0
 obtain rfl:=uv h1
 obtain rfl:=uv h2
 have H:=Mem.start ⟨w0,[]⟩ S
 refine en Tryz.func153 fun a hf=>?_
 rw [yn] at hF
 refine sqz (pz 1 hf fun a hf=>?_)
 refine ub (ua (sq ?_))
 obtain ⟨c,hGc,hF⟩:=bs_ hF
 have fh:=hf.prune [] rfl
 have Hm:=H.lk 0 0 0 []
 refine midF 6 (.bool c) fh Hm ?_ fun a w hf H=>?_
 refine reg (pz 4 hf fun a hf=>?_)
 refine iteB hGc (fun hc hGc=>?_) fun hc hGc=>?_
 have hf:=hf.lit 10 rfl hc
 refine pz 5 hf fun a hf=>?_
 obtain rfl:=oi hGc
 have hf:=hf.pn [6]
 have H:=H.lk 0 0 0 []
 exact ub ⟨hf,H⟩
 have hf:=hf.lit 10 rfl hc
 refine pz 5 hf fun a hf=>?_
 obtain rfl:=oi hGc
 have hf:=hf.pn [6]
 have H:=H.lk 0 0 0 []
 exact ub ⟨hf,H⟩
 refine ua (wp_ret (?_))
 obtain rfl:=oi hF
 refine rT hf ?_
 exact ⟨_,rfl,H.bel,uk⟩
theorem geL {S:Nat→Prop} {v0_:Value} {b':By} {r:Bool} (h0:VR w0 S v0_ b') (hF:gbj fu b'=some r) :
    Calls Tryz.prog 308 [v0_].toArray w0 fun e w'=>∃ v,e=.returned v∧(Below w0.heap.size w0 w'∧VR w' (St ⟨w0,[]⟩ S [] [] [] true) v r):=by
 obtain rfl:=gmz h0
 have H:=Mem.start ⟨w0,[]⟩ S
 refine en Tryz.func308 fun a hf=>?_
 rw [gbj] at hF
 refine sqz (pz 1 hf fun a hf=>?_)
 refine ub (ua (sq ?_))
 obtain ⟨c,hGc,hF⟩:=bs_ hF
 have fh:=hf.prune [] rfl
 have Hm:=H.lk 0 0 0 []
 refine midF 2 (.bool c) fh Hm ?_ fun a w hf H=>?_
 refine reg (pz 1 hf fun a hf=>?_)
 refine oq hf (gdP hf rfl rfl) fun a hf=>?_
 refine pz 1 hf fun a hf=>?_
 refine iteB hGc (fun hc hGc=>?_) fun hc hGc=>?_
 have hf:=hf.lit 5 rfl hc
 refine pz 1 hf fun a hf=>?_
 refine wlg hf rfl rfl rfl (op_q hf (geZ hf rfl rfl) rfl (by decide) fun a hf=>?_)
 refine pz 2 hf fun a hf=>?_
 refine iteB hGc (fun hc2 hGc=>?_) fun hc2 hGc=>?_
 have hf:=hf.lit 9 rfl hc2
 refine pz 3 hf fun a hf=>?_
 refine wlsu hf rfl rfl rfl rfl (by decide) fun a hf=>?_
 refine wlsu hf rfl rfl rfl rfl (by decide) fun a hf=>?_
 refine pz 3 hf fun a hf=>?_
 obtain rfl:=oi hGc
 have hf:=hf.pn [2]
 have H:=H.lk 0 0 0 []
 exact ub ⟨hf,H⟩
 have hf:=hf.lit 9 rfl hc2
 refine pz 1 hf fun a hf=>?_
 refine wlg hf rfl rfl rfl (op_q hf (gdP hf rfl rfl) rfl (by decide) fun a hf=>?_)
 refine pz 1 hf fun a hf=>?_
 refine iteB hGc (fun hc3 hGc=>?_) fun hc3 hGc=>?_
 have hf:=hf.lit 12 rfl hc3
 refine pz 1 hf fun a hf=>?_
 refine wlg hf rfl rfl rfl (op_q hf (geZ hf rfl rfl) rfl (by decide) fun a hf=>?_)
 refine pz 3 hf fun a hf=>?_
 obtain rfl:=oi hGc
 have hf:=hf.pn [2]
 have H:=H.lk 0 0 0 []
 exact ub ⟨hf,H⟩
 have hf:=hf.lit 12 rfl hc3
 refine pz 5 hf fun a hf=>?_
 obtain rfl:=oi hGc
 have hf:=hf.pn [2]
 have H:=H.lk 0 0 0 []
 exact ub ⟨hf,H⟩
 have hf:=hf.lit 5 rfl hc
 refine pz 5 hf fun a hf=>?_
 refine wlg hf rfl rfl rfl (op_q hf (gdP hf rfl rfl) rfl (by decide) fun a hf=>?_)
 refine pz 1 hf fun a hf=>?_
 refine iteB hGc (fun hc4 hGc=>?_) fun hc4 hGc=>?_
 have hf:=hf.lit 12 rfl hc4
 refine pz 1 hf fun a hf=>?_
 refine wlg hf rfl rfl rfl (op_q hf (geZ hf rfl rfl) rfl (by decide) fun a hf=>?_)
 refine pz 3 hf fun a hf=>?_
 obtain rfl:=oi hGc
 have hf:=hf.pn [2]
 have H:=H.lk 0 0 0 []
 exact ub ⟨hf,H⟩
 have hf:=hf.lit 12 rfl hc4
 refine pz 5 hf fun a hf=>?_
 obtain rfl:=oi hGc
 have hf:=hf.pn [2]
 have H:=H.lk 0 0 0 []
 exact ub ⟨hf,H⟩
 refine ua (wp_ret (?_))
 obtain rfl:=oi hF
 refine rT hf ?_
 exact ⟨_,rfl,H.bel,uk⟩
theorem geM {S:Nat→Prop} {v0_:Value} {s':ByteArray} {r:Bool} (h0:VR w0 S v0_ s') (hF:gbl fu s'=some r) :
    Calls Tryz.prog 257 [v0_].toArray w0 fun e w'=>∃ v,e=.returned v∧(Below w0.heap.size w0 w'∧VR w' (St ⟨w0,[]⟩ S [] [] [] true) v r):=by
 obtain rfl:=ge6 h0
 have H:=Mem.start ⟨w0,[]⟩ S
 refine en Tryz.func257 fun a hf=>?_
 rw [gbl] at hF
 refine sqz (pz 1 hf fun a hf=>?_)
 refine ub (ua (sq (sq ?_)))
 obtain ⟨c,hGc,hF⟩:=bs_ hF
 have fh:=hf.prune [0] rfl
 have Hm:=H.lk 0 0 0 []
 refine midF 17 (.bool c) fh Hm ?_ fun a w hf H=>?_
 refine reg (pz 2 hf fun a hf=>?_)
 obtain ⟨y,hy,hGc⟩:=bs_ hGc
 refine oc hf TF.gey (xF (S:=TT) ug ug ug hy) fun v w a hp hf=>?_
 obtain ⟨hb,hp⟩:=hp
 obtain rfl:=uo hp
 have H:=H.keep hb
 refine pz 2 hf fun a hf=>?_
 refine iteB hGc (fun hc hGc=>?_) fun hc hGc=>?_
 have hf:=hf.lit 8 rfl hc
 refine pz 9 hf fun a hf=>?_
 obtain rfl:=oi hGc
 have hf:=hf.pn [17,0]
 have H:=H.lk 0 0 0 []
 exact ub ⟨hf,H⟩
 have hf:=hf.lit 8 rfl hc
 refine pz 1 hf fun a hf=>?_
 obtain ⟨e,he,hGc⟩:=bs_ hGc
 refine wlg hf rfl rfl rfl (op_q hf (gal hf Tryz.underlying9 rfl rfl he) rfl (by decide) fun a hf=>?_)
 refine wlg hf rfl rfl rfl (op_q hf (gkY hf rfl rfl) rfl (by decide) fun a hf=>?_)
 refine pz 2 hf fun a hf=>?_
 refine iteB hGc (fun hc2 hGc=>?_) fun hc2 hGc=>?_
 have hf:=hf.lit 13 rfl hc2
 refine pz 4 hf fun a hf=>?_
 obtain rfl:=oi hGc
 have hf:=hf.pn [17,0]
 have H:=H.lk 0 0 0 []
 exact ub ⟨hf,H⟩
 have hf:=hf.lit 13 rfl hc2
 refine pz 1 hf fun a hf=>?_
 obtain ⟨e2,he2,hGc⟩:=bs_ hGc
 refine wlg hf rfl rfl rfl (op_q hf (gal hf Tryz.underlying9 rfl rfl he2) rfl (by decide) fun a hf=>?_)
 refine wlg hf rfl rfl rfl (op_q hf (gk0 hf rfl rfl) rfl (by decide) fun a hf=>?_)
 refine pz 1 hf fun a hf=>?_
 obtain rfl:=oi hGc
 have hf:=hf.pn [17,0]
 have H:=H.lk 0 0 0 []
 exact ub ⟨hf,H⟩
 refine ua (ib hF hf (fun hc3 hF=>?_) fun hc3 hF=>?_)
 refine sqz (pz 1 hf fun a hf=>?_)
 refine ub (ua (wp_ret (uf (?_))))
 obtain rfl:=oi hF
 refine rT hf ?_
 exact ⟨_,rfl,H.bel,uk⟩
 refine wp_skip (ua (sq (sqz (pz 1 hf fun a hf=>?_))))
 refine ub (ua ?_)
 obtain ⟨out',hB1,hF⟩:=bs_ hF
 have hf:=hf.pn [0,3]
 have H:=H.lk 0 0 0 []
 refine vU (fun (s:Int) (a:Act) (w:World)=>match s with | i=>Fr a 29 [(0,(.string s')),(3,(.int .i64 i))]∧Mem ⟨w0,[]⟩ S [] [] [] [] w) (fun k (s:Int)=>xC fu s' k s=some out') (fun s=>out'=Out.next s) 0 fu hB1 ⟨hf,H⟩ (fun s h=>by cases h) ?_ ?_
 rintro fk i a w hR1 hI
 replace hR1:xC fu s' (fk + 1) i=some out':=hR1
 rw [xC] at hR1
 obtain ⟨hf,H⟩:=hI
 refine sq (sqz (pz 4 hf fun a hf=>?_))
 refine ub (ua (ib hR1 hf (fun hc4 hR1=>?_) fun hc4 hR1=>?_))
 refine ws (pz 2 hf fun a hf=>?_)
 obtain ⟨e3,he3,hR1⟩:=bs_ hR1
 refine oq hf (gal hf Tryz.underlying9 rfl rfl he3) fun a hf=>?_
 obtain ⟨y2,hy2,hR1⟩:=bs_ hR1
 refine oc hf TF.glH (geL (S:=TT) glE hy2) fun v2 w a hp2 hf=>?_
 obtain ⟨hb2,hp2⟩:=hp2
 obtain rfl:=uo hp2
 have H:=H.keep hb2
 refine pz 1 hf fun a hf=>?_
 refine ub (ua (ib hR1 hf (fun hc5 hR1=>?_) fun hc5 hR1=>?_))
 refine sqz (pz 1 hf fun a hf=>?_)
 refine ub (ua (wp_ret (u9 (uf (uf (u9 (uf (uf (?_)))))))))
 obtain rfl:=oi hR1
 replace hF:=xc hF
 obtain rfl:=oi hF
 refine rT hf ?_
 exact ⟨_,rfl,H.bel,uk⟩
 refine wp_skip (uV (ua (reg (pz 3 hf fun a hf=>?_))))
 refine ub ?_
 have hf:=hf.pn [0,3]
 have H:=H.lk 0 0 0 []
 exact ua ⟨w64 (i + 1),hR1,hf,H⟩
 refine wp_exit (uy (uy (vJ (?_))))
 have hf:=hf.pn [0,3]
 have H:=H.lk 0 0 0 []
 exact ⟨i,(Option.some.inj hR1).symm,hf,H⟩
 rintro a w ⟨i2,rfl,hf,H⟩
 replace hF:=vG hF
 refine ua (sqz (pz 1 hf fun a hf=>?_))
 refine wer ?_
 obtain rfl:=oi hF
 refine rT hf ?_
 exact ⟨_,rfl,H.bel,uk⟩
theorem geN {S:Nat→Prop} {v0_:Value} {v1_:Value} {list:List ByteArray} {name:ByteArray} {r:Int} (h0:VR w0 S v0_ list) (h1:VR w0 S v1_ name) (hF:gbm fu list name=some r) :
    Calls Tryz.prog 258 [v0_,v1_].toArray w0 fun e w'=>∃ v,e=.returned v∧(Below w0.heap.size w0 w'∧VR w' (St ⟨w0,[]⟩ S [] [] [] true) v r):=by
 obtain ⟨A,c,rfl,hl⟩:=u4 h0
 obtain rfl:=ge6 h1
 have H:=Mem.start ⟨w0,[]⟩ S
 have H:=H.pA hl
 refine en Tryz.func258 fun a hf=>?_
 rw [gbm] at hF
 refine sqz (pz 1 hf fun a hf=>?_)
 refine we (sqz (pz 1 hf fun a hf=>?_))
 refine ub (ua ?_)
 obtain ⟨out',hB1,hF⟩:=bs_ hF
 have hf:=hf.pn [0,1,5]
 have H:=H.lk 0 0 0 [0]
 refine vU (fun (s:Int) (a:Act) (w:World)=>match s with | i=>Fr a 19 [(0,(.slice A list.length c)),(1,(.string name)),(5,(.int .i64 i))]∧Mem ⟨w0,[]⟩ S [] [] [] [(false,MP.val [(.slice A list.length c)] (list:List ByteArray))] w) (fun k (s:Int)=>x9 fu list name k s=some out') (fun s=>out'=Out.next s) 0 fu hB1 ⟨hf,H⟩ (fun s h=>by cases h) ?_ ?_
 rintro fk i a w hR1 hI
 replace hR1:x9 fu list name (fk + 1) i=some out':=hR1
 rw [x9] at hR1
 obtain ⟨hf,H⟩:=hI
 refine sq (sqz (pz 4 hf fun a hf=>?_))
 refine ub (ua (ib hR1 hf (fun hc hR1=>?_) fun hc hR1=>?_))
 refine ws (pz 2 hf fun a hf=>?_)
 obtain ⟨e,he,hR1⟩:=bs_ hR1
 refine wl0 rfl (vn hf H Tryz.underlying24 TF.sz9 0 rfl rfl rfl he (by decide) fun p o cs a hf hr H=>?_)
 obtain rfl:=hr
 refine oq hf (uI hf H TF.ls9 0 0 rfl rfl rfl) fun a hf=>?_
 refine pz 2 hf fun a hf=>?_
 refine ub (ua (ib hR1 hf (fun hc2 hR1=>?_) fun hc2 hR1=>?_))
 refine sqz (pz 2 hf fun a hf=>?_)
 have hf:=hf.pn [4]
 refine ub (ua (wp_ret (u9 (uf (uf (u9 (uf (uf (?_)))))))))
 obtain rfl:=oi hR1
 replace hF:=xc hF
 obtain rfl:=oi hF
 refine rT hf ?_
 exact ⟨_,rfl,H.bel,ug⟩
 refine wp_skip (uV (ua (reg (pz 3 hf fun a hf=>?_))))
 refine ub ?_
 have hf:=hf.pn [0,1,5]
 have H:=H.lk 0 0 0 [1]
 exact ua ⟨w64 (i + 1),hR1,hf,H⟩
 refine wp_exit (uy (uy (vJ (?_))))
 have hf:=hf.pn [0,1,5]
 have H:=H.lk 0 0 0 [0]
 exact ⟨i,(Option.some.inj hR1).symm,hf,H⟩
 rintro a w ⟨i2,rfl,hf,H⟩
 replace hF:=vG hF
 refine ua (sqz (pz 1 hf fun a hf=>?_))
 refine wer ?_
 obtain rfl:=oi hF
 refine rT hf ?_
 exact ⟨_,rfl,H.bel,ug⟩
theorem geg {S:Nat→Prop} {v0_:Value} {v1_:Value} {f:Fiber} {nodes:Int} {r:Bool} (h0:VR w0 S v0_ f) (h1:VR w0 S v1_ nodes) (hF:gaM fu f nodes=some r) :
    Calls Tryz.prog 259 [v0_,v1_].toArray w0 fun e w'=>∃ v,e=.returned v∧(Below w0.heap.size w0 w'∧VR w' (St ⟨w0,[]⟩ S [] [] [] true) v r):=by
 obtain rfl:=gaD h0
 obtain rfl:=uv h1
 have H:=Mem.start ⟨w0,[]⟩ S
 refine en Tryz.func259 fun a hf=>?_
 rw [gaM] at hF
 refine bx hf H fun b' a w hf H=>?_
 refine pz 1 hf fun a hf=>?_
 refine ub (ua (sq ?_))
 obtain ⟨c,hGc,hF⟩:=bs_ hF
 have fh:=hf.prune [] rfl
 have Hm:=H.lk 0 0 0 []
 refine midF 4 (.bool c) fh Hm ?_ fun a w hf H=>?_
 refine reg (pz 1 hf fun a hf=>?_)
 refine lB 0 hf H TF.ls3 fun a hf=>?_
 refine pz 2 hf fun a hf=>?_
 obtain ⟨y,hy,hGc⟩:=bs_ hGc
 refine oc hf TF.gey (xF (S:=TT) ug ug ug hy) fun v w a hp hf=>?_
 obtain ⟨hb,hp⟩:=hp
 obtain rfl:=uo hp
 have H:=H.keep hb
 refine pz 1 hf fun a hf=>?_
 refine iteB hGc (fun hc hGc=>?_) fun hc hGc=>?_
 have hf:=hf.lit 10 rfl hc
 refine pz 1 hf fun a hf=>?_
 refine wlg hf rfl rfl rfl (op_q hf (ue hf H TF.ls3 0 rfl rfl rfl) rfl (by decide) fun a hf=>?_)
 refine pz 1 hf fun a hf=>?_
 refine wlg hf rfl rfl rfl (op_q hf (ue hf H TF.ls3 0 rfl rfl rfl) rfl (by decide) fun a hf=>?_)
 refine pz 3 hf fun a hf=>?_
 obtain ⟨y2,hy2,hGc⟩:=bs_ hGc
 refine wlg hf rfl rfl rfl (oC hf TF.gey (xF (S:=TT) ug ug ug hy2) fun v2 w a hp2 hf=>?_)
 obtain ⟨hb2,hp2⟩:=hp2
 obtain rfl:=uo hp2
 have H:=H.keep hb2
 refine pz 2 hf fun a hf=>?_
 refine iteB hGc (fun hc2 hGc=>?_) fun hc2 hGc=>?_
 have hf:=hf.lit 20 rfl hc2
 refine pz 1 hf fun a hf=>?_
 refine wlg hf rfl rfl rfl (op_q hf (ue hf H TF.ls3 0 rfl rfl rfl) rfl (by decide) fun a hf=>?_)
 obtain ⟨y3,hy3,hGc⟩:=bs_ hGc
 refine wlg hf rfl rfl rfl (oC hf TF.gey (xF (S:=TT) ug ug ug hy3) fun v3 w a hp3 hf=>?_)
 obtain ⟨hb3,hp3⟩:=hp3
 obtain rfl:=uo hp3
 have H:=H.keep hb3
 refine pz 2 hf fun a hf=>?_
 refine iteB hGc (fun hc3 hGc=>?_) fun hc3 hGc=>?_
 have hf:=hf.lit 25 rfl hc3
 refine pz 1 hf fun a hf=>?_
 refine wlg hf rfl rfl rfl (op_q hf (ue hf H TF.ls3 0 rfl rfl rfl) rfl (by decide) fun a hf=>?_)
 obtain ⟨y4,hy4,hGc⟩:=bs_ hGc
 refine wlg hf rfl rfl rfl (oC hf TF.gey (xF (S:=TT) ug ug ug hy4) fun v4 w a hp4 hf=>?_)
 obtain ⟨hb4,hp4⟩:=hp4
 obtain rfl:=uo hp4
 have H:=H.keep hb4
 refine pz 2 hf fun a hf=>?_
 obtain rfl:=oi hGc
 have hf:=hf.pn [4]
 have H:=H.lk 0 0 0 []
 exact ub ⟨hf,H⟩
 have hf:=hf.lit 25 rfl hc3
 refine pz 5 hf fun a hf=>?_
 obtain rfl:=oi hGc
 have hf:=hf.pn [4]
 have H:=H.lk 0 0 0 []
 exact ub ⟨hf,H⟩
 have hf:=hf.lit 20 rfl hc2
 refine pz 10 hf fun a hf=>?_
 obtain rfl:=oi hGc
 have hf:=hf.pn [4]
 have H:=H.lk 0 0 0 []
 exact ub ⟨hf,H⟩
 have hf:=hf.lit 10 rfl hc
 refine pz 20 hf fun a hf=>?_
 obtain rfl:=oi hGc
 have hf:=hf.pn [4]
 have H:=H.lk 0 0 0 []
 exact ub ⟨hf,H⟩
 refine ua (wp_ret (?_))
 obtain rfl:=oi hF
 refine rT hf ?_
 exact ⟨_,rfl,H.bel,uk⟩
end AT
