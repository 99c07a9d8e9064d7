/- The Go functions do what is told of them, by program (gen.py). -/
import Derived.Test.YtlemonjnolciiaaGreatWFnSafeOrder0
set_option linter.unusedVariables false
set_option linter.unusedSimpArgs false
set_option maxRecDepth 100000
set_option maxHeartbeats 1000000
namespace AT
open Go Go.RowKit Go.Proofs
variable {fu:Nat} {w0:World}
theorem gb9 {S:Nat→Prop} {b0:Nat} {cs0:List Value} {c:L1CurP} {r:Plan×Plan×L1CurP} (hp0:w0.heap[b0]?=some (.cells cs0.toArray 109 (0,0))) (hr0:GoTy.rep w0 S cs0 c) (hS0:¬S b0) (hF:zj fu c=some r) :
    Calls Tryz.prog 189 [(.pointer (some ⟨b0,0,none⟩))].toArray w0 fun e w'=>∃ v,e=.returned v∧(∃ cs',GoTy.rep w' (fun _=>True) cs' r.2.2∧(cs'[0]?=cs0[0]?∧r.2.2.code=c.code)∧(∃ (A0_0:Option Addr) (c0_0:Nat) (F0_0:List Nat) (A0_1:Option Addr) (c0_1:Nat) (F0_1:List Nat) (A0_2:Option Addr) (c0_2:Nat) (A1_0:Option Addr) (c1_0:Nat) (A1_1:Option Addr) (c1_1:Nat) (A1_2:Option Addr) (c1_2:Nat),v=.tuple #[(.agg #[(.slice A0_0 r.1.Network.Nodes.length c0_0),(.slice A0_1 r.1.Network.Fibers.length c0_1),(.slice A0_2 r.1.Lights.length c0_2)]),(.agg #[(.slice A1_0 r.2.1.Network.Nodes.length c1_0),(.slice A1_1 r.2.1.Network.Fibers.length c1_1),(.slice A1_2 r.2.1.Lights.length c1_2)])]∧Mem ⟨w0,[b0]⟩ S [⟨b0,109,cs'⟩] [] [⟨F0_0,MP.own F0_0 [(.slice A0_0 r.1.Network.Nodes.length c0_0)] (r.1.Network.Nodes:List ByteArray)⟩,⟨F0_1,MP.own F0_1 [(.slice A0_1 r.1.Network.Fibers.length c0_1)] (r.1.Network.Fibers:List Fiber)⟩] [(true,MP.val [(.slice A0_2 r.1.Lights.length c0_2)] (r.1.Lights:List Light)),(true,MP.val [(.slice A1_0 r.2.1.Network.Nodes.length c1_0)] (r.2.1.Network.Nodes:List ByteArray)),(true,MP.val [(.slice A1_1 r.2.1.Network.Fibers.length c1_1)] (r.2.1.Network.Fibers:List Fiber)),(true,MP.val [(.slice A1_2 r.2.1.Lights.length c1_2)] (r.2.1.Lights:List Light))] w')):=by
 obtain ⟨A,c2,rfl,hl⟩:=uc hr0
 have H:=Mem.startB S hp0
 have H:=H.pB hS0 hl
 refine en Tryz.func189 fun a hf=>?_
 rw [zj] at hF
 refine sq (reg (aL hf H TF.zv30 fun b2 a w hf H=>?_))
 refine aL hf H TF.zv30 fun b3 a w hf H=>?_
 refine wr (pz 1 hf fun a hf=>?_)
 obtain ⟨y,hy,hF⟩:=bs_ hF
 refine oc hf TF.cl56 (gcg (S:=NB b0) (H.boxAt 2 rfl) ((ud (x:=c) (H.nb 2 rfl (H.get 0 rfl)))) (fun h=>h rfl) hy) fun v w a hp2 hf=>?_
 obtain ⟨cs2,hr2,⟨hx,hx2⟩,A2,c3,F,A3,c4,F2,A4,c5,E,rfl,Hc⟩:=hp2
 obtain ⟨A5,c6,rfl,hl2⟩:=uc hr2
 obtain ⟨rfl,rfl⟩:=un hx rfl rfl
 have H:=H.compB 2 rfl Hc (.inl rfl)
 have H:=H.pX 0 rfl hx2
 have H:=H.lend 0 rfl
 have H:=H.lend 1 rfl
 refine aL hf H TF.zv30 fun b4 a w hf H=>?_
 refine sB 0 hf H TF.sz30 fun w H=>?_
 refine ub (ua (sq (sq (reg (lN 0 hf H TF.la30 fun a hf=>?_)))))
 obtain ⟨y2,hy2,hF⟩:=bs_ hF
 refine oc hf TF.gft (xA (S:=TT) (uj (x:=y.1) (H.rt 1 rfl) (H.rt 0 rfl) (H.rowTrue 0 rfl)) hy2) fun v2 w a hp3 hf=>?_
 obtain ⟨hb,hp3⟩:=hp3
 obtain rfl:=uo hp3
 have H:=H.keep hb
 refine pz 2 hf fun a hf=>?_
 refine iteB hF (fun hc hF=>?_) fun hc hF=>?_
 have hf:=hf.lit 16 rfl hc
 refine pz 3 hf fun a hf=>?_
 refine ub (ua (cd_t hf rfl rfl (sq (dw [3,4] 5 fun w hb=>?_))))
 have H:=H.keep hb
 refine strT (H.lk 1 0 0 []) (fun w H=>trivial) fun hS=>?_
 refine zS 0 [0,3,4] rfl rfl rfl rfl hf hS (fun w H=>ul hf H TF.la30 0 rfl rfl rfl rfl) fun a hf=>?_
 refine zp 1 hf hS fun a hf=>?_
 obtain ⟨y3,hy3,hF⟩:=bs_ hF
 refine nn 2 rfl (oC hf TF.gkH (gai (S:=NB b0) (H.boxAt 3 rfl) ((ud (x:=y.2) (H.nb 3 rfl (H.get 2 rfl)))) (fun h=>h rfl) hy3) fun v3 w a hp4 hf=>?_)
 obtain ⟨cs3,hr3,⟨hx3,hx4⟩,A6,c7,F3,A7,c8,F4,A8,c9,E2,rfl,Hc2⟩:=hp4
 obtain ⟨A9,c10,rfl,hl3⟩:=uc hr3
 obtain ⟨rfl,rfl⟩:=un hx3 rfl rfl
 have hx5:=hx4.trans hx2
 have H:=H.compB 3 rfl Hc2 (.inl rfl)
 have H:=H.pX 2 rfl hx4
 have H:=H.lend 0 rfl
 have H:=H.lend 1 rfl
 have hS:=H.lk 1 0 0 []
 refine aS hS ?_
 refine nn 3 rfl (uh hf H 2 TF.sz30 rfl rfl rfl rfl rfl rfl (nle rfl) fun w H=>?_)
 refine ⟨fun h=>absurd h (by decide),?_⟩
 refine nn 4 rfl (uh hf H 1 TF.sz30 rfl rfl rfl rfl rfl rfl (nle rfl) fun w H=>?_)
 refine ⟨fun h=>absurd h (by decide),?_⟩
 refine dk ?_
 have hf:=hf.pn [2,3]
 refine ua (wp_ret (uf (?_)))
 have H:=H.freeze 1 rfl
 have H:=H.freeze 0 rfl
 have hcell:GoTy.rep w (fun _=>True) [(.slice A y3.2.code.length c2),(.int .i64 y3.2.at_),(.int .u64 y3.2.seed.n)] (y3.2:L1CurP):=(ud (x:=y3.2) (H.rt 4 rfl))
 have H:=H.frontD 3 rfl
 have H:=H.frontD 3 rfl
 obtain rfl:=oi hF
 refine vL hf rfl (um hf H 2 TF.la30 rfl rfl rfl) (um hf H 1 TF.la30 rfl rfl rfl) ?_
 have H:=H.lk 8 0 3 [1,3,2,0]
 exact ⟨_,rfl,_,hcell,⟨fxc hx5,hx5⟩,A2,c3,F,A3,c4,F2,A4,c5,A6,c7,A7,c8,A8,c9,rfl,H⟩
 have hf:=hf.lit 16 rfl hc
 refine pz 1 hf fun a hf=>?_
 obtain ⟨y4,hy4,hF⟩:=bs_ hF
 refine wlg hf rfl rfl rfl (oC hf TF.cl84 (vQ (S:=NB b0) (H.boxAt 3 rfl) ((ud (x:=y.2) (H.nb 3 rfl (H.get 2 rfl)))) (fun h=>h rfl) ug hy4) fun v4 w a hp5 hf=>?_)
 obtain ⟨hch,cs4,hbx,hr4,⟨hx6,hx7⟩,hs⟩:=hp5
 obtain rfl:=uo hs
 obtain ⟨A10,c11,rfl,hl4⟩:=uc hr4
 obtain ⟨rfl,rfl⟩:=un hx6 rfl rfl
 have hx8:=hx7.trans hx2
 have H:=H.wroteBox 3 rfl hch hbx
 have H:=H.pX 2 rfl hx7
 refine pz 1 hf fun a hf=>?_
 refine ub (ua (ib hF hf (fun hc2 hF=>?_) fun hc2 hF=>?_))
 refine sq (dw [3,4] 5 fun w hb=>?_)
 have H:=H.keep hb
 refine strT (H.lk 1 0 0 []) (fun w H=>trivial) fun hS=>?_
 refine zS 0 [0,3,4] rfl rfl rfl rfl hf hS (fun w H=>ul hf H TF.la30 0 rfl rfl rfl rfl) fun a hf=>?_
 refine zp 1 hf hS fun a hf=>?_
 obtain ⟨y5,hy5,hF⟩:=bs_ hF
 refine nn 2 rfl (oC hf TF.gkH (gai (S:=NB b0) (H.boxAt 3 rfl) ((ud (x:=y4.2) (H.nb 3 rfl (H.get 0 rfl)))) (fun h=>h rfl) hy5) fun v5 w a hp6 hf=>?_)
 obtain ⟨cs5,hr5,⟨hx9,hx10⟩,A11,c12,F5,A12,c13,F6,A13,c14,E3,rfl,Hc3⟩:=hp6
 obtain ⟨A14,c15,rfl,hl5⟩:=uc hr5
 obtain ⟨rfl,rfl⟩:=un hx9 rfl rfl
 have hx11:=hx10.trans hx8
 have H:=H.compB 3 rfl Hc3 (.inl rfl)
 have H:=H.pX 0 rfl hx10
 have H:=H.lend 0 rfl
 have H:=H.lend 1 rfl
 have hS:=H.lk 1 0 0 []
 refine aS hS ?_
 refine nn 3 rfl (uh hf H 2 TF.sz30 rfl rfl rfl rfl rfl rfl (nle rfl) fun w H=>?_)
 refine ⟨fun h=>absurd h (by decide),?_⟩
 refine nn 4 rfl (uh hf H 1 TF.sz30 rfl rfl rfl rfl rfl rfl (nle rfl) fun w H=>?_)
 refine ⟨fun h=>absurd h (by decide),?_⟩
 refine dk ?_
 have hf:=hf.pn [2,3]
 refine ua (wp_ret (uf (?_)))
 have H:=H.freeze 1 rfl
 have H:=H.freeze 0 rfl
 have hcell:GoTy.rep w (fun _=>True) [(.slice A y5.2.code.length c2),(.int .i64 y5.2.at_),(.int .u64 y5.2.seed.n)] (y5.2:L1CurP):=(ud (x:=y5.2) (H.rt 4 rfl))
 have H:=H.frontD 3 rfl
 have H:=H.frontD 3 rfl
 obtain rfl:=oi hF
 refine vL hf rfl (um hf H 2 TF.la30 rfl rfl rfl) (um hf H 1 TF.la30 rfl rfl rfl) ?_
 have H:=H.lk 8 0 3 [1,3,2,0]
 exact ⟨_,rfl,_,hcell,⟨fxc hx11,hx11⟩,A2,c3,F,A3,c4,F2,A4,c5,A11,c12,A12,c13,A13,c14,rfl,H⟩
 refine wp_skip (ua (sq ?_))
 obtain ⟨y6,hy6,hF⟩:=bs_ hF
 obtain ⟨y7,hy7,hF⟩:=bs_ hF
 refine mid (fun a w=>∃ (b5:Nat) (A17:Option Addr) (c18:Nat) (A18:Option Addr) (c19:Nat) (A19:Option Addr) (c20:Nat),y6.2.code=c.code∧Fr a 70 [(0,(.pointer (some ⟨b0,0,none⟩))),(2,(.pointer (some ⟨b2,0,none⟩))),(3,(.pointer (some ⟨b3,0,none⟩))),(4,(.pointer (some ⟨b4,0,none⟩))),(5,(.pointer (some ⟨b5,0,none⟩)))]∧Mem ⟨w0,[b0]⟩ S [⟨b5,30,[(.slice A17 y7.1.Network.Nodes.length c18),(.slice A18 y7.1.Network.Fibers.length c19),(.slice A19 y7.1.Lights.length c20)]⟩,⟨b4,30,[(.slice A2 y.1.Network.Nodes.length c3),(.slice A3 y.1.Network.Fibers.length c4),(.slice A4 y.1.Lights.length c5)]⟩,⟨b3,30,[(.slice none 0 0),(.slice none 0 0),(.slice none 0 0)]⟩,⟨b2,30,[(.slice none 0 0),(.slice none 0 0),(.slice none 0 0)]⟩,⟨b0,109,[(.slice A y6.2.code.length c2),(.int .i64 y6.2.at_),(.int .u64 y6.2.seed.n)]⟩] [] [⟨F,MP.own F [(.slice A2 y.1.Network.Nodes.length c3)] (y.1.Network.Nodes:List ByteArray)⟩,⟨F2,MP.own F2 [(.slice A3 y.1.Network.Fibers.length c4)] (y.1.Network.Fibers:List Fiber)⟩] [(true,MP.val [(.slice A17 y7.1.Network.Nodes.length c18)] (y7.1.Network.Nodes:List ByteArray)),(true,MP.val [(.slice A18 y7.1.Network.Fibers.length c19)] (y7.1.Network.Fibers:List Fiber)),(true,MP.val [(.slice A19 y7.1.Lights.length c20)] (y7.1.Lights:List Light)),(false,MP.val [(.slice A y6.2.code.length c2)] (y6.2.code:List By)),(true,MP.val [(.slice A4 y.1.Lights.length c5)] (y.1.Lights:List Light)),(true,MP.val [(.slice A3 y.1.Network.Fibers.length c4)] (y.1.Network.Fibers:List Fiber)),(true,MP.val [(.slice A2 y.1.Network.Nodes.length c3)] (y.1.Network.Nodes:List ByteArray))] w) ?_ ?_
 refine dw [9] 11 fun w hb=>?_
 have H:=H.keep hb
 refine strT (H.lk 1 0 0 []) (fun w H=>trivial) fun hS=>?_
 refine zS 0 [0,4,5,6,7,9,10] rfl rfl rfl rfl hf hS (fun w H=>ul hf H TF.la30 0 rfl rfl rfl rfl) fun a hf=>?_
 refine zp 1 hf hS fun a hf=>?_
 refine zS 2 [2,3,4,5,6,7,9,10] rfl rfl rfl rfl hf hS (fun w H=>ul hf H TF.la30 0 rfl rfl rfl rfl) fun a hf=>?_
 refine on2 (i:=3) (j:=8) (bi:=[true,true,true,true,false,false,false,false,false,false,false]) (bj:=[true,true,true,false,false,false,false,false,true,false,false]) (by kernel_rfl) rfl rfl rfl rfl rfl rfl ?_ ?_
 have H:=H.freeze 0 rfl
 refine (oC hf TF.glg (gaO (S:=NB b0) (H.boxAt 3 rfl) ((ud (x:=y4.2) (H.nb 3 rfl (H.get 1 rfl)))) (fun h=>h rfl) (uj (x:=y.1) (H.nb 3 rfl (H.get 3 rfl)) (H.nb 3 rfl (H.get 2 rfl)) (H.nb 3 rfl (H.get 0 rfl))) hy6) fun v6 w a hp7 hf=>?_)
 obtain ⟨hch2,cs6,hbx2,hr6,⟨hx12,hx13⟩,hs2⟩:=hp7
 obtain ⟨F7,hp8,hN⟩:=hs2
 obtain ⟨A15,c16,rfl,hl6⟩:=xP hp8
 obtain ⟨A16,c17,rfl,hl7⟩:=uc hr6
 obtain ⟨rfl,rfl⟩:=un hx12 rfl rfl
 have hx14:=hx13.trans hx8
 have H:=H.bO1 3 rfl hch2 hbx2 hN hl6
 have H:=H.pX 1 rfl hx13
 have H:=H.lend 0 rfl
 have hS:=H.lk 1 0 0 []
 refine aS hS ?_
 refine on2 (i:=4) (j:=8) (bi:=[true,true,true,true,true,false,false,false,false,false,false]) (bj:=[true,true,true,true,false,false,false,false,true,false,false]) (by kernel_rfl) rfl rfl rfl rfl rfl rfl ?_ ?_
 refine (oC hf TF.gkF (gbM (S:=TT) (uj (x:=y.1) (H.rt 5 rfl) (H.rt 4 rfl) (H.rt 2 rfl)) (uB (H.rt 0 rfl)) hy7) fun v7 w a hp9 hf=>?_)
 obtain ⟨A17,c18,A18,c19,A19,c20,rfl,Hc4⟩:=hp9
 have H:=H.comp Hc4 (.inl rfl)
 have hS:=H.lk 1 0 0 []
 refine aS hS ?_
 refine zp 5 hf hS fun a hf=>?_
 refine zp 6 hf hS fun a hf=>?_
 refine zp 7 hf hS fun a hf=>?_
 refine nn 8 rfl (vc hf H TF.zv30 rfl (by decide) fun b5 a w hf H=>?_)
 have hS:=H.lk 2 0 0 []
 refine aS hS ?_
 refine nn 9 rfl (uh hf H 0 TF.sz30 rfl rfl rfl rfl rfl rfl (nle rfl) fun w H=>?_)
 refine ⟨fun h=>absurd h (by decide),?_⟩
 refine tp 10 rfl rfl hf (by kernel_rfl) (fun h=>absurd h (by decide)) rfl fun a hf=>?_
 refine dk ?_
 have hf:=hf.pn [0,2,3,4,5]
 have H:=H.lm 31 0 6 9 439
 exact ⟨b5,A17,c18,A18,c19,A19,c20,hx14,hf,H⟩
 refine (vc hf H TF.zv30 rfl (by decide) fun b5 a w hf H=>?_)
 have hS:=H.lk 2 0 0 []
 refine aS hS ?_
 refine nn 4 rfl (oC hf TF.gkF (gbM (S:=TT) (uj (x:=y.1) (H.rt 5 rfl) (H.rt 4 rfl) (H.rt 2 rfl)) (uB (H.rt 0 rfl)) hy7) fun v7 w a hp9 hf=>?_)
 obtain ⟨A17,c18,A18,c19,A19,c20,rfl,Hc4⟩:=hp9
 have H:=H.comp Hc4 (.inl rfl)
 have hS:=H.lk 2 0 0 []
 refine aS hS ?_
 refine zp 5 hf hS fun a hf=>?_
 refine zp 6 hf hS fun a hf=>?_
 refine zp 7 hf hS fun a hf=>?_
 refine nn 9 rfl (uh hf H 0 TF.sz30 rfl rfl rfl rfl rfl rfl (nle rfl) fun w H=>?_)
 refine ⟨fun h=>absurd h (by decide),?_⟩
 refine tp 10 rfl rfl hf (by kernel_rfl) (fun h=>absurd h (by decide)) rfl fun a hf=>?_
 refine dk ?_
 have hf:=hf.pn [0,2,3,4,5]
 have H:=H.lm 31 0 6 9 439
 exact ⟨b5,A17,c18,A18,c19,A19,c20,hx14,hf,H⟩
 refine (vc hf H TF.zv30 rfl (by decide) fun b5 a w hf H=>?_)
 have hS:=H.lk 2 0 0 []
 refine aS hS ?_
 have H:=H.freeze 0 rfl
 refine nn 3 rfl (oC hf TF.glg (gaO (S:=NB b0) (H.boxAt 4 rfl) ((ud (x:=y4.2) (H.nb 4 rfl (H.get 1 rfl)))) (fun h=>h rfl) (uj (x:=y.1) (H.nb 4 rfl (H.get 3 rfl)) (H.nb 4 rfl (H.get 2 rfl)) (H.nb 4 rfl (H.get 0 rfl))) hy6) fun v6 w a hp7 hf=>?_)
 obtain ⟨hch2,cs6,hbx2,hr6,⟨hx12,hx13⟩,hs2⟩:=hp7
 obtain ⟨F7,hp8,hN⟩:=hs2
 obtain ⟨A15,c16,rfl,hl6⟩:=xP hp8
 obtain ⟨A16,c17,rfl,hl7⟩:=uc hr6
 obtain ⟨rfl,rfl⟩:=un hx12 rfl rfl
 have hx14:=hx13.trans hx8
 have H:=H.bO1 4 rfl hch2 hbx2 hN hl6
 have H:=H.pX 1 rfl hx13
 have H:=H.lend 0 rfl
 have hS:=H.lk 2 0 0 []
 refine aS hS ?_
 refine nn 4 rfl (oC hf TF.gkF (gbM (S:=TT) (uj (x:=y.1) (H.rt 5 rfl) (H.rt 4 rfl) (H.rt 2 rfl)) (uB (H.rt 0 rfl)) hy7) fun v7 w a hp9 hf=>?_)
 obtain ⟨A17,c18,A18,c19,A19,c20,rfl,Hc4⟩:=hp9
 have H:=H.comp Hc4 (.inl rfl)
 have hS:=H.lk 2 0 0 []
 refine aS hS ?_
 refine zp 5 hf hS fun a hf=>?_
 refine zp 6 hf hS fun a hf=>?_
 refine zp 7 hf hS fun a hf=>?_
 refine nn 9 rfl (uh hf H 0 TF.sz30 rfl rfl rfl rfl rfl rfl (nle rfl) fun w H=>?_)
 refine ⟨fun h=>absurd h (by decide),?_⟩
 refine tp 10 rfl rfl hf (by kernel_rfl) (fun h=>absurd h (by decide)) rfl fun a hf=>?_
 refine dk ?_
 have hf:=hf.pn [0,2,3,4,5]
 have H:=H.lm 31 0 6 9 439
 exact ⟨b5,A17,c18,A18,c19,A19,c20,hx14,hf,H⟩
 rintro a w ⟨b5,A17,c18,A18,c19,A19,c20,hx14,hf,H⟩
 refine ua (sq (sqz (pz 1 hf fun a hf=>?_)))
 refine lB 0 hf H TF.ls28 fun a hf=>?_
 refine pz 3 hf fun a hf=>?_
 refine iteB hF (fun hc3 hF=>?_) fun hc3 hF=>?_
 have hf:=hf.lit 35 rfl hc3
 refine pz 1 hf fun a hf=>?_
 obtain ⟨y8,hy8,hF⟩:=bs_ hF
 refine wlg hf rfl rfl rfl (oC hf TF.cl84 (vQ (S:=NB b0) (H.boxAt 4 rfl) ((ud (x:=y6.2) (H.nb 4 rfl (H.get 3 rfl)))) (fun h=>h rfl) ug hy8) fun v8 w a hp10 hf=>?_)
 obtain ⟨hch3,cs7,hbx3,hr7,⟨hx15,hx16⟩,hs3⟩:=hp10
 obtain rfl:=uo hs3
 obtain ⟨A20,c21,rfl,hl8⟩:=uc hr7
 obtain ⟨rfl,rfl⟩:=un hx15 rfl rfl
 have hx17:=hx16.trans hx14
 have H:=H.wroteBox 4 rfl hch3 hbx3
 have H:=H.pX 3 rfl hx16
 refine pz 1 hf fun a hf=>?_
 refine ub (ua (ib hF hf (fun hc4 hF=>?_) fun hc4 hF=>?_))
 refine sq ?_
 obtain ⟨e,he,hF⟩:=bs_ hF
 obtain ⟨e2,he2,hF⟩:=bs_ hF
 refine mid (fun a w=>∃ (b7:Nat) (A22:Option Addr) (c23:Nat) (b6:Nat) (A21:Option Addr) (c22:Nat),Fr a 70 [(2,(.pointer (some ⟨b2,0,none⟩))),(3,(.pointer (some ⟨b3,0,none⟩))),(4,(.pointer (some ⟨b4,0,none⟩))),(5,(.pointer (some ⟨b5,0,none⟩))),(7,(.pointer (some ⟨b6,0,none⟩))),(8,(.pointer (some ⟨b7,0,none⟩)))]∧Mem ⟨w0,[b0]⟩ S [⟨b7,49,[(.int .i64 e2.Id),(.int .i64 e2.Route.Start),(.slice A22 e2.Route.Fibers.length c23),(.int .i64 e2.Block.First),(.int .i64 e2.Block.Count)]⟩,⟨b6,49,[(.int .i64 e.Id),(.int .i64 e.Route.Start),(.slice A21 e.Route.Fibers.length c22),(.int .i64 e.Block.First),(.int .i64 e.Block.Count)]⟩,⟨b5,30,[(.slice A17 y7.1.Network.Nodes.length c18),(.slice A18 y7.1.Network.Fibers.length c19),(.slice A19 y7.1.Lights.length c20)]⟩,⟨b4,30,[(.slice A2 y.1.Network.Nodes.length c3),(.slice A3 y.1.Network.Fibers.length c4),(.slice A4 y.1.Lights.length c5)]⟩,⟨b3,30,[(.slice none 0 0),(.slice none 0 0),(.slice none 0 0)]⟩,⟨b2,30,[(.slice none 0 0),(.slice none 0 0),(.slice none 0 0)]⟩,⟨b0,109,[(.slice A y8.2.code.length c2),(.int .i64 y8.2.at_),(.int .u64 y8.2.seed.n)]⟩] [] [⟨F,MP.own F [(.slice A2 y.1.Network.Nodes.length c3)] (y.1.Network.Nodes:List ByteArray)⟩,⟨F2,MP.own F2 [(.slice A3 y.1.Network.Fibers.length c4)] (y.1.Network.Fibers:List Fiber)⟩] [(true,MP.val [(.slice A22 e2.Route.Fibers.length c23)] (e2.Route.Fibers:List Int)),(true,MP.val [(.slice A21 e.Route.Fibers.length c22)] (e.Route.Fibers:List Int)),(false,MP.val [(.slice A y8.2.code.length c2)] (y8.2.code:List By)),(true,MP.val [(.slice A17 y7.1.Network.Nodes.length c18)] (y7.1.Network.Nodes:List ByteArray)),(true,MP.val [(.slice A18 y7.1.Network.Fibers.length c19)] (y7.1.Network.Fibers:List Fiber)),(true,MP.val [(.slice A19 y7.1.Lights.length c20)] (y7.1.Lights:List Light)),(true,MP.val [(.slice A4 y.1.Lights.length c5)] (y.1.Lights:List Light)),(true,MP.val [(.slice A3 y.1.Network.Fibers.length c4)] (y.1.Network.Fibers:List Fiber)),(true,MP.val [(.slice A2 y.1.Network.Nodes.length c3)] (y.1.Network.Nodes:List ByteArray))] w) ?_ ?_
 refine dw [10,11] 12 fun w hb=>?_
 have H:=H.keep hb
 refine zp 0 hf trivial fun a hf=>?_
 refine strT (H.lk 1 0 0 []) (fun w H=>trivial) fun hS=>?_
 refine zS 1 [1,2,3,10,11] rfl rfl rfl rfl hf hS (fun w H=>ue hf H TF.ls28 0 rfl rfl rfl) fun a hf=>?_
 obtain ⟨p,o2,cs8,hx18,hr8,H⟩:=ux H Tryz.underlying28 TF.sz49 3 rfl he
 refine zP 2 rfl rfl rfl rfl hf hS (fun w=>uu hf rfl rfl rfl hx18 w) fun a hf=>?_
 obtain ⟨A21,c22,rfl,hl9⟩:=uq hr8
 have H:=H.pT hl9
 refine strT (H.lk 1 0 0 [1]) (fun w H=>H.lk 1 0 0 []) fun hS=>?_
 refine zS 3 [3,10,11] rfl rfl rfl rfl hf hS (fun w H=>uz hf H TF.la49 0 0 rfl rfl rfl rfl) fun a hf=>?_
 refine zp 4 hf hS fun a hf=>?_
 refine on3 (i:=5) (j:=8) (k:=9) (bi:=[true,true,true,true,true,true,false,false,false,false,false,false]) (bj:=[true,true,true,true,true,false,false,false,true,false,false,false]) (bk:=[true,true,true,true,true,false,false,false,false,true,false,false]) (by kernel_rfl) rfl rfl rfl rfl rfl rfl rfl rfl rfl ?_ ?_ ?_
 refine (op_q hf (ue hf H TF.ls28 0 rfl rfl rfl) rfl (by decide) fun a hf=>?_)
 have hS:=H.lk 1 0 0 [1]
 refine aS hS ?_
 obtain ⟨p2,o3,cs9,hx19,hr9,H⟩:=ux H Tryz.underlying28 TF.sz49 5 rfl he2
 refine zP 6 rfl rfl rfl rfl hf hS (fun w=>uu hf rfl rfl rfl hx19 w) fun a hf=>?_
 obtain ⟨A22,c23,rfl,hl10⟩:=uq hr9
 have H:=H.pT hl10
 refine on3 (i:=7) (j:=8) (k:=9) (bi:=[true,true,true,true,true,true,true,true,false,false,false,false]) (bj:=[true,true,true,true,true,true,true,false,true,false,false,false]) (bk:=[true,true,true,true,true,true,true,false,false,true,false,false]) (by kernel_rfl) rfl rfl rfl rfl rfl rfl rfl rfl rfl ?_ ?_ ?_
 refine (op_q hf (uz hf H TF.la49 1 0 rfl rfl rfl rfl) rfl (by decide) fun a hf=>?_)
 have hS:=H.lk 1 0 0 [3]
 refine aS hS ?_
 refine on2 (i:=8) (j:=9) (bi:=[true,true,true,true,true,true,true,true,true,false,false,false]) (bj:=[true,true,true,true,true,true,true,true,false,true,false,false]) (by kernel_rfl) rfl rfl rfl rfl rfl rfl ?_ ?_
 refine (vc hf H TF.zv49 rfl (by decide) fun b6 a w hf H=>?_)
 have hS:=H.lk 2 0 0 [3]
 refine aS hS ?_
 refine nn 9 rfl (vc hf H TF.zv49 rfl (by decide) fun b7 a w hf H=>?_)
 have hS:=H.lk 4 0 0 [3]
 refine aS hS ?_
 refine nn 10 rfl (uh hf H 1 TF.sz49 rfl rfl rfl rfl rfl rfl (nle rfl) fun w H=>?_)
 refine ⟨fun h=>absurd h (by decide),?_⟩
 refine nn 11 rfl (uh hf H 0 TF.sz49 rfl rfl rfl rfl rfl rfl (nle rfl) fun w H=>?_)
 refine ⟨fun h=>absurd h (by decide),?_⟩
 refine dk ?_
 have hf:=hf.pn [2,3,4,5,7,8]
 have H:=H.lm 127 0 3 12 3829
 exact ⟨b7,A22,c23,b6,A21,c22,hf,H⟩
 refine (vc hf H TF.zv49 rfl (by decide) fun b6 a w hf H=>?_)
 have hS:=H.lk 2 0 0 [3]
 refine aS hS ?_
 refine nn 8 rfl (vc hf H TF.zv49 rfl (by decide) fun b7 a w hf H=>?_)
 have hS:=H.lk 4 0 0 [3]
 refine aS hS ?_
 refine nn 10 rfl (uh hf H 0 TF.sz49 rfl rfl rfl rfl rfl rfl (nle rfl) fun w H=>?_)
 refine ⟨fun h=>absurd h (by decide),?_⟩
 refine nn 11 rfl (uh hf H 1 TF.sz49 rfl rfl rfl rfl rfl rfl (nle rfl) fun w H=>?_)
 refine ⟨fun h=>absurd h (by decide),?_⟩
 refine dk ?_
 have H:=H.frontM 6 rfl
 have H:=H.frontM 6 rfl
 have H:=H.frontM 6 rfl
 have H:=H.frontM 6 rfl
 have H:=H.frontM 6 rfl
 have H:=H.frontM 5 rfl
 have H:=H.frontM 6 rfl
 have hf:=hf.pn [2,3,4,5,7,8]
 have H:=H.lm 127 0 3 12 3829
 exact ⟨b6,A22,c23,b7,A21,c22,hf,H⟩
 refine (vc hf H TF.zv49 rfl (by decide) fun b6 a w hf H=>?_)
 have hS:=H.lk 2 0 0 [3]
 refine aS hS ?_
 refine on2 (i:=7) (j:=9) (bi:=[true,true,true,true,true,true,true,true,true,false,false,false]) (bj:=[true,true,true,true,true,true,true,false,true,true,false,false]) (by kernel_rfl) rfl rfl rfl rfl rfl rfl ?_ ?_
 refine (op_q hf (uz hf H TF.la49 1 0 rfl rfl rfl rfl) rfl (by decide) fun a hf=>?_)
 have hS:=H.lk 2 0 0 [3]
 refine aS hS ?_
 refine nn 9 rfl (vc hf H TF.zv49 rfl (by decide) fun b7 a w hf H=>?_)
 have hS:=H.lk 4 0 0 [3]
 refine aS hS ?_
 refine nn 10 rfl (uh hf H 1 TF.sz49 rfl rfl rfl rfl rfl rfl (nle rfl) fun w H=>?_)
 refine ⟨fun h=>absurd h (by decide),?_⟩
 refine nn 11 rfl (uh hf H 0 TF.sz49 rfl rfl rfl rfl rfl rfl (nle rfl) fun w H=>?_)
 refine ⟨fun h=>absurd h (by decide),?_⟩
 refine dk ?_
 have hf:=hf.pn [2,3,4,5,7,8]
 have H:=H.lm 127 0 3 12 3829
 exact ⟨b7,A22,c23,b6,A21,c22,hf,H⟩
 refine (vc hf H TF.zv49 rfl (by decide) fun b7 a w hf H=>?_)
 have hS:=H.lk 4 0 0 [3]
 refine aS hS ?_
 refine on2 (i:=7) (j:=10) (bi:=[true,true,true,true,true,true,true,true,true,true,false,false]) (bj:=[true,true,true,true,true,true,true,false,true,true,true,false]) (by kernel_rfl) rfl rfl rfl rfl rfl rfl ?_ ?_
 refine (op_q hf (uz hf H TF.la49 1 0 rfl rfl rfl rfl) rfl (by decide) fun a hf=>?_)
 have hS:=H.lk 4 0 0 [3]
 refine aS hS ?_
 refine nn 10 rfl (uh hf H 1 TF.sz49 rfl rfl rfl rfl rfl rfl (nle rfl) fun w H=>?_)
 refine ⟨fun h=>absurd h (by decide),?_⟩
 refine nn 11 rfl (uh hf H 0 TF.sz49 rfl rfl rfl rfl rfl rfl (nle rfl) fun w H=>?_)
 refine ⟨fun h=>absurd h (by decide),?_⟩
 refine dk ?_
 have hf:=hf.pn [2,3,4,5,7,8]
 have H:=H.lm 127 0 3 12 3829
 exact ⟨b7,A22,c23,b6,A21,c22,hf,H⟩
 refine (uh hf H 1 TF.sz49 rfl rfl rfl rfl rfl rfl (nle rfl) fun w H=>?_)
 refine ⟨fun h=>absurd h (by decide),?_⟩
 refine nn 7 rfl (op_q hf (uz hf H TF.la49 1 0 rfl rfl rfl rfl) rfl (by decide) fun a hf=>?_)
 refine ⟨fun h=>absurd h (by decide),?_⟩
 refine nn 11 rfl (uh hf H 0 TF.sz49 rfl rfl rfl rfl rfl rfl (nle rfl) fun w H=>?_)
 refine ⟨fun h=>absurd h (by decide),?_⟩
 refine dk ?_
 have hf:=hf.pn [2,3,4,5,7,8]
 have H:=H.lm 127 0 3 12 3829
 exact ⟨b7,A22,c23,b6,A21,c22,hf,H⟩
 refine (vc hf H TF.zv49 rfl (by decide) fun b6 a w hf H=>?_)
 have hS:=H.lk 2 0 0 [3]
 refine aS hS ?_
 refine on2 (i:=7) (j:=8) (bi:=[true,true,true,true,true,true,true,true,false,true,false,false]) (bj:=[true,true,true,true,true,true,true,false,true,true,false,false]) (by kernel_rfl) rfl rfl rfl rfl rfl rfl ?_ ?_
 refine (op_q hf (uz hf H TF.la49 1 0 rfl rfl rfl rfl) rfl (by decide) fun a hf=>?_)
 have hS:=H.lk 2 0 0 [3]
 refine aS hS ?_
 refine nn 8 rfl (vc hf H TF.zv49 rfl (by decide) fun b7 a w hf H=>?_)
 have hS:=H.lk 4 0 0 [3]
 refine aS hS ?_
 refine nn 10 rfl (uh hf H 0 TF.sz49 rfl rfl rfl rfl rfl rfl (nle rfl) fun w H=>?_)
 refine ⟨fun h=>absurd h (by decide),?_⟩
 refine nn 11 rfl (uh hf H 1 TF.sz49 rfl rfl rfl rfl rfl rfl (nle rfl) fun w H=>?_)
 refine ⟨fun h=>absurd h (by decide),?_⟩
 refine dk ?_
 have H:=H.frontM 6 rfl
 have H:=H.frontM 6 rfl
 have H:=H.frontM 6 rfl
 have H:=H.frontM 6 rfl
 have H:=H.frontM 6 rfl
 have H:=H.frontM 5 rfl
 have H:=H.frontM 6 rfl
 have hf:=hf.pn [2,3,4,5,7,8]
 have H:=H.lm 127 0 3 12 3829
 exact ⟨b6,A22,c23,b7,A21,c22,hf,H⟩
 refine (vc hf H TF.zv49 rfl (by decide) fun b7 a w hf H=>?_)
 have hS:=H.lk 4 0 0 [3]
 refine aS hS ?_
 refine on2 (i:=7) (j:=10) (bi:=[true,true,true,true,true,true,true,true,true,true,false,false]) (bj:=[true,true,true,true,true,true,true,false,true,true,true,false]) (by kernel_rfl) rfl rfl rfl rfl rfl rfl ?_ ?_
 refine (op_q hf (uz hf H TF.la49 1 0 rfl rfl rfl rfl) rfl (by decide) fun a hf=>?_)
 have hS:=H.lk 4 0 0 [3]
 refine aS hS ?_
 refine nn 10 rfl (uh hf H 0 TF.sz49 rfl rfl rfl rfl rfl rfl (nle rfl) fun w H=>?_)
 refine ⟨fun h=>absurd h (by decide),?_⟩
 refine nn 11 rfl (uh hf H 1 TF.sz49 rfl rfl rfl rfl rfl rfl (nle rfl) fun w H=>?_)
 refine ⟨fun h=>absurd h (by decide),?_⟩
 refine dk ?_
 have H:=H.frontM 6 rfl
 have H:=H.frontM 6 rfl
 have H:=H.frontM 6 rfl
 have H:=H.frontM 6 rfl
 have H:=H.frontM 6 rfl
 have H:=H.frontM 5 rfl
 have H:=H.frontM 6 rfl
 have hf:=hf.pn [2,3,4,5,7,8]
 have H:=H.lm 127 0 3 12 3829
 exact ⟨b6,A22,c23,b7,A21,c22,hf,H⟩
 refine (uh hf H 0 TF.sz49 rfl rfl rfl rfl rfl rfl (nle rfl) fun w H=>?_)
 refine ⟨fun h=>absurd h (by decide),?_⟩
 refine nn 7 rfl (op_q hf (uz hf H TF.la49 1 0 rfl rfl rfl rfl) rfl (by decide) fun a hf=>?_)
 refine ⟨fun h=>absurd h (by decide),?_⟩
 refine nn 11 rfl (uh hf H 1 TF.sz49 rfl rfl rfl rfl rfl rfl (nle rfl) fun w H=>?_)
 refine ⟨fun h=>absurd h (by decide),?_⟩
 refine dk ?_
 have H:=H.frontM 6 rfl
 have H:=H.frontM 6 rfl
 have H:=H.frontM 6 rfl
 have H:=H.frontM 6 rfl
 have H:=H.frontM 6 rfl
 have H:=H.frontM 5 rfl
 have H:=H.frontM 6 rfl
 have hf:=hf.pn [2,3,4,5,7,8]
 have H:=H.lm 127 0 3 12 3829
 exact ⟨b6,A22,c23,b7,A21,c22,hf,H⟩
 refine (vc hf H TF.zv49 rfl (by decide) fun b6 a w hf H=>?_)
 have hS:=H.lk 2 0 0 [1]
 refine aS hS ?_
 refine on2 (i:=5) (j:=9) (bi:=[true,true,true,true,true,true,false,false,true,false,false,false]) (bj:=[true,true,true,true,true,false,false,false,true,true,false,false]) (by kernel_rfl) rfl rfl rfl rfl rfl rfl ?_ ?_
 refine (op_q hf (ue hf H TF.ls28 1 rfl rfl rfl) rfl (by decide) fun a hf=>?_)
 have hS:=H.lk 2 0 0 [1]
 refine aS hS ?_
 obtain ⟨p2,o3,cs9,hx19,hr9,H⟩:=ux H Tryz.underlying28 TF.sz49 5 rfl he2
 refine zP 6 rfl rfl rfl rfl hf hS (fun w=>uu hf rfl rfl rfl hx19 w) fun a hf=>?_
 obtain ⟨A22,c23,rfl,hl10⟩:=uq hr9
 have H:=H.pT hl10
 refine on2 (i:=7) (j:=9) (bi:=[true,true,true,true,true,true,true,true,true,false,false,false]) (bj:=[true,true,true,true,true,true,true,false,true,true,false,false]) (by kernel_rfl) rfl rfl rfl rfl rfl rfl ?_ ?_
 refine (op_q hf (uz hf H TF.la49 1 0 rfl rfl rfl rfl) rfl (by decide) fun a hf=>?_)
 have hS:=H.lk 2 0 0 [3]
 refine aS hS ?_
 refine nn 9 rfl (vc hf H TF.zv49 rfl (by decide) fun b7 a w hf H=>?_)
 have hS:=H.lk 4 0 0 [3]
 refine aS hS ?_
 refine nn 10 rfl (uh hf H 1 TF.sz49 rfl rfl rfl rfl rfl rfl (nle rfl) fun w H=>?_)
 refine ⟨fun h=>absurd h (by decide),?_⟩
 refine nn 11 rfl (uh hf H 0 TF.sz49 rfl rfl rfl rfl rfl rfl (nle rfl) fun w H=>?_)
 refine ⟨fun h=>absurd h (by decide),?_⟩
 refine dk ?_
 have hf:=hf.pn [2,3,4,5,7,8]
 have H:=H.lm 127 0 3 12 3829
 exact ⟨b7,A22,c23,b6,A21,c22,hf,H⟩
 refine (vc hf H TF.zv49 rfl (by decide) fun b7 a w hf H=>?_)
 have hS:=H.lk 4 0 0 [3]
 refine aS hS ?_
 refine on2 (i:=7) (j:=10) (bi:=[true,true,true,true,true,true,true,true,true,true,false,false]) (bj:=[true,true,true,true,true,true,true,false,true,true,true,false]) (by kernel_rfl) rfl rfl rfl rfl rfl rfl ?_ ?_
 refine (op_q hf (uz hf H TF.la49 1 0 rfl rfl rfl rfl) rfl (by decide) fun a hf=>?_)
 have hS:=H.lk 4 0 0 [3]
 refine aS hS ?_
 refine nn 10 rfl (uh hf H 1 TF.sz49 rfl rfl rfl rfl rfl rfl (nle rfl) fun w H=>?_)
 refine ⟨fun h=>absurd h (by decide),?_⟩
 refine nn 11 rfl (uh hf H 0 TF.sz49 rfl rfl rfl rfl rfl rfl (nle rfl) fun w H=>?_)
 refine ⟨fun h=>absurd h (by decide),?_⟩
 refine dk ?_
 have hf:=hf.pn [2,3,4,5,7,8]
 have H:=H.lm 127 0 3 12 3829
 exact ⟨b7,A22,c23,b6,A21,c22,hf,H⟩
 refine (uh hf H 1 TF.sz49 rfl rfl rfl rfl rfl rfl (nle rfl) fun w H=>?_)
 refine ⟨fun h=>absurd h (by decide),?_⟩
 refine nn 7 rfl (op_q hf (uz hf H TF.la49 1 0 rfl rfl rfl rfl) rfl (by decide) fun a hf=>?_)
 refine ⟨fun h=>absurd h (by decide),?_⟩
 refine nn 11 rfl (uh hf H 0 TF.sz49 rfl rfl rfl rfl rfl rfl (nle rfl) fun w H=>?_)
 refine ⟨fun h=>absurd h (by decide),?_⟩
 refine dk ?_
 have hf:=hf.pn [2,3,4,5,7,8]
 have H:=H.lm 127 0 3 12 3829
 exact ⟨b7,A22,c23,b6,A21,c22,hf,H⟩
 refine (vc hf H TF.zv49 rfl (by decide) fun b7 a w hf H=>?_)
 have hS:=H.lk 4 0 0 [1]
 refine aS hS ?_
 refine on2 (i:=5) (j:=10) (bi:=[true,true,true,true,true,true,false,false,true,true,false,false]) (bj:=[true,true,true,true,true,false,false,false,true,true,true,false]) (by kernel_rfl) rfl rfl rfl rfl rfl rfl ?_ ?_
 refine (op_q hf (ue hf H TF.ls28 2 rfl rfl rfl) rfl (by decide) fun a hf=>?_)
 have hS:=H.lk 4 0 0 [1]
 refine aS hS ?_
 obtain ⟨p2,o3,cs9,hx19,hr9,H⟩:=ux H Tryz.underlying28 TF.sz49 5 rfl he2
 refine zP 6 rfl rfl rfl rfl hf hS (fun w=>uu hf rfl rfl rfl hx19 w) fun a hf=>?_
 obtain ⟨A22,c23,rfl,hl10⟩:=uq hr9
 have H:=H.pT hl10
 refine on2 (i:=7) (j:=10) (bi:=[true,true,true,true,true,true,true,true,true,true,false,false]) (bj:=[true,true,true,true,true,true,true,false,true,true,true,false]) (by kernel_rfl) rfl rfl rfl rfl rfl rfl ?_ ?_
 refine (op_q hf (uz hf H TF.la49 1 0 rfl rfl rfl rfl) rfl (by decide) fun a hf=>?_)
 have hS:=H.lk 4 0 0 [3]
 refine aS hS ?_
 refine nn 10 rfl (uh hf H 1 TF.sz49 rfl rfl rfl rfl rfl rfl (nle rfl) fun w H=>?_)
 refine ⟨fun h=>absurd h (by decide),?_⟩
 refine nn 11 rfl (uh hf H 0 TF.sz49 rfl rfl rfl rfl rfl rfl (nle rfl) fun w H=>?_)
 refine ⟨fun h=>absurd h (by decide),?_⟩
 refine dk ?_
 have hf:=hf.pn [2,3,4,5,7,8]
 have H:=H.lm 127 0 3 12 3829
 exact ⟨b7,A22,c23,b6,A21,c22,hf,H⟩
 refine (uh hf H 1 TF.sz49 rfl rfl rfl rfl rfl rfl (nle rfl) fun w H=>?_)
 refine ⟨fun h=>absurd h (by decide),?_⟩
 refine nn 7 rfl (op_q hf (uz hf H TF.la49 1 0 rfl rfl rfl rfl) rfl (by decide) fun a hf=>?_)
 refine ⟨fun h=>absurd h (by decide),?_⟩
 refine nn 11 rfl (uh hf H 0 TF.sz49 rfl rfl rfl rfl rfl rfl (nle rfl) fun w H=>?_)
 refine ⟨fun h=>absurd h (by decide),?_⟩
 refine dk ?_
 have hf:=hf.pn [2,3,4,5,7,8]
 have H:=H.lm 127 0 3 12 3829
 exact ⟨b7,A22,c23,b6,A21,c22,hf,H⟩
 refine (uh hf H 1 TF.sz49 rfl rfl rfl rfl rfl rfl (nle rfl) fun w H=>?_)
 refine ⟨fun h=>absurd h (by decide),?_⟩
 refine nn 5 rfl (op_q hf (ue hf H TF.ls28 2 rfl rfl rfl) rfl (by decide) fun a hf=>?_)
 refine ⟨fun h=>absurd h (by decide),?_⟩
 obtain ⟨p2,o3,cs9,hx19,hr9,H⟩:=ux H Tryz.underlying28 TF.sz49 5 rfl he2
 refine tP 6 rfl rfl rfl rfl hf (by kernel_rfl) (fun h=>absurd h (by decide)) (fun w=>uu hf rfl rfl rfl hx19 w) fun a hf=>?_
 obtain ⟨A22,c23,rfl,hl10⟩:=uq hr9
 have H:=H.pT hl10
 refine nn 7 rfl (op_q hf (uz hf H TF.la49 1 0 rfl rfl rfl rfl) rfl (by decide) fun a hf=>?_)
 refine ⟨fun h=>absurd h (by decide),?_⟩
 refine nn 11 rfl (uh hf H 0 TF.sz49 rfl rfl rfl rfl rfl rfl (nle rfl) fun w H=>?_)
 refine ⟨fun h=>absurd h (by decide),?_⟩
 refine dk ?_
 have hf:=hf.pn [2,3,4,5,7,8]
 have H:=H.lm 127 0 3 12 3829
 exact ⟨b7,A22,c23,b6,A21,c22,hf,H⟩
 refine (vc hf H TF.zv49 rfl (by decide) fun b6 a w hf H=>?_)
 have hS:=H.lk 2 0 0 [1]
 refine aS hS ?_
 refine on2 (i:=5) (j:=8) (bi:=[true,true,true,true,true,true,false,false,false,true,false,false]) (bj:=[true,true,true,true,true,false,false,false,true,true,false,false]) (by kernel_rfl) rfl rfl rfl rfl rfl rfl ?_ ?_
 refine (op_q hf (ue hf H TF.ls28 1 rfl rfl rfl) rfl (by decide) fun a hf=>?_)
 have hS:=H.lk 2 0 0 [1]
 refine aS hS ?_
 obtain ⟨p2,o3,cs9,hx19,hr9,H⟩:=ux H Tryz.underlying28 TF.sz49 5 rfl he2
 refine zP 6 rfl rfl rfl rfl hf hS (fun w=>uu hf rfl rfl rfl hx19 w) fun a hf=>?_
 obtain ⟨A22,c23,rfl,hl10⟩:=uq hr9
 have H:=H.pT hl10
 refine on2 (i:=7) (j:=8) (bi:=[true,true,true,true,true,true,true,true,false,true,false,false]) (bj:=[true,true,true,true,true,true,true,false,true,true,false,false]) (by kernel_rfl) rfl rfl rfl rfl rfl rfl ?_ ?_
 refine (op_q hf (uz hf H TF.la49 1 0 rfl rfl rfl rfl) rfl (by decide) fun a hf=>?_)
 have hS:=H.lk 2 0 0 [3]
 refine aS hS ?_
 refine nn 8 rfl (vc hf H TF.zv49 rfl (by decide) fun b7 a w hf H=>?_)
 have hS:=H.lk 4 0 0 [3]
 refine aS hS ?_
 refine nn 10 rfl (uh hf H 0 TF.sz49 rfl rfl rfl rfl rfl rfl (nle rfl) fun w H=>?_)
 refine ⟨fun h=>absurd h (by decide),?_⟩
 refine nn 11 rfl (uh hf H 1 TF.sz49 rfl rfl rfl rfl rfl rfl (nle rfl) fun w H=>?_)
 refine ⟨fun h=>absurd h (by decide),?_⟩
 refine dk ?_
 have H:=H.frontM 6 rfl
 have H:=H.frontM 6 rfl
 have H:=H.frontM 6 rfl
 have H:=H.frontM 6 rfl
 have H:=H.frontM 6 rfl
 have H:=H.frontM 5 rfl
 have H:=H.frontM 6 rfl
 have hf:=hf.pn [2,3,4,5,7,8]
 have H:=H.lm 127 0 3 12 3829
 exact ⟨b6,A22,c23,b7,A21,c22,hf,H⟩
 refine (vc hf H TF.zv49 rfl (by decide) fun b7 a w hf H=>?_)
 have hS:=H.lk 4 0 0 [3]
 refine aS hS ?_
 refine on2 (i:=7) (j:=10) (bi:=[true,true,true,true,true,true,true,true,true,true,false,false]) (bj:=[true,true,true,true,true,true,true,false,true,true,true,false]) (by kernel_rfl) rfl rfl rfl rfl rfl rfl ?_ ?_
 refine (op_q hf (uz hf H TF.la49 1 0 rfl rfl rfl rfl) rfl (by decide) fun a hf=>?_)
 have hS:=H.lk 4 0 0 [3]
 refine aS hS ?_
 refine nn 10 rfl (uh hf H 0 TF.sz49 rfl rfl rfl rfl rfl rfl (nle rfl) fun w H=>?_)
 refine ⟨fun h=>absurd h (by decide),?_⟩
 refine nn 11 rfl (uh hf H 1 TF.sz49 rfl rfl rfl rfl rfl rfl (nle rfl) fun w H=>?_)
 refine ⟨fun h=>absurd h (by decide),?_⟩
 refine dk ?_
 have H:=H.frontM 6 rfl
 have H:=H.frontM 6 rfl
 have H:=H.frontM 6 rfl
 have H:=H.frontM 6 rfl
 have H:=H.frontM 6 rfl
 have H:=H.frontM 5 rfl
 have H:=H.frontM 6 rfl
 have hf:=hf.pn [2,3,4,5,7,8]
 have H:=H.lm 127 0 3 12 3829
 exact ⟨b6,A22,c23,b7,A21,c22,hf,H⟩
 refine (uh hf H 0 TF.sz49 rfl rfl rfl rfl rfl rfl (nle rfl) fun w H=>?_)
 refine ⟨fun h=>absurd h (by decide),?_⟩
 refine nn 7 rfl (op_q hf (uz hf H TF.la49 1 0 rfl rfl rfl rfl) rfl (by decide) fun a hf=>?_)
 refine ⟨fun h=>absurd h (by decide),?_⟩
 refine nn 11 rfl (uh hf H 1 TF.sz49 rfl rfl rfl rfl rfl rfl (nle rfl) fun w H=>?_)
 refine ⟨fun h=>absurd h (by decide),?_⟩
 refine dk ?_
 have H:=H.frontM 6 rfl
 have H:=H.frontM 6 rfl
 have H:=H.frontM 6 rfl
 have H:=H.frontM 6 rfl
 have H:=H.frontM 6 rfl
 have H:=H.frontM 5 rfl
 have H:=H.frontM 6 rfl
 have hf:=hf.pn [2,3,4,5,7,8]
 have H:=H.lm 127 0 3 12 3829
 exact ⟨b6,A22,c23,b7,A21,c22,hf,H⟩
 refine (vc hf H TF.zv49 rfl (by decide) fun b7 a w hf H=>?_)
 have hS:=H.lk 4 0 0 [1]
 refine aS hS ?_
 refine on2 (i:=5) (j:=10) (bi:=[true,true,true,true,true,true,false,false,true,true,false,false]) (bj:=[true,true,true,true,true,false,false,false,true,true,true,false]) (by kernel_rfl) rfl rfl rfl rfl rfl rfl ?_ ?_
 refine (op_q hf (ue hf H TF.ls28 2 rfl rfl rfl) rfl (by decide) fun a hf=>?_)
 have hS:=H.lk 4 0 0 [1]
 refine aS hS ?_
 obtain ⟨p2,o3,cs9,hx19,hr9,H⟩:=ux H Tryz.underlying28 TF.sz49 5 rfl he2
 refine zP 6 rfl rfl rfl rfl hf hS (fun w=>uu hf rfl rfl rfl hx19 w) fun a hf=>?_
 obtain ⟨A22,c23,rfl,hl10⟩:=uq hr9
 have H:=H.pT hl10
 refine on2 (i:=7) (j:=10) (bi:=[true,true,true,true,true,true,true,true,true,true,false,false]) (bj:=[true,true,true,true,true,true,true,false,true,true,true,false]) (by kernel_rfl) rfl rfl rfl rfl rfl rfl ?_ ?_
 refine (op_q hf (uz hf H TF.la49 1 0 rfl rfl rfl rfl) rfl (by decide) fun a hf=>?_)
 have hS:=H.lk 4 0 0 [3]
 refine aS hS ?_
 refine nn 10 rfl (uh hf H 0 TF.sz49 rfl rfl rfl rfl rfl rfl (nle rfl) fun w H=>?_)
 refine ⟨fun h=>absurd h (by decide),?_⟩
 refine nn 11 rfl (uh hf H 1 TF.sz49 rfl rfl rfl rfl rfl rfl (nle rfl) fun w H=>?_)
 refine ⟨fun h=>absurd h (by decide),?_⟩
 refine dk ?_
 have H:=H.frontM 6 rfl
 have H:=H.frontM 6 rfl
 have H:=H.frontM 6 rfl
 have H:=H.frontM 6 rfl
 have H:=H.frontM 6 rfl
 have H:=H.frontM 5 rfl
 have H:=H.frontM 6 rfl
 have hf:=hf.pn [2,3,4,5,7,8]
 have H:=H.lm 127 0 3 12 3829
 exact ⟨b6,A22,c23,b7,A21,c22,hf,H⟩
 refine (uh hf H 0 TF.sz49 rfl rfl rfl rfl rfl rfl (nle rfl) fun w H=>?_)
 refine ⟨fun h=>absurd h (by decide),?_⟩
 refine nn 7 rfl (op_q hf (uz hf H TF.la49 1 0 rfl rfl rfl rfl) rfl (by decide) fun a hf=>?_)
 refine ⟨fun h=>absurd h (by decide),?_⟩
 refine nn 11 rfl (uh hf H 1 TF.sz49 rfl rfl rfl rfl rfl rfl (nle rfl) fun w H=>?_)
 refine ⟨fun h=>absurd h (by decide),?_⟩
 refine dk ?_
 have H:=H.frontM 6 rfl
 have H:=H.frontM 6 rfl
 have H:=H.frontM 6 rfl
 have H:=H.frontM 6 rfl
 have H:=H.frontM 6 rfl
 have H:=H.frontM 5 rfl
 have H:=H.frontM 6 rfl
 have hf:=hf.pn [2,3,4,5,7,8]
 have H:=H.lm 127 0 3 12 3829
 exact ⟨b6,A22,c23,b7,A21,c22,hf,H⟩
 refine (uh hf H 0 TF.sz49 rfl rfl rfl rfl rfl rfl (nle rfl) fun w H=>?_)
 refine ⟨fun h=>absurd h (by decide),?_⟩
 refine nn 5 rfl (op_q hf (ue hf H TF.ls28 2 rfl rfl rfl) rfl (by decide) fun a hf=>?_)
 refine ⟨fun h=>absurd h (by decide),?_⟩
 obtain ⟨p2,o3,cs9,hx19,hr9,H⟩:=ux H Tryz.underlying28 TF.sz49 5 rfl he2
 refine tP 6 rfl rfl rfl rfl hf (by kernel_rfl) (fun h=>absurd h (by decide)) (fun w=>uu hf rfl rfl rfl hx19 w) fun a hf=>?_
 obtain ⟨A22,c23,rfl,hl10⟩:=uq hr9
 have H:=H.pT hl10
 refine nn 7 rfl (op_q hf (uz hf H TF.la49 1 0 rfl rfl rfl rfl) rfl (by decide) fun a hf=>?_)
 refine ⟨fun h=>absurd h (by decide),?_⟩
 refine nn 11 rfl (uh hf H 1 TF.sz49 rfl rfl rfl rfl rfl rfl (nle rfl) fun w H=>?_)
 refine ⟨fun h=>absurd h (by decide),?_⟩
 refine dk ?_
 have H:=H.frontM 6 rfl
 have H:=H.frontM 6 rfl
 have H:=H.frontM 6 rfl
 have H:=H.frontM 6 rfl
 have H:=H.frontM 6 rfl
 have H:=H.frontM 5 rfl
 have H:=H.frontM 6 rfl
 have hf:=hf.pn [2,3,4,5,7,8]
 have H:=H.lm 127 0 3 12 3829
 exact ⟨b6,A22,c23,b7,A21,c22,hf,H⟩
 rintro a w ⟨b7,A22,c23,b6,A21,c22,hf,H⟩
 refine ua (sqz (pz 1 hf fun a hf=>?_))
 refine lN 1 hf H TF.la47 fun a hf=>?_
 refine aL hf H TF.zv47 fun b8 a w hf H=>?_
 refine sB 0 hf H TF.sz47 fun w H=>?_
 refine wr (pz 1 hf fun a hf=>?_)
 refine lN 1 hf H TF.la47 fun a hf=>?_
 refine pz 1 hf fun a hf=>?_
 refine sB 2 hf H TF.sz47 fun w H=>?_
 refine wr (lN 0 hf H TF.la47 fun a hf=>?_)
 refine pz 1 hf fun a hf=>?_
 refine sB 1 hf H TF.sz47 fun w H=>?_
 refine wr (lN 3 hf H TF.la30 fun a hf=>?_)
 obtain ⟨y9,hy9,hF⟩:=bs_ hF
 refine oc hf TF.gjF (gfb (S:=TT) (uj (x:=y7.1) (H.rt 3 rfl) (H.rt 4 rfl) (H.rt 5 rfl)) hy9) fun v9 w a hp11 hf=>?_
 obtain ⟨A23,c24,F9,A24,c25,F10,A25,c26,E4,rfl,Hc5⟩:=hp11
 have H:=H.comp Hc5 (.inl rfl)
 have H:=H.lend 0 rfl
 have H:=H.lend 1 rfl
 refine aL hf H TF.zv30 fun b9 a w hf H=>?_
 refine sB 0 hf H TF.sz30 fun w H=>?_
 refine wr (pz 1 hf fun a hf=>?_)
 refine lB 0 hf H TF.ls28 fun a hf=>?_
 refine lN 3 hf H TF.la49 fun a hf=>?_
 obtain ⟨e3,he3,hF⟩:=bs_ hF
 refine wl0 rfl (vD hf H Tryz.underlying28 TF.sz49 0 rfl rfl rfl he3 (by decide) fun p3 o4 cs10 a hf hA hr10 hk=>?_)
 obtain ⟨A26,c27,rfl,hl11⟩:=uq hr10
 have H:=H.pT hl11
 refine wl0 rfl (xj (e':=({ Id:=e.Id,Route:=e.Route,Block:=e2.Block }:Light)) (o:=o4) (off:=0) hf H TF.sz49 0 rfl rfl rfl rfl rfl (nle rfl) rfl hA he3 (yU (zq (x:=({ Id:=e.Id,Route:=e.Route,Block:=e2.Block }:Light)) (H.get 4 rfl))) fun w H=>?_)
 replace hf:Fr a 70 [(2,(.pointer (some ⟨b2,0,none⟩))),(3,(.pointer (some ⟨b3,0,none⟩))),(4,(.pointer (some ⟨b4,0,none⟩))),(5,(.pointer (some ⟨b5,0,none⟩))),(7,(.pointer (some ⟨b6,0,none⟩))),(8,(.pointer (some ⟨b7,0,none⟩))),(10,(.pointer (some ⟨b9,0,none⟩))),(56,(.pointer (some ⟨b9,2,none⟩))),(57,(.slice A25 y9.Lights.length c26)),(58,(.agg #[(.int .i64 e.Id),(.int .i64 e.Route.Start),(.slice A21 e.Route.Fibers.length c22),(.int .i64 e2.Block.First),(.int .i64 e2.Block.Count)])),(59,(.pointer (some ⟨p3,o4 + 0,none⟩)))]:=hf.prune [2,3,4,5,7,8,10,56,57,58,59] rfl
 replace hf:Fr a 70 [(2,(.pointer (some ⟨b2,0,none⟩))),(3,(.pointer (some ⟨b3,0,none⟩))),(4,(.pointer (some ⟨b4,0,none⟩))),(5,(.pointer (some ⟨b5,0,none⟩))),(7,(.pointer (some ⟨b6,0,none⟩))),(8,(.pointer (some ⟨b7,0,none⟩))),(10,(.pointer (some ⟨b9,0,none⟩))),(56,(.pointer (some ⟨b9,2,none⟩))),(57,(.slice A25 (y9.Lights.set (0:Int).toNat ({ Id:=e.Id,Route:=e.Route,Block:=e2.Block }:Light)).length c26)),(58,(.agg #[(.int .i64 e.Id),(.int .i64 e.Route.Start),(.slice A21 e.Route.Fibers.length c22),(.int .i64 e2.Block.First),(.int .i64 e2.Block.Count)])),(59,(.pointer (some ⟨p3,o4 + 0,none⟩)))]:=by simpa only [List.length_set,Nat.add_zero] using hf
 replace H:Mem ⟨w0,[b0]⟩ S [⟨b9,30,[(.slice A23 y9.Network.Nodes.length c24),(.slice A24 y9.Network.Fibers.length c25),(.slice A25 (y9.Lights.set (0:Int).toNat ({ Id:=e.Id,Route:=e.Route,Block:=e2.Block }:Light)).length c26)]⟩,⟨b8,47,[(.int .i64 e.Block.First),(.int .i64 e.Block.Count)]⟩,⟨b7,49,[(.int .i64 e2.Id),(.int .i64 e2.Route.Start),(.slice A22 e2.Route.Fibers.length c23),(.int .i64 e.Block.First),(.int .i64 e.Block.Count)]⟩,⟨b6,49,[(.int .i64 e.Id),(.int .i64 e.Route.Start),(.slice A21 e.Route.Fibers.length c22),(.int .i64 e2.Block.First),(.int .i64 e2.Block.Count)]⟩,⟨b5,30,[(.slice A17 y7.1.Network.Nodes.length c18),(.slice A18 y7.1.Network.Fibers.length c19),(.slice A19 y7.1.Lights.length c20)]⟩,⟨b4,30,[(.slice A2 y.1.Network.Nodes.length c3),(.slice A3 y.1.Network.Fibers.length c4),(.slice A4 y.1.Lights.length c5)]⟩,⟨b3,30,[(.slice none 0 0),(.slice none 0 0),(.slice none 0 0)]⟩,⟨b2,30,[(.slice none 0 0),(.slice none 0 0),(.slice none 0 0)]⟩,⟨b0,109,[(.slice A y8.2.code.length c2),(.int .i64 y8.2.at_),(.int .u64 y8.2.seed.n)]⟩] [⟨.sh true,E4,A25,c26,(y9.Lights.set (0:Int).toNat ({ Id:=e.Id,Route:=e.Route,Block:=e2.Block }:Light):List Light)⟩] [⟨F9,MP.own F9 [(.slice A23 y9.Network.Nodes.length c24)] (y9.Network.Nodes:List ByteArray)⟩,⟨F10,MP.own F10 [(.slice A24 y9.Network.Fibers.length c25)] (y9.Network.Fibers:List Fiber)⟩,⟨F,MP.own F [(.slice A2 y.1.Network.Nodes.length c3)] (y.1.Network.Nodes:List ByteArray)⟩,⟨F2,MP.own F2 [(.slice A3 y.1.Network.Fibers.length c4)] (y.1.Network.Fibers:List Fiber)⟩] [(true,MP.val [(.slice A26 e3.Route.Fibers.length c27)] (e3.Route.Fibers:List Int)),(true,MP.val [(.slice A24 y9.Network.Fibers.length c25)] (y9.Network.Fibers:List Fiber)),(true,MP.val [(.slice A23 y9.Network.Nodes.length c24)] (y9.Network.Nodes:List ByteArray)),(true,MP.val [(.slice A22 e2.Route.Fibers.length c23)] (e2.Route.Fibers:List Int)),(true,MP.val [(.slice A21 e.Route.Fibers.length c22)] (e.Route.Fibers:List Int)),(false,MP.val [(.slice A y8.2.code.length c2)] (y8.2.code:List By)),(true,MP.val [(.slice A17 y7.1.Network.Nodes.length c18)] (y7.1.Network.Nodes:List ByteArray)),(true,MP.val [(.slice A18 y7.1.Network.Fibers.length c19)] (y7.1.Network.Fibers:List Fiber)),(true,MP.val [(.slice A19 y7.1.Lights.length c20)] (y7.1.Lights:List Light)),(true,MP.val [(.slice A4 y.1.Lights.length c5)] (y.1.Lights:List Light)),(true,MP.val [(.slice A3 y.1.Network.Fibers.length c4)] (y.1.Network.Fibers:List Fiber)),(true,MP.val [(.slice A2 y.1.Network.Nodes.length c3)] (y.1.Network.Nodes:List ByteArray))] w:=by first | (simp only [List.length_set]; exact H) | (simp only [List.length_set] at H ⊢; exact H)
 refine wr (pz 1 hf fun a hf=>?_)
 refine lB 0 hf H TF.ls28 fun a hf=>?_
 refine lN 2 hf H TF.la49 fun a hf=>?_
 obtain ⟨e4,he4,hF⟩:=bs_ hF
 refine wl0 rfl (vD hf H Tryz.underlying28 TF.sz49 0 rfl rfl rfl he4 (by decide) fun p4 o5 cs11 a hf hA2 hr11 hk2=>?_)
 obtain ⟨A27,c28,rfl,hl12⟩:=uq hr11
 have H:=H.pT hl12
 refine wl0 rfl (xj (e':=({ Id:=e2.Id,Route:=e2.Route,Block:=e.Block }:Light)) (o:=o5) (off:=0) hf H TF.sz49 0 rfl rfl rfl rfl rfl (nle rfl) rfl hA2 he4 (yU (zq (x:=({ Id:=e2.Id,Route:=e2.Route,Block:=e.Block }:Light)) (H.get 4 rfl))) fun w H=>?_)
 replace hf:Fr a 70 [(2,(.pointer (some ⟨b2,0,none⟩))),(3,(.pointer (some ⟨b3,0,none⟩))),(4,(.pointer (some ⟨b4,0,none⟩))),(5,(.pointer (some ⟨b5,0,none⟩))),(8,(.pointer (some ⟨b7,0,none⟩))),(10,(.pointer (some ⟨b9,0,none⟩))),(60,(.pointer (some ⟨b9,2,none⟩))),(61,(.slice A25 (y9.Lights.set (0:Int).toNat ({ Id:=e.Id,Route:=e.Route,Block:=e2.Block }:Light)).length c26)),(62,(.agg #[(.int .i64 e2.Id),(.int .i64 e2.Route.Start),(.slice A22 e2.Route.Fibers.length c23),(.int .i64 e.Block.First),(.int .i64 e.Block.Count)])),(63,(.pointer (some ⟨p4,o5 + 0,none⟩)))]:=hf.prune [2,3,4,5,8,10,60,61,62,63] rfl
 replace hf:Fr a 70 [(2,(.pointer (some ⟨b2,0,none⟩))),(3,(.pointer (some ⟨b3,0,none⟩))),(4,(.pointer (some ⟨b4,0,none⟩))),(5,(.pointer (some ⟨b5,0,none⟩))),(8,(.pointer (some ⟨b7,0,none⟩))),(10,(.pointer (some ⟨b9,0,none⟩))),(60,(.pointer (some ⟨b9,2,none⟩))),(61,(.slice A25 ((y9.Lights.set (0:Int).toNat ({ Id:=e.Id,Route:=e.Route,Block:=e2.Block }:Light)).set (1:Int).toNat ({ Id:=e2.Id,Route:=e2.Route,Block:=e.Block }:Light)).length c26)),(62,(.agg #[(.int .i64 e2.Id),(.int .i64 e2.Route.Start),(.slice A22 e2.Route.Fibers.length c23),(.int .i64 e.Block.First),(.int .i64 e.Block.Count)])),(63,(.pointer (some ⟨p4,o5 + 0,none⟩)))]:=by simpa only [List.length_set,Nat.add_zero] using hf
 replace H:Mem ⟨w0,[b0]⟩ S [⟨b9,30,[(.slice A23 y9.Network.Nodes.length c24),(.slice A24 y9.Network.Fibers.length c25),(.slice A25 ((y9.Lights.set (0:Int).toNat ({ Id:=e.Id,Route:=e.Route,Block:=e2.Block }:Light)).set (1:Int).toNat ({ Id:=e2.Id,Route:=e2.Route,Block:=e.Block }:Light)).length c26)]⟩,⟨b8,47,[(.int .i64 e.Block.First),(.int .i64 e.Block.Count)]⟩,⟨b7,49,[(.int .i64 e2.Id),(.int .i64 e2.Route.Start),(.slice A22 e2.Route.Fibers.length c23),(.int .i64 e.Block.First),(.int .i64 e.Block.Count)]⟩,⟨b6,49,[(.int .i64 e.Id),(.int .i64 e.Route.Start),(.slice A21 e.Route.Fibers.length c22),(.int .i64 e2.Block.First),(.int .i64 e2.Block.Count)]⟩,⟨b5,30,[(.slice A17 y7.1.Network.Nodes.length c18),(.slice A18 y7.1.Network.Fibers.length c19),(.slice A19 y7.1.Lights.length c20)]⟩,⟨b4,30,[(.slice A2 y.1.Network.Nodes.length c3),(.slice A3 y.1.Network.Fibers.length c4),(.slice A4 y.1.Lights.length c5)]⟩,⟨b3,30,[(.slice none 0 0),(.slice none 0 0),(.slice none 0 0)]⟩,⟨b2,30,[(.slice none 0 0),(.slice none 0 0),(.slice none 0 0)]⟩,⟨b0,109,[(.slice A y8.2.code.length c2),(.int .i64 y8.2.at_),(.int .u64 y8.2.seed.n)]⟩] [⟨.sh true,E4,A25,c26,((y9.Lights.set (0:Int).toNat ({ Id:=e.Id,Route:=e.Route,Block:=e2.Block }:Light)).set (1:Int).toNat ({ Id:=e2.Id,Route:=e2.Route,Block:=e.Block }:Light):List Light)⟩] [⟨F9,MP.own F9 [(.slice A23 y9.Network.Nodes.length c24)] (y9.Network.Nodes:List ByteArray)⟩,⟨F10,MP.own F10 [(.slice A24 y9.Network.Fibers.length c25)] (y9.Network.Fibers:List Fiber)⟩,⟨F,MP.own F [(.slice A2 y.1.Network.Nodes.length c3)] (y.1.Network.Nodes:List ByteArray)⟩,⟨F2,MP.own F2 [(.slice A3 y.1.Network.Fibers.length c4)] (y.1.Network.Fibers:List Fiber)⟩] [(true,MP.val [(.slice A27 e4.Route.Fibers.length c28)] (e4.Route.Fibers:List Int)),(true,MP.val [(.slice A26 e3.Route.Fibers.length c27)] (e3.Route.Fibers:List Int)),(true,MP.val [(.slice A24 y9.Network.Fibers.length c25)] (y9.Network.Fibers:List Fiber)),(true,MP.val [(.slice A23 y9.Network.Nodes.length c24)] (y9.Network.Nodes:List ByteArray)),(true,MP.val [(.slice A22 e2.Route.Fibers.length c23)] (e2.Route.Fibers:List Int)),(true,MP.val [(.slice A21 e.Route.Fibers.length c22)] (e.Route.Fibers:List Int)),(false,MP.val [(.slice A y8.2.code.length c2)] (y8.2.code:List By)),(true,MP.val [(.slice A17 y7.1.Network.Nodes.length c18)] (y7.1.Network.Nodes:List ByteArray)),(true,MP.val [(.slice A18 y7.1.Network.Fibers.length c19)] (y7.1.Network.Fibers:List Fiber)),(true,MP.val [(.slice A19 y7.1.Lights.length c20)] (y7.1.Lights:List Light)),(true,MP.val [(.slice A4 y.1.Lights.length c5)] (y.1.Lights:List Light)),(true,MP.val [(.slice A3 y.1.Network.Fibers.length c4)] (y.1.Network.Fibers:List Fiber)),(true,MP.val [(.slice A2 y.1.Network.Nodes.length c3)] (y.1.Network.Nodes:List ByteArray))] w:=by first | (simp only [List.length_set]; exact H) | (simp only [List.length_set] at H ⊢; exact H)
 refine wr (lN 0 hf H TF.la30 fun a hf=>?_)
 obtain ⟨y10,hy10,hF⟩:=bs_ hF
 refine oc hf TF.gft (xA (S:=TT) (uj (x:=({ Network:=y9.Network,Lights:=(y9.Lights.set (0:Int).toNat ({ Id:=e.Id,Route:=e.Route,Block:=e2.Block }:Light)).set (1:Int).toNat ({ Id:=e2.Id,Route:=e2.Route,Block:=e.Block }:Light) }:Plan)) (H.rt 3 rfl) (H.rt 2 rfl) (H.rowTrue 0 rfl)) hy10) fun v10 w a hp12 hf=>?_
 obtain ⟨hb2,hp12⟩:=hp12
 obtain rfl:=uo hp12
 have H:=H.keep hb2
 refine ub (ua (ib hF hf (fun hc5 hF=>?_) fun hc5 hF=>?_))
 refine sq (mid (fun a w=>Fr a 70 [(2,(.pointer (some ⟨b2,0,none⟩))),(3,(.pointer (some ⟨b3,0,none⟩)))]∧Mem ⟨w0,[b0]⟩ S [⟨b3,30,[(.slice A23 y9.Network.Nodes.length c24),(.slice A24 y9.Network.Fibers.length c25),(.slice A25 ((y9.Lights.set (0:Int).toNat ({ Id:=e.Id,Route:=e.Route,Block:=e2.Block }:Light)).set (1:Int).toNat ({ Id:=e2.Id,Route:=e2.Route,Block:=e.Block }:Light)).length c26)]⟩,⟨b2,30,[(.slice A2 y.1.Network.Nodes.length c3),(.slice A3 y.1.Network.Fibers.length c4),(.slice A4 y.1.Lights.length c5)]⟩,⟨b0,109,[(.slice A y8.2.code.length c2),(.int .i64 y8.2.at_),(.int .u64 y8.2.seed.n)]⟩] [⟨.sh true,E4,A25,c26,((y9.Lights.set (0:Int).toNat ({ Id:=e.Id,Route:=e.Route,Block:=e2.Block }:Light)).set (1:Int).toNat ({ Id:=e2.Id,Route:=e2.Route,Block:=e.Block }:Light):List Light)⟩] [⟨F9,MP.own F9 [(.slice A23 y9.Network.Nodes.length c24)] (y9.Network.Nodes:List ByteArray)⟩,⟨F10,MP.own F10 [(.slice A24 y9.Network.Fibers.length c25)] (y9.Network.Fibers:List Fiber)⟩,⟨F,MP.own F [(.slice A2 y.1.Network.Nodes.length c3)] (y.1.Network.Nodes:List ByteArray)⟩,⟨F2,MP.own F2 [(.slice A3 y.1.Network.Fibers.length c4)] (y.1.Network.Fibers:List Fiber)⟩] [(true,MP.val [(.slice A24 y9.Network.Fibers.length c25)] (y9.Network.Fibers:List Fiber)),(true,MP.val [(.slice A23 y9.Network.Nodes.length c24)] (y9.Network.Nodes:List ByteArray)),(false,MP.val [(.slice A y8.2.code.length c2)] (y8.2.code:List By)),(true,MP.val [(.slice A4 y.1.Lights.length c5)] (y.1.Lights:List Light)),(true,MP.val [(.slice A3 y.1.Network.Fibers.length c4)] (y.1.Network.Fibers:List Fiber)),(true,MP.val [(.slice A2 y.1.Network.Nodes.length c3)] (y.1.Network.Nodes:List ByteArray))] w) ?_ ?_)
 refine dw [2,3] 4 fun w hb=>?_
 have H:=H.keep hb
 refine strT (H.lk 32 0 0 []) (fun w H=>trivial) fun hS=>?_
 refine zS 0 [0,2,3] rfl rfl rfl rfl hf hS (fun w H=>ul hf H TF.la30 0 rfl rfl rfl rfl) fun a hf=>?_
 refine on2 (i:=1) (j:=2) (bi:=[true,true,false,false]) (bj:=[true,false,true,false]) (by kernel_rfl) rfl rfl rfl rfl rfl rfl ?_ ?_
 refine (op_q hf (ul hf H TF.la30 0 rfl rfl rfl rfl) rfl (by decide) fun a hf=>?_)
 have hS:=H.lk 32 0 0 []
 refine aS hS ?_
 refine nn 2 rfl (uh hf H 7 TF.sz30 rfl rfl rfl rfl rfl rfl (nle rfl) fun w H=>?_)
 refine ⟨fun h=>absurd h (by decide),?_⟩
 refine nn 3 rfl (uh hf H 6 TF.sz30 rfl rfl rfl rfl rfl rfl (nle rfl) fun w H=>?_)
 refine ⟨fun h=>absurd h (by decide),?_⟩
 refine dk ?_
 have hf:=hf.pn [2,3]
 have H:=H.lm 448 1 15 13 7244
 exact ⟨hf,H⟩
 refine (uh hf H 7 TF.sz30 rfl rfl rfl rfl rfl rfl (nle rfl) fun w H=>?_)
 refine ⟨fun h=>absurd h (by decide),?_⟩
 refine nn 1 rfl (op_q hf (ul hf H TF.la30 0 rfl rfl rfl rfl) rfl (by decide) fun a hf=>?_)
 refine ⟨fun h=>absurd h (by decide),?_⟩
 refine nn 3 rfl (uh hf H 6 TF.sz30 rfl rfl rfl rfl rfl rfl (nle rfl) fun w H=>?_)
 refine ⟨fun h=>absurd h (by decide),?_⟩
 refine dk ?_
 have hf:=hf.pn [2,3]
 have H:=H.lm 448 1 15 13 7244
 exact ⟨hf,H⟩
 rintro a w ⟨hf,H⟩
 refine ua (wp_ret (uf (?_)))
 have H:=H.freeze 0 rfl
 have hcell:GoTy.rep w (fun _=>True) [(.slice A y8.2.code.length c2),(.int .i64 y8.2.at_),(.int .u64 y8.2.seed.n)] (y8.2:L1CurP):=(ud (x:=y8.2) (H.rt 3 rfl))
 have H:=H.frontD 3 rfl
 have H:=H.frontD 3 rfl
 obtain rfl:=oi hF
 refine vL hf rfl (um hf H 1 TF.la30 rfl rfl rfl) (um hf H 0 TF.la30 rfl rfl rfl) ?_
 have H:=H.lk 4 0 3 [4,2,1,0]
 exact ⟨_,rfl,_,hcell,⟨fxc hx17,hx17⟩,A2,c3,F,A3,c4,F2,A4,c5,A23,c24,A24,c25,A25,c26,rfl,H⟩
 refine wp_skip (ua (sq (mid (fun a w=>Fr a 70 [(2,(.pointer (some ⟨b2,0,none⟩))),(3,(.pointer (some ⟨b3,0,none⟩)))]∧Mem ⟨w0,[b0]⟩ S [⟨b3,30,[(.slice A17 y7.1.Network.Nodes.length c18),(.slice A18 y7.1.Network.Fibers.length c19),(.slice A19 y7.1.Lights.length c20)]⟩,⟨b2,30,[(.slice A2 y.1.Network.Nodes.length c3),(.slice A3 y.1.Network.Fibers.length c4),(.slice A4 y.1.Lights.length c5)]⟩,⟨b0,109,[(.slice A y8.2.code.length c2),(.int .i64 y8.2.at_),(.int .u64 y8.2.seed.n)]⟩] [] [⟨F,MP.own F [(.slice A2 y.1.Network.Nodes.length c3)] (y.1.Network.Nodes:List ByteArray)⟩,⟨F2,MP.own F2 [(.slice A3 y.1.Network.Fibers.length c4)] (y.1.Network.Fibers:List Fiber)⟩] [(false,MP.val [(.slice A y8.2.code.length c2)] (y8.2.code:List By)),(true,MP.val [(.slice A17 y7.1.Network.Nodes.length c18)] (y7.1.Network.Nodes:List ByteArray)),(true,MP.val [(.slice A18 y7.1.Network.Fibers.length c19)] (y7.1.Network.Fibers:List Fiber)),(true,MP.val [(.slice A19 y7.1.Lights.length c20)] (y7.1.Lights:List Light)),(true,MP.val [(.slice A4 y.1.Lights.length c5)] (y.1.Lights:List Light)),(true,MP.val [(.slice A3 y.1.Network.Fibers.length c4)] (y.1.Network.Fibers:List Fiber)),(true,MP.val [(.slice A2 y.1.Network.Nodes.length c3)] (y.1.Network.Nodes:List ByteArray))] w) ?_ ?_)))
 refine dw [2,3] 4 fun w hb=>?_
 have H:=H.keep hb
 refine strT (H.lk 32 0 0 []) (fun w H=>trivial) fun hS=>?_
 refine zS 0 [0,2,3] rfl rfl rfl rfl hf hS (fun w H=>ul hf H TF.la30 0 rfl rfl rfl rfl) fun a hf=>?_
 refine on2 (i:=1) (j:=2) (bi:=[true,true,false,false]) (bj:=[true,false,true,false]) (by kernel_rfl) rfl rfl rfl rfl rfl rfl ?_ ?_
 refine (op_q hf (ul hf H TF.la30 4 rfl rfl rfl rfl) rfl (by decide) fun a hf=>?_)
 have hS:=H.lk 32 0 0 []
 refine aS hS ?_
 refine nn 2 rfl (uh hf H 7 TF.sz30 rfl rfl rfl rfl rfl rfl (nle rfl) fun w H=>?_)
 refine ⟨fun h=>absurd h (by decide),?_⟩
 refine nn 3 rfl (uh hf H 6 TF.sz30 rfl rfl rfl rfl rfl rfl (nle rfl) fun w H=>?_)
 refine ⟨fun h=>absurd h (by decide),?_⟩
 refine dk ?_
 have hf:=hf.pn [2,3]
 have H:=H.lm 448 0 12 13 8128
 exact ⟨hf,H⟩
 refine (uh hf H 7 TF.sz30 rfl rfl rfl rfl rfl rfl (nle rfl) fun w H=>?_)
 refine ⟨fun h=>absurd h (by decide),?_⟩
 refine nn 1 rfl (op_q hf (ul hf H TF.la30 4 rfl rfl rfl rfl) rfl (by decide) fun a hf=>?_)
 refine ⟨fun h=>absurd h (by decide),?_⟩
 refine nn 3 rfl (uh hf H 6 TF.sz30 rfl rfl rfl rfl rfl rfl (nle rfl) fun w H=>?_)
 refine ⟨fun h=>absurd h (by decide),?_⟩
 refine dk ?_
 have hf:=hf.pn [2,3]
 have H:=H.lm 448 0 12 13 8128
 exact ⟨hf,H⟩
 rintro a w ⟨hf,H⟩
 refine ua (wp_ret (?_))
 have hcell:GoTy.rep w (fun _=>True) [(.slice A y8.2.code.length c2),(.int .i64 y8.2.at_),(.int .u64 y8.2.seed.n)] (y8.2:L1CurP):=(ud (x:=y8.2) (H.rt 0 rfl))
 have H:=H.frontD 1 rfl
 have H:=H.frontD 1 rfl
 obtain rfl:=oi hF
 refine vL hf rfl (um hf H 1 TF.la30 rfl rfl rfl) (um hf H 0 TF.la30 rfl rfl rfl) ?_
 have H:=H.lk 4 0 3 [4,1,2,3]
 exact ⟨_,rfl,_,hcell,⟨fxc hx17,hx17⟩,A2,c3,F,A3,c4,F2,A4,c5,A17,c18,A18,c19,A19,c20,rfl,H⟩
 refine wp_skip (ua (sq (mid (fun a w=>Fr a 70 [(2,(.pointer (some ⟨b2,0,none⟩))),(3,(.pointer (some ⟨b3,0,none⟩)))]∧Mem ⟨w0,[b0]⟩ S [⟨b3,30,[(.slice A17 y7.1.Network.Nodes.length c18),(.slice A18 y7.1.Network.Fibers.length c19),(.slice A19 y7.1.Lights.length c20)]⟩,⟨b2,30,[(.slice A2 y.1.Network.Nodes.length c3),(.slice A3 y.1.Network.Fibers.length c4),(.slice A4 y.1.Lights.length c5)]⟩,⟨b0,109,[(.slice A y8.2.code.length c2),(.int .i64 y8.2.at_),(.int .u64 y8.2.seed.n)]⟩] [] [⟨F,MP.own F [(.slice A2 y.1.Network.Nodes.length c3)] (y.1.Network.Nodes:List ByteArray)⟩,⟨F2,MP.own F2 [(.slice A3 y.1.Network.Fibers.length c4)] (y.1.Network.Fibers:List Fiber)⟩] [(false,MP.val [(.slice A y8.2.code.length c2)] (y8.2.code:List By)),(true,MP.val [(.slice A17 y7.1.Network.Nodes.length c18)] (y7.1.Network.Nodes:List ByteArray)),(true,MP.val [(.slice A18 y7.1.Network.Fibers.length c19)] (y7.1.Network.Fibers:List Fiber)),(true,MP.val [(.slice A19 y7.1.Lights.length c20)] (y7.1.Lights:List Light)),(true,MP.val [(.slice A4 y.1.Lights.length c5)] (y.1.Lights:List Light)),(true,MP.val [(.slice A3 y.1.Network.Fibers.length c4)] (y.1.Network.Fibers:List Fiber)),(true,MP.val [(.slice A2 y.1.Network.Nodes.length c3)] (y.1.Network.Nodes:List ByteArray))] w) ?_ ?_)))
 refine dw [2,3] 4 fun w hb=>?_
 have H:=H.keep hb
 refine strT (H.lk 2 0 0 []) (fun w H=>trivial) fun hS=>?_
 refine zS 0 [0,2,3] rfl rfl rfl rfl hf hS (fun w H=>ul hf H TF.la30 0 rfl rfl rfl rfl) fun a hf=>?_
 refine on2 (i:=1) (j:=2) (bi:=[true,true,false,false]) (bj:=[true,false,true,false]) (by kernel_rfl) rfl rfl rfl rfl rfl rfl ?_ ?_
 refine (op_q hf (ul hf H TF.la30 0 rfl rfl rfl rfl) rfl (by decide) fun a hf=>?_)
 have hS:=H.lk 2 0 0 []
 refine aS hS ?_
 refine nn 2 rfl (uh hf H 3 TF.sz30 rfl rfl rfl rfl rfl rfl (nle rfl) fun w H=>?_)
 refine ⟨fun h=>absurd h (by decide),?_⟩
 refine nn 3 rfl (uh hf H 2 TF.sz30 rfl rfl rfl rfl rfl rfl (nle rfl) fun w H=>?_)
 refine ⟨fun h=>absurd h (by decide),?_⟩
 refine dk ?_
 have hf:=hf.pn [2,3]
 have H:=H.lm 28 0 3 8 239
 exact ⟨hf,H⟩
 refine (uh hf H 3 TF.sz30 rfl rfl rfl rfl rfl rfl (nle rfl) fun w H=>?_)
 refine ⟨fun h=>absurd h (by decide),?_⟩
 refine nn 1 rfl (op_q hf (ul hf H TF.la30 0 rfl rfl rfl rfl) rfl (by decide) fun a hf=>?_)
 refine ⟨fun h=>absurd h (by decide),?_⟩
 refine nn 3 rfl (uh hf H 2 TF.sz30 rfl rfl rfl rfl rfl rfl (nle rfl) fun w H=>?_)
 refine ⟨fun h=>absurd h (by decide),?_⟩
 refine dk ?_
 have hf:=hf.pn [2,3]
 have H:=H.lm 28 0 3 8 239
 exact ⟨hf,H⟩
 rintro a w ⟨hf,H⟩
 refine ua (wp_ret (?_))
 have hcell:GoTy.rep w (fun _=>True) [(.slice A y8.2.code.length c2),(.int .i64 y8.2.at_),(.int .u64 y8.2.seed.n)] (y8.2:L1CurP):=(ud (x:=y8.2) (H.rt 0 rfl))
 have H:=H.frontD 1 rfl
 have H:=H.frontD 1 rfl
 obtain rfl:=oi hF
 refine vL hf rfl (um hf H 1 TF.la30 rfl rfl rfl) (um hf H 0 TF.la30 rfl rfl rfl) ?_
 have H:=H.lk 4 0 3 [4,1,2,3]
 exact ⟨_,rfl,_,hcell,⟨fxc hx17,hx17⟩,A2,c3,F,A3,c4,F2,A4,c5,A17,c18,A18,c19,A19,c20,rfl,H⟩
 have hf:=hf.lit 35 rfl hc3
 refine pz 3 hf fun a hf=>?_
 refine ub (ua (cd_f hf rfl rfl (wp_skip (ua (sq (mid (fun a w=>Fr a 70 [(2,(.pointer (some ⟨b2,0,none⟩))),(3,(.pointer (some ⟨b3,0,none⟩)))]∧Mem ⟨w0,[b0]⟩ S [⟨b3,30,[(.slice A17 y7.1.Network.Nodes.length c18),(.slice A18 y7.1.Network.Fibers.length c19),(.slice A19 y7.1.Lights.length c20)]⟩,⟨b2,30,[(.slice A2 y.1.Network.Nodes.length c3),(.slice A3 y.1.Network.Fibers.length c4),(.slice A4 y.1.Lights.length c5)]⟩,⟨b0,109,[(.slice A y6.2.code.length c2),(.int .i64 y6.2.at_),(.int .u64 y6.2.seed.n)]⟩] [] [⟨F,MP.own F [(.slice A2 y.1.Network.Nodes.length c3)] (y.1.Network.Nodes:List ByteArray)⟩,⟨F2,MP.own F2 [(.slice A3 y.1.Network.Fibers.length c4)] (y.1.Network.Fibers:List Fiber)⟩] [(true,MP.val [(.slice A17 y7.1.Network.Nodes.length c18)] (y7.1.Network.Nodes:List ByteArray)),(true,MP.val [(.slice A18 y7.1.Network.Fibers.length c19)] (y7.1.Network.Fibers:List Fiber)),(true,MP.val [(.slice A19 y7.1.Lights.length c20)] (y7.1.Lights:List Light)),(false,MP.val [(.slice A y6.2.code.length c2)] (y6.2.code:List By)),(true,MP.val [(.slice A4 y.1.Lights.length c5)] (y.1.Lights:List Light)),(true,MP.val [(.slice A3 y.1.Network.Fibers.length c4)] (y.1.Network.Fibers:List Fiber)),(true,MP.val [(.slice A2 y.1.Network.Nodes.length c3)] (y.1.Network.Nodes:List ByteArray))] w) ?_ ?_))))))
 refine dw [2,3] 4 fun w hb=>?_
 have H:=H.keep hb
 refine strT (H.lk 2 0 0 []) (fun w H=>trivial) fun hS=>?_
 refine zS 0 [0,2,3] rfl rfl rfl rfl hf hS (fun w H=>ul hf H TF.la30 0 rfl rfl rfl rfl) fun a hf=>?_
 refine on2 (i:=1) (j:=2) (bi:=[true,true,false,false]) (bj:=[true,false,true,false]) (by kernel_rfl) rfl rfl rfl rfl rfl rfl ?_ ?_
 refine (op_q hf (ul hf H TF.la30 0 rfl rfl rfl rfl) rfl (by decide) fun a hf=>?_)
 have hS:=H.lk 2 0 0 []
 refine aS hS ?_
 refine nn 2 rfl (uh hf H 3 TF.sz30 rfl rfl rfl rfl rfl rfl (nle rfl) fun w H=>?_)
 refine ⟨fun h=>absurd h (by decide),?_⟩
 refine nn 3 rfl (uh hf H 2 TF.sz30 rfl rfl rfl rfl rfl rfl (nle rfl) fun w H=>?_)
 refine ⟨fun h=>absurd h (by decide),?_⟩
 refine dk ?_
 have hf:=hf.pn [2,3]
 have H:=H.lm 28 0 3 7 127
 exact ⟨hf,H⟩
 refine (uh hf H 3 TF.sz30 rfl rfl rfl rfl rfl rfl (nle rfl) fun w H=>?_)
 refine ⟨fun h=>absurd h (by decide),?_⟩
 refine nn 1 rfl (op_q hf (ul hf H TF.la30 0 rfl rfl rfl rfl) rfl (by decide) fun a hf=>?_)
 refine ⟨fun h=>absurd h (by decide),?_⟩
 refine nn 3 rfl (uh hf H 2 TF.sz30 rfl rfl rfl rfl rfl rfl (nle rfl) fun w H=>?_)
 refine ⟨fun h=>absurd h (by decide),?_⟩
 refine dk ?_
 have hf:=hf.pn [2,3]
 have H:=H.lm 28 0 3 7 127
 exact ⟨hf,H⟩
 rintro a w ⟨hf,H⟩
 refine ua (wp_ret (?_))
 have hcell:GoTy.rep w (fun _=>True) [(.slice A y6.2.code.length c2),(.int .i64 y6.2.at_),(.int .u64 y6.2.seed.n)] (y6.2:L1CurP):=(ud (x:=y6.2) (H.rt 3 rfl))
 have H:=H.frontD 1 rfl
 have H:=H.frontD 1 rfl
 obtain rfl:=oi hF
 refine vL hf rfl (um hf H 1 TF.la30 rfl rfl rfl) (um hf H 0 TF.la30 rfl rfl rfl) ?_
 have H:=H.lk 4 0 3 [4,0,1,2]
 exact ⟨_,rfl,_,hcell,⟨fxc hx14,hx14⟩,A2,c3,F,A3,c4,F2,A4,c5,A17,c18,A18,c19,A19,c20,rfl,H⟩
theorem gbF {S:Nat→Prop} {v0_:Value} {code:List By} {r:Plan×Plan} (h0:VR w0 S v0_ code) (hF:xV fu code=some r) :
    Calls Tryz.prog 99 [v0_].toArray w0 fun e w'=>∃ v,e=.returned v∧(∃ (A0_0:Option Addr) (c0_0:Nat) (F0_0:List Nat) (A0_1:Option Addr) (c0_1:Nat) (F0_1:List Nat) (A0_2:Option Addr) (c0_2:Nat) (A1_0:Option Addr) (c1_0:Nat) (A1_1:Option Addr) (c1_1:Nat) (A1_2:Option Addr) (c1_2:Nat),v=.tuple #[(.agg #[(.slice A0_0 r.1.Network.Nodes.length c0_0),(.slice A0_1 r.1.Network.Fibers.length c0_1),(.slice A0_2 r.1.Lights.length c0_2)]),(.agg #[(.slice A1_0 r.2.Network.Nodes.length c1_0),(.slice A1_1 r.2.Network.Fibers.length c1_1),(.slice A1_2 r.2.Lights.length c1_2)])]∧Mem ⟨w0,[]⟩ S [] [] [⟨F0_0,MP.own F0_0 [(.slice A0_0 r.1.Network.Nodes.length c0_0)] (r.1.Network.Nodes:List ByteArray)⟩,⟨F0_1,MP.own F0_1 [(.slice A0_1 r.1.Network.Fibers.length c0_1)] (r.1.Network.Fibers:List Fiber)⟩] [(true,MP.val [(.slice A0_2 r.1.Lights.length c0_2)] (r.1.Lights:List Light)),(true,MP.val [(.slice A1_0 r.2.Network.Nodes.length c1_0)] (r.2.Network.Nodes:List ByteArray)),(true,MP.val [(.slice A1_1 r.2.Network.Fibers.length c1_1)] (r.2.Network.Fibers:List Fiber)),(true,MP.val [(.slice A1_2 r.2.Lights.length c1_2)] (r.2.Lights:List Light))] w'):=by
 obtain ⟨A,c,rfl,hl⟩:=u4 h0
 have H:=Mem.start ⟨w0,[]⟩ S
 have H:=H.pA hl
 refine en Tryz.func99 fun a hf=>?_
 rw [xV] at hF
 refine sq (reg (aL hf H TF.zv30 fun b' a w hf H=>?_))
 refine aL hf H TF.zv30 fun b2 a w hf H=>?_
 refine wr (pz 1 hf fun a hf=>?_)
 refine oq hf (uA hf (cs:=[(.slice A code.length c),(.int .i64 0),(.int .u64 0)]) rfl (fun w=>by kernel_rfl)) fun a hf=>?_
 refine wl0 rfl (xl hf H rfl rfl (by decide) fun b3 a w hf H=>?_)
 refine pz 1 hf fun a hf=>?_
 refine wr (pz 1 hf fun a hf=>?_)
 obtain ⟨y,hy,hF⟩:=bs_ hF
 refine oc hf TF.gmd (gb9 (S:=NB b3) (H.boxAt 0 rfl) ((ud (x:=({ code:=code,at_:=0,seed:=(⟨0⟩:U64) }:L1CurP)) (H.nb 0 rfl (H.get 0 rfl)))) (fun h=>h rfl) hy) fun v w a hp hf=>?_
 obtain ⟨cs,hr,⟨hx,hx2⟩,A2,c2,F,A3,c3,F2,A4,c4,A5,c5,A6,c6,A7,c7,rfl,Hc⟩:=hp
 obtain ⟨A8,c8,rfl,hl2⟩:=uc hr
 obtain ⟨rfl,rfl⟩:=un hx rfl rfl
 have H:=H.compB 0 rfl Hc (.inl rfl)
 have H:=H.pX 4 rfl hx2
 have H:=H.lend 0 rfl
 have H:=H.lend 1 rfl
 refine pz 2 hf fun a hf=>?_
 refine sB 2 hf H TF.sz30 fun w H=>?_
 refine sB 1 hf H TF.sz30 fun w H=>?_
 refine wer ?_
 have H:=H.frontD 1 rfl
 have H:=H.frontD 1 rfl
 obtain rfl:=oi hF
 refine vL hf rfl (um hf H 2 TF.la30 rfl rfl rfl) (um hf H 1 TF.la30 rfl rfl rfl) ?_
 have H:=H.lm 0 0 3 7 120
 exact ⟨_,rfl,A2,c2,F,A3,c3,F2,A4,c4,A5,c5,A6,c6,A7,c7,rfl,H⟩
theorem gch {S:Nat→Prop} {v0_:Value} {code:List By} {r:Plan×Plan} (h0:VR w0 S v0_ code) (hF:yE fu code=some r) :
    Calls Tryz.prog 28 [v0_].toArray w0 fun e w'=>∃ v,e=.returned v∧(∃ (A0_0:Option Addr) (c0_0:Nat) (F0_0:List Nat) (A0_1:Option Addr) (c0_1:Nat) (F0_1:List Nat) (A0_2:Option Addr) (c0_2:Nat) (A1_0:Option Addr) (c1_0:Nat) (A1_1:Option Addr) (c1_1:Nat) (A1_2:Option Addr) (c1_2:Nat),v=.tuple #[(.agg #[(.slice A0_0 r.1.Network.Nodes.length c0_0),(.slice A0_1 r.1.Network.Fibers.length c0_1),(.slice A0_2 r.1.Lights.length c0_2)]),(.agg #[(.slice A1_0 r.2.Network.Nodes.length c1_0),(.slice A1_1 r.2.Network.Fibers.length c1_1),(.slice A1_2 r.2.Lights.length c1_2)])]∧Mem ⟨w0,[]⟩ S [] [] [⟨F0_0,MP.own F0_0 [(.slice A0_0 r.1.Network.Nodes.length c0_0)] (r.1.Network.Nodes:List ByteArray)⟩,⟨F0_1,MP.own F0_1 [(.slice A0_1 r.1.Network.Fibers.length c0_1)] (r.1.Network.Fibers:List Fiber)⟩] [(true,MP.val [(.slice A0_2 r.1.Lights.length c0_2)] (r.1.Lights:List Light)),(true,MP.val [(.slice A1_0 r.2.Network.Nodes.length c1_0)] (r.2.Network.Nodes:List ByteArray)),(true,MP.val [(.slice A1_1 r.2.Network.Fibers.length c1_1)] (r.2.Network.Fibers:List Fiber)),(true,MP.val [(.slice A1_2 r.2.Lights.length c1_2)] (r.2.Lights:List Light))] w'):=by
 obtain ⟨A,c,rfl,hl⟩:=u4 h0
 have H:=Mem.start ⟨w0,[]⟩ S
 have H:=H.pA hl
 refine en Tryz.func28 fun a hf=>?_
 rw [yE] at hF
 refine sq (reg (aL hf H TF.zv30 fun b' a w hf H=>?_))
 refine aL hf H TF.zv30 fun b2 a w hf H=>?_
 refine wr (pz 1 hf fun a hf=>?_)
 obtain ⟨y,hy,hF⟩:=bs_ hF
 refine oc hf TF.cl99 (gbF (S:=TT) (uB (H.rt 0 rfl)) hy) fun v w a hp hf=>?_
 obtain ⟨A2,c2,F,A3,c3,F2,A4,c4,A5,c5,A6,c6,A7,c7,rfl,Hc⟩:=hp
 have H:=H.comp Hc (.inl rfl)
 have H:=H.lend 0 rfl
 have H:=H.lend 1 rfl
 refine pz 2 hf fun a hf=>?_
 refine sB 1 hf H TF.sz30 fun w H=>?_
 refine sB 0 hf H TF.sz30 fun w H=>?_
 refine wer ?_
 have H:=H.frontD 1 rfl
 have H:=H.frontD 1 rfl
 obtain rfl:=oi hF
 refine vL hf rfl (um hf H 1 TF.la30 rfl rfl rfl) (um hf H 0 TF.la30 rfl rfl rfl) ?_
 have H:=H.lm 0 0 3 6 60
 exact ⟨_,rfl,A2,c2,F,A3,c3,F2,A4,c4,A5,c5,A6,c6,A7,c7,rfl,H⟩
theorem gaY {S:Nat→Prop} {v0_:Value} {v1_:Value} {s1:List ByteArray} {s2:List ByteArray} {r:Bool} (h0:VR w0 S v0_ s1) (h1:VR w0 S v1_ s2) (hF:xp fu s1 s2=some r) :
    Calls Tryz.prog 193 [v0_,v1_].toArray w0 fun e w'=>∃ v,e=.returned v∧(Below w0.heap.size w0 w'∧VR w' (St ⟨w0,[]⟩ S [] [] [] true) v r):=by
 obtain ⟨A,c,rfl,hl⟩:=u4 h0
 obtain ⟨A2,c2,rfl,hl2⟩:=u4 h1
 have H:=Mem.start ⟨w0,[]⟩ S
 have H:=H.pA hl
 have H:=H.pA hl2
 refine en Tryz.func193 fun a hf=>?_
 rw [xp] at hF
 refine sqz (pz 1 hf fun a hf=>?_)
 refine we (sqz (pz 5 hf fun a hf=>?_))
 refine ub (ua (ib hF hf (fun hc hF=>?_) fun hc hF=>?_))
 refine sqz (pz 1 hf fun a hf=>?_)
 refine ub (ua (wp_ret (uf (?_))))
 obtain rfl:=oi hF
 refine rT hf ?_
 exact ⟨_,rfl,H.bel,uk⟩
 refine wp_skip (ua (sq (sqz (pz 3 hf fun a hf=>?_))))
 refine ub (ua ?_)
 obtain ⟨out',hB1,hF⟩:=bs_ hF
 have hf:=hf.pn [0,1,12,13]
 have H:=H.lk 0 0 0 [0,1]
 refine vU (fun (s:Int) (a:Act) (w:World)=>match s with | i=>Fr a 26 [(0,(.slice A s1.length c)),(1,(.slice A2 s2.length c2)),(12,(.int .i64 (s1.length:Int))),(13,(.int .i64 i))]∧Mem ⟨w0,[]⟩ S [] [] [] [(false,MP.val [(.slice A2 s2.length c2)] (s2:List ByteArray)),(false,MP.val [(.slice A s1.length c)] (s1:List ByteArray))] w) (fun k (s:Int)=>uX fu s1 s2 k s=some out') (fun s=>out'=Out.next s) 0 fu hB1 ⟨hf,H⟩ (fun s h=>by cases h) ?_ ?_
 rintro fk i a w hR1 hI
 replace hR1:uX fu s1 s2 (fk + 1) i=some out':=hR1
 rw [uX] at hR1
 obtain ⟨hf,H⟩:=hI
 refine sqz (pz 1 hf fun a hf=>?_)
 refine ub (ua (sq (ib hR1 hf (fun hc2 hR1=>?_) fun hc2 hR1=>?_)))
 refine ws (pz 2 hf fun a hf=>?_)
 refine ub (ua (sq (dw [] 9 fun w hb=>?_)))
 have H:=H.keep hb
 refine zp 0 hf trivial fun a hf=>?_
 refine zp 1 hf trivial fun a hf=>?_
 obtain ⟨e,he,hR1⟩:=bs_ hR1
 obtain ⟨p,o,cs,hx,hr,H⟩:=ux H Tryz.underlying24 TF.sz9 1 rfl he
 refine tP 2 rfl rfl rfl rfl hf (by kernel_rfl) (fun _=>trivial) (fun w=>uu hf rfl rfl rfl hx w) fun a hf=>?_
 obtain rfl:=hr
 refine strT (H.lk 0 0 0 [0]) (fun w H=>trivial) fun hS=>?_
 refine zS 3 [] rfl rfl rfl rfl hf hS (fun w H=>uI hf H TF.ls9 0 0 rfl rfl rfl) fun a hf=>?_
 refine zp 4 hf hS fun a hf=>?_
 refine zp 5 hf hS fun a hf=>?_
 obtain ⟨e2,he2,hR1⟩:=bs_ hR1
 obtain ⟨p2,o2,cs2,hx2,hr2,H⟩:=ux H Tryz.underlying24 TF.sz9 1 rfl he2
 refine zP 6 rfl rfl rfl rfl hf hS (fun w=>uu hf rfl rfl rfl hx2 w) fun a hf=>?_
 obtain rfl:=hr2
 refine strT (H.lk 0 0 0 [0,1]) (fun w H=>H.lk 0 0 0 [1]) fun hS=>?_
 refine zS 7 [] rfl rfl rfl rfl hf hS (fun w H=>uI hf H TF.ls9 0 0 rfl rfl rfl) fun a hf=>?_
 refine zp 8 hf hS fun a hf=>?_
 refine dk ?_
 refine ua (ib hR1 hf (fun hc3 hR1=>?_) fun hc3 hR1=>?_)
 refine sqz (pz 1 hf fun a hf=>?_)
 have hf:=hf.pn [4]
 refine ub (ua (wp_ret (u9 (uf (uf (u9 (uf (uf (?_)))))))))
 obtain rfl:=oi hR1
 replace hF:=xc hF
 obtain rfl:=oi hF
 refine rT hf ?_
 exact ⟨_,rfl,H.bel,uk⟩
 refine wp_skip (uV (ua (reg (pz 2 hf fun a hf=>?_))))
 have hf:=hf.pn [0,1,12,13]
 refine ub ?_
 have hf:=hf.pn [0,1,12,13]
 have H:=H.lk 0 0 0 [2,3]
 exact ua ⟨w64 (i + 1),hR1,hf,H⟩
 refine wp_exit (uy (uy (vJ (?_))))
 have hf:=hf.pn [0,1,12,13]
 have H:=H.lk 0 0 0 [0,1]
 exact ⟨i,(Option.some.inj hR1).symm,hf,H⟩
 rintro a w ⟨i2,rfl,hf,H⟩
 replace hF:=vG hF
 refine ua (sqz (pz 1 hf fun a hf=>?_))
 refine wer ?_
 obtain rfl:=oi hF
 refine rT hf ?_
 exact ⟨_,rfl,H.bel,uk⟩
theorem zQ {S:Nat→Prop} {v0_:Value} {v1_:Value} {s1:List Fiber} {s2:List Fiber} {r:Bool} (h0:VR w0 S v0_ s1) (h1:VR w0 S v1_ s2) (hF:vE fu s1 s2=some r) :
    Calls Tryz.prog 194 [v0_,v1_].toArray w0 fun e w'=>∃ v,e=.returned v∧(Below w0.heap.size w0 w'∧VR w' (St ⟨w0,[]⟩ S [] [] [] true) v r):=by
 obtain ⟨A,c,rfl,hl⟩:=u4 h0
 obtain ⟨A2,c2,rfl,hl2⟩:=u4 h1
 have H:=Mem.start ⟨w0,[]⟩ S
 have H:=H.pA hl
 have H:=H.pA hl2
 refine en Tryz.func194 fun a hf=>?_
 rw [vE] at hF
 refine sqz (pz 1 hf fun a hf=>?_)
 refine we (sqz (pz 5 hf fun a hf=>?_))
 refine ub (ua (ib hF hf (fun hc hF=>?_) fun hc hF=>?_))
 refine sqz (pz 1 hf fun a hf=>?_)
 refine ub (ua (wp_ret (uf (?_))))
 obtain rfl:=oi hF
 refine rT hf ?_
 exact ⟨_,rfl,H.bel,uk⟩
 refine wp_skip (ua (sq (sqz (pz 3 hf fun a hf=>?_))))
 refine ub (ua ?_)
 obtain ⟨out',hB1,hF⟩:=bs_ hF
 have hf:=hf.pn [0,1,12,13]
 have H:=H.lk 0 0 0 [0,1]
 refine vU (fun (s:Int) (a:Act) (w:World)=>match s with | i=>Fr a 26 [(0,(.slice A s1.length c)),(1,(.slice A2 s2.length c2)),(12,(.int .i64 (s1.length:Int))),(13,(.int .i64 i))]∧Mem ⟨w0,[]⟩ S [] [] [] [(false,MP.val [(.slice A2 s2.length c2)] (s2:List Fiber)),(false,MP.val [(.slice A s1.length c)] (s1:List Fiber))] w) (fun k (s:Int)=>uF fu s1 s2 k s=some out') (fun s=>out'=Out.next s) 0 fu hB1 ⟨hf,H⟩ (fun s h=>by cases h) ?_ ?_
 rintro fk i a w hR1 hI
 replace hR1:uF fu s1 s2 (fk + 1) i=some out':=hR1
 rw [uF] at hR1
 obtain ⟨hf,H⟩:=hI
 refine sqz (pz 1 hf fun a hf=>?_)
 refine ub (ua (sq (ib hR1 hf (fun hc2 hR1=>?_) fun hc2 hR1=>?_)))
 refine ws (pz 2 hf fun a hf=>?_)
 refine ub (ua (sq (dw [] 9 fun w hb=>?_)))
 have H:=H.keep hb
 refine zp 0 hf trivial fun a hf=>?_
 refine zp 1 hf trivial fun a hf=>?_
 obtain ⟨e,he,hR1⟩:=bs_ hR1
 obtain ⟨p,o,cs,hx,hr,H⟩:=ux H Tryz.underlying25 TF.zc 1 rfl he
 refine tP 2 rfl rfl rfl rfl hf (by kernel_rfl) (fun _=>trivial) (fun w=>uu hf rfl rfl rfl hx w) fun a hf=>?_
 obtain rfl:=uZ hr
 refine strT (H.lk 0 0 0 [0]) (fun w H=>trivial) fun hS=>?_
 refine zS 3 [] rfl rfl rfl rfl hf hS (fun w H=>uz hf H TF.gas 0 0 rfl rfl rfl rfl) fun a hf=>?_
 refine zp 4 hf hS fun a hf=>?_
 refine zp 5 hf hS fun a hf=>?_
 obtain ⟨e2,he2,hR1⟩:=bs_ hR1
 obtain ⟨p2,o2,cs2,hx2,hr2,H⟩:=ux H Tryz.underlying25 TF.zc 1 rfl he2
 refine zP 6 rfl rfl rfl rfl hf hS (fun w=>uu hf rfl rfl rfl hx2 w) fun a hf=>?_
 obtain rfl:=uZ hr2
 refine strT (H.lk 0 0 0 [0,1]) (fun w H=>H.lk 0 0 0 [1]) fun hS=>?_
 refine zS 7 [] rfl rfl rfl rfl hf hS (fun w H=>uz hf H TF.gas 0 0 rfl rfl rfl rfl) fun a hf=>?_
 refine zP 8 rfl rfl rfl rfl hf hS (fun w=>ggQ hf TF.ggt ([e.A,e.B,e.Length,e.Risk]:List Int) ([e2.A,e2.B,e2.Length,e2.Risk]:List Int) rfl rfl rfl rfl rfl rfl) fun a hf=>?_
 refine dk ?_
 refine ua (ib hR1 hf (fun hc3 hR1=>?_) fun hc3 hR1=>?_)
 refine sqz (pz 1 hf fun a hf=>?_)
 have hf:=hf.pn [4]
 refine ub (ua (wp_ret (u9 (uf (uf (u9 (uf (uf (?_)))))))))
 obtain rfl:=oi hR1
 replace hF:=xc hF
 obtain rfl:=oi hF
 refine rT hf ?_
 exact ⟨_,rfl,H.bel,uk⟩
 refine wp_skip (uV (ua (reg (pz 2 hf fun a hf=>?_))))
 have hf:=hf.pn [0,1,12,13]
 refine ub ?_
 have hf:=hf.pn [0,1,12,13]
 have H:=H.lk 0 0 0 [2,3]
 exact ua ⟨w64 (i + 1),hR1,hf,H⟩
 refine wp_exit (uy (uy (vJ (?_))))
 have hf:=hf.pn [0,1,12,13]
 have H:=H.lk 0 0 0 [0,1]
 exact ⟨i,(Option.some.inj hR1).symm,hf,H⟩
 rintro a w ⟨i2,rfl,hf,H⟩
 replace hF:=vG hF
 refine ua (sqz (pz 1 hf fun a hf=>?_))
 refine wer ?_
 obtain rfl:=oi hF
 refine rT hf ?_
 exact ⟨_,rfl,H.bel,uk⟩
theorem gcm {S:Nat→Prop} {v0_:Value} {v1_:Value} {a':Network} {b':Network} {r:Bool} (h0:VR w0 S v0_ a') (h1:VR w0 S v1_ b') (hF:yG fu a' b'=some r) :
    Calls Tryz.prog 102 [v0_,v1_].toArray w0 fun e w'=>∃ v,e=.returned v∧(Below w0.heap.size w0 w'∧VR w' (St ⟨w0,[]⟩ S [] [] [] true) v r):=by
 obtain ⟨A,c,A2,c2,rfl,hl,hl2⟩:=vA h0
 obtain ⟨A3,c3,A4,c4,rfl,hl3,hl4⟩:=vA h1
 have H:=Mem.start ⟨w0,[]⟩ S
 have H:=H.pA hl
 have H:=H.pA hl2
 have H:=H.pA hl3
 have H:=H.pA hl4
 refine en Tryz.func102 fun a hf=>?_
 rw [yG] at hF
 refine bx hf H fun b2 a w hf H=>?_
 refine wl0 rfl (xl hf H rfl rfl (by decide) fun b3 a w hf H=>?_)
 refine pz 1 hf fun a hf=>?_
 refine ub (ua (sq ?_))
 obtain ⟨c5,hGc5,hF⟩:=bs_ hF
 have fh:=hf.prune [] rfl
 have Hm:=H.lk 0 0 0 []
 refine midF 4 (.bool c5) fh Hm ?_ fun a w hf H=>?_
 refine reg (pz 1 hf fun a hf=>?_)
 refine lB 1 hf H TF.ls24 fun a hf=>?_
 refine pz 1 hf fun a hf=>?_
 refine lB 0 hf H TF.ls24 fun a hf=>?_
 obtain ⟨y,hy,hGc5⟩:=bs_ hGc5
 refine oc hf TF.gmc (gaY (S:=TT) (uB (H.rt 3 rfl)) (uB (H.rt 1 rfl)) hy) fun v w a hp hf=>?_
 obtain ⟨hb,hp⟩:=hp
 obtain rfl:=uo hp
 have H:=H.keep hb
 refine pz 1 hf fun a hf=>?_
 refine iteB hGc5 (fun hc hGc5=>?_) fun hc hGc5=>?_
 have hf:=hf.lit 10 rfl hc
 refine pz 1 hf fun a hf=>?_
 refine wlg hf rfl rfl rfl (op_q hf (ue hf H TF.ls25 1 rfl rfl rfl) rfl (by decide) fun a hf=>?_)
 refine pz 1 hf fun a hf=>?_
 refine wlg hf rfl rfl rfl (op_q hf (ue hf H TF.ls25 0 rfl rfl rfl) rfl (by decide) fun a hf=>?_)
 obtain ⟨y2,hy2,hGc5⟩:=bs_ hGc5
 refine wlg hf rfl rfl rfl (oC hf TF.gmb (zQ (S:=TT) (uB (H.rt 2 rfl)) (uB (H.rt 0 rfl)) hy2) fun v2 w a hp2 hf=>?_)
 obtain ⟨hb2,hp2⟩:=hp2
 obtain rfl:=uo hp2
 have H:=H.keep hb2
 refine pz 2 hf fun a hf=>?_
 obtain rfl:=oi hGc5
 have hf:=hf.pn [4]
 have H:=H.lk 0 0 0 []
 exact ub ⟨hf,H⟩
 have hf:=hf.lit 10 rfl hc
 refine pz 7 hf fun a hf=>?_
 obtain rfl:=oi hGc5
 have hf:=hf.pn [4]
 have H:=H.lk 0 0 0 []
 exact ub ⟨hf,H⟩
 refine ua (wp_ret (?_))
 obtain rfl:=oi hF
 refine rT hf ?_
 exact ⟨_,rfl,H.bel,uk⟩
theorem gdm {S:Nat→Prop} {v0_:Value} {b1 o1:Nat} {cs1:List Value} {x1:Light} {cap:Int} {r:Bool} (h0:VR w0 S v0_ x1) (hp1:(MP.cells ⟨b1,o1,none⟩ cs1).pred w0 S) (hr1:GoTy.rep w0 S cs1 cap) (hF:gap fu x1 cap=some r) :
    Calls Tryz.prog 157 [v0_,(.pointer (some ⟨b1,o1,none⟩))].toArray w0 fun e w'=>∃ v,e=.returned v∧(Below w0.heap.size w0 w'∧VR w' (St ⟨w0,[]⟩ S [] [] [] true) v r):=by
 obtain ⟨A,c,rfl,hl⟩:=vK h0
 obtain rfl:=hr1
 have H:=Mem.start ⟨w0,[]⟩ S
 have H:=H.pA hl
 have H:=H.pushArg (MP.cells ⟨b1,o1,none⟩ [(.int .i64 cap)]) hp1
 refine en Tryz.func157 fun a hf=>?_
 rw [gap] at hF
 refine bx hf H fun b3 a w hf H=>?_
 refine pz 1 hf fun a hf=>?_
 refine wr (pz 1 hf fun a hf=>?_)
 refine lB 0 hf H TF.ls3 fun a hf=>?_
 refine oq hf (uI hf H TF.ls3 0 0 rfl rfl rfl) fun a hf=>?_
 refine pz 2 hf fun a hf=>?_
 refine wer ?_
 obtain rfl:=oi hF
 refine rT hf ?_
 exact ⟨_,rfl,H.bel,uk⟩
theorem xL {S:Nat→Prop} {v0_:Value} {b1_0 o1_0:Nat} {cs1_0:List Value} {s':List Light} {cap:Int} {r:Int} (h0:VR w0 S v0_ s') (hp1_0:(MP.cells ⟨b1_0,o1_0,none⟩ cs1_0).pred w0 S) (hr1_0:GoTy.rep w0 S cs1_0 cap) (hF:uR fu s' cap=some r) :
    Calls Tryz.prog 156 [v0_,(.func (.func 157) #[] #[(.pointer (some ⟨b1_0,o1_0,none⟩))])].toArray w0 fun e w'=>∃ v,e=.returned v∧(Below w0.heap.size w0 w'∧VR w' (St ⟨w0,[]⟩ S [] [] [] true) v r):=by
 obtain ⟨A,c,rfl,hl⟩:=u4 h0
 obtain rfl:=hr1_0
 have H:=Mem.start ⟨w0,[]⟩ S
 have H:=H.pA hl
 have H:=H.pushArg (MP.cells ⟨b1_0,o1_0,none⟩ [(.int .i64 cap)]) hp1_0
 refine en Tryz.func156 fun a hf=>?_
 rw [uR] at hF
 refine sqz (pz 1 hf fun a hf=>?_)
 refine we (sqz (pz 3 hf fun a hf=>?_))
 refine ub (ua ?_)
 obtain ⟨out',hB1,hF⟩:=bs_ hF
 have hf:=hf.pn [0,1,7,8]
 have H:=H.lk 0 0 0 [0,1]
 refine vU (fun (s:Int) (a:Act) (w:World)=>match s with | i=>Fr a 19 [(0,(.slice A s'.length c)),(1,(.func (.func 157) #[] #[(.pointer (some ⟨b1_0,o1_0 + 0,none⟩))])),(7,(.int .i64 (s'.length:Int))),(8,(.int .i64 i))]∧Mem ⟨w0,[]⟩ S [] [] [] [(false,MP.cells ⟨b1_0,o1_0,none⟩ [(.int .i64 cap)]),(false,MP.val [(.slice A s'.length c)] (s':List Light))] w) (fun k (s:Int)=>uw fu s' cap k s=some out') (fun s=>out'=Out.next s) 0 fu hB1 ⟨hf,H⟩ (fun s h=>by cases h) ?_ ?_
 rintro fk i a w hR1 hI
 replace hR1:uw fu s' cap (fk + 1) i=some out':=hR1
 rw [uw] at hR1
 obtain ⟨hf,H⟩:=hI
 refine sqz (pz 1 hf fun a hf=>?_)
 refine ub (ua (sq (ib hR1 hf (fun hc hR1=>?_) fun hc hR1=>?_)))
 refine ws (pz 2 hf fun a hf=>?_)
 refine wr (pz 3 hf fun a hf=>?_)
 obtain ⟨e,he,hR1⟩:=bs_ hR1
 refine wl0 rfl (vn hf H Tryz.underlying28 TF.sz49 1 rfl rfl rfl he (by decide) fun p o3 cs3 a hf hr3 H=>?_)
 obtain ⟨A2,c2,rfl,hl2⟩:=uq hr3
 have H:=H.pF hl2
 refine oq hf (uz hf H TF.la49 1 0 rfl rfl rfl rfl) fun a hf=>?_
 obtain ⟨y,hy,hR1⟩:=bs_ hR1
 refine wl0 rfl (ggY hf TF.gmn rfl rfl (by decide) (gdm (S:=TT) (uT (x:=e) (H.rt 0 rfl)) (ggx (H.get 2 rfl)) (rfl) hy) fun v w a hp3 hf=>?_)
 obtain ⟨hb,hp3⟩:=hp3
 obtain rfl:=uo hp3
 have H:=H.keep hb
 refine ub (ua (ib hR1 hf (fun hc2 hR1=>?_) fun hc2 hR1=>?_))
 refine sqz (pz 2 hf fun a hf=>?_)
 have hf:=hf.pn [4]
 refine ub (ua (wp_ret (u9 (uf (uf (u9 (uf (uf (?_)))))))))
 obtain rfl:=oi hR1
 replace hF:=xc hF
 obtain rfl:=oi hF
 refine rT hf ?_
 exact ⟨_,rfl,H.bel,ug⟩
 refine wp_skip (uV (ua (reg (pz 2 hf fun a hf=>?_))))
 refine ub ?_
 have hf:=hf.pn [0,1,7,8]
 have H:=H.lk 0 0 0 [2,3]
 exact ua ⟨w64 (i + 1),hR1,hf,H⟩
 refine wp_exit (uy (uy (vJ (?_))))
 have hf:=hf.pn [0,1,7,8]
 have H:=H.lk 0 0 0 [0,1]
 exact ⟨i,(Option.some.inj hR1).symm,hf,H⟩
 rintro a w ⟨i2,rfl,hf,H⟩
 replace hF:=vG hF
 refine ua (sqz (pz 1 hf fun a hf=>?_))
 refine wer ?_
 obtain rfl:=oi hF
 refine rT hf ?_
 exact ⟨_,rfl,H.bel,ug⟩
theorem gao {S:Nat→Prop} {v0_:Value} {v1_:Value} {p:Plan} {id:Int} {r:Int} (h0:VR w0 S v0_ p) (h1:VR w0 S v1_ id) (hF:yF fu p id=some r) :
    Calls Tryz.prog 64 [v0_,v1_].toArray w0 fun e w'=>∃ v,e=.returned v∧(Below w0.heap.size w0 w'∧VR w' (St ⟨w0,[]⟩ S [] [] [] true) v r):=by
 obtain ⟨A,c,A2,c2,A3,c3,rfl,hl,hl2,hl3⟩:=uD h0
 obtain rfl:=uv h1
 have H:=Mem.start ⟨w0,[]⟩ S
 have H:=H.pA hl
 have H:=H.pA hl2
 have H:=H.pA hl3
 refine en Tryz.func64 fun a hf=>?_
 rw [yF] at hF
 refine bx hf H fun b' a w hf H=>?_
 refine wl0 rfl (xl hf H rfl rfl (by decide) fun b2 a w hf H=>?_)
 refine pz 1 hf fun a hf=>?_
 refine wr (pz 1 hf fun a hf=>?_)
 refine lB 1 hf H TF.ls28 fun a hf=>?_
 refine oq hf (gcP hf rfl) fun a hf=>?_
 obtain ⟨y,hy,hF⟩:=bs_ hF
 refine oc hf TF.gls (xL (S:=TT) (uB (H.rt 0 rfl)) (H.boxTrue 0 rfl) (rfl) hy) fun v w a hp hf=>?_
 obtain ⟨hb,hp⟩:=hp
 obtain rfl:=uv hp
 have H:=H.keep hb
 refine pz 1 hf fun a hf=>?_
 refine wer ?_
 obtain rfl:=oi hF
 refine rT hf ?_
 exact ⟨_,rfl,H.bel,ug⟩
theorem gbw {S:Nat→Prop} {v0_:Value} {v1_:Value} {a':Light} {b':Light} {r:Bool} (h0:VR w0 S v0_ a') (h1:VR w0 S v1_ b') (hF:yw fu a' b'=some r) :
    Calls Tryz.prog 103 [v0_,v1_].toArray w0 fun e w'=>∃ v,e=.returned v∧(Below w0.heap.size w0 w'∧VR w' (St ⟨w0,[]⟩ S [] [] [] true) v r):=by
 obtain ⟨A,c,rfl,hl⟩:=vK h0
 obtain ⟨A2,c2,rfl,hl2⟩:=vK h1
 have H:=Mem.start ⟨w0,[]⟩ S
 have H:=H.pA hl
 have H:=H.pA hl2
 refine en Tryz.func103 fun a hf=>?_
 rw [yw] at hF
 refine bx hf H fun b2 a w hf H=>?_
 refine wl0 rfl (xl hf H rfl rfl (by decide) fun b3 a w hf H=>?_)
 refine pz 1 hf fun a hf=>?_
 refine ub (ua (sq ?_))
 obtain ⟨c3,hGc3,hF⟩:=bs_ hF
 have fh:=hf.prune [] rfl
 have Hm:=H.lk 0 0 0 []
 refine midF 4 (.bool c3) fh Hm ?_ fun a w hf H=>?_
 refine reg (pz 1 hf fun a hf=>?_)
 refine lB 1 hf H TF.ls3 fun a hf=>?_
 refine pz 1 hf fun a hf=>?_
 refine lB 0 hf H TF.ls3 fun a hf=>?_
 refine pz 2 hf fun a hf=>?_
 refine iteB hGc3 (fun hc hGc3=>?_) fun hc hGc3=>?_
 have hf:=hf.lit 10 rfl hc
 refine pz 2 hf fun a hf=>?_
 refine wlg hf rfl rfl rfl (op_q hf (ue hf H TF.ls3 1 rfl rfl rfl) rfl (by decide) fun a hf=>?_)
 refine pz 2 hf fun a hf=>?_
 refine wlg hf rfl rfl rfl (op_q hf (ue hf H TF.ls3 0 rfl rfl rfl) rfl (by decide) fun a hf=>?_)
 refine pz 3 hf fun a hf=>?_
 refine iteB hGc3 (fun hc2 hGc3=>?_) fun hc2 hGc3=>?_
 have hf:=hf.lit 19 rfl hc2
 refine pz 2 hf fun a hf=>?_
 refine wlg hf rfl rfl rfl (op_q hf (ue hf H TF.ls35 1 rfl rfl rfl) rfl (by decide) fun a hf=>?_)
 refine pz 2 hf fun a hf=>?_
 refine wlg hf rfl rfl rfl (op_q hf (ue hf H TF.ls35 0 rfl rfl rfl) rfl (by decide) fun a hf=>?_)
 obtain ⟨y,hy,hGc3⟩:=bs_ hGc3
 refine wlg hf rfl rfl rfl (oC hf TF.cl90 (gb1 (S:=TT) (uB (H.rt 1 rfl)) (uB (H.rt 0 rfl)) hy) fun v w a hp hf=>?_)
 obtain ⟨hb,hp⟩:=hp
 obtain rfl:=uo hp
 have H:=H.keep hb
 refine pz 2 hf fun a hf=>?_
 refine iteB hGc3 (fun hc3 hGc3=>?_) fun hc3 hGc3=>?_
 have hf:=hf.lit 28 rfl hc3
 refine pz 1 hf fun a hf=>?_
 refine wlg hf rfl rfl rfl (op_q hf (ul hf H TF.la47 1 rfl rfl rfl rfl) rfl (by decide) fun a hf=>?_)
 refine pz 1 hf fun a hf=>?_
 refine wlg hf rfl rfl rfl (op_q hf (ul hf H TF.la47 0 rfl rfl rfl rfl) rfl (by decide) fun a hf=>?_)
 refine wlg hf rfl rfl rfl (op_q hf (gh0 hf TF.ggU ([a'.Block.First,a'.Block.Count]:List Int) ([b'.Block.First,b'.Block.Count]:List Int) rfl rfl rfl rfl rfl rfl) rfl (by decide) fun a hf=>?_)
 refine pz 2 hf fun a hf=>?_
 obtain rfl:=oi hGc3
 have hf:=hf.pn [4]
 have H:=H.lk 0 0 0 []
 exact ub ⟨hf,H⟩
 have hf:=hf.lit 28 rfl hc3
 refine pz 7 hf fun a hf=>?_
 obtain rfl:=oi hGc3
 have hf:=hf.pn [4]
 have H:=H.lk 0 0 0 []
 exact ub ⟨hf,H⟩
 have hf:=hf.lit 19 rfl hc2
 refine pz 16 hf fun a hf=>?_
 obtain rfl:=oi hGc3
 have hf:=hf.pn [4]
 have H:=H.lk 0 0 0 []
 exact ub ⟨hf,H⟩
 have hf:=hf.lit 10 rfl hc
 refine pz 25 hf fun a hf=>?_
 obtain rfl:=oi hGc3
 have hf:=hf.pn [4]
 have H:=H.lk 0 0 0 []
 exact ub ⟨hf,H⟩
 refine ua (wp_ret (?_))
 obtain rfl:=oi hF
 refine rT hf ?_
 exact ⟨_,rfl,H.bel,uk⟩
theorem zG {S:Nat→Prop} {v0_:Value} {slices:List (List Action)} {r:List Action} (h0:VR w0 S v0_ slices) (hF:uU fu slices=some r) :
    Calls Tryz.prog 105 [v0_].toArray w0 fun e w'=>∃ v,e=.returned v∧(Below w0.heap.size w0 w'∧VR w' (St ⟨w0,[]⟩ S [] [] [] false) v r):=by
 obtain ⟨A,c,rfl,hl⟩:=u4 h0
 have H:=Mem.start ⟨w0,[]⟩ S
 have H:=H.pA hl
 refine en Tryz.func105 fun a hf=>?_
 rw [uU] at hF
 refine sqz (pz 1 hf fun a hf=>?_)
 refine wr (pz 1 hf fun a hf=>?_)
 refine we (sqz (pz 3 hf fun a hf=>?_))
 refine ub (ua ?_)
 obtain ⟨out',hB1,hF⟩:=bs_ hF
 have hf:=hf.pn [0,3,9,10,11]
 have H:=H.lk 0 0 0 [0]
 refine vU (fun (s:Int×Int) (a:Act) (w:World)=>match s with | (size,i)=>Fr a 36 [(0,(.slice A slices.length c)),(3,(.int .i64 size)),(9,(.slice A slices.length c)),(10,(.int .i64 (slices.length:Int))),(11,(.int .i64 i))]∧Mem ⟨w0,[]⟩ S [] [] [] [(false,MP.val [(.slice A slices.length c)] (slices:List (List Action)))] w) (fun k (s:Int×Int)=>uH fu slices k s.1 s.2=some out') (fun s=>out'=s) (0,0) fu hB1 ⟨hf,H⟩ (fun s h=>by cases h) ?_ ?_
 rintro fk ⟨size,i⟩ a w hR1 hI
 replace hR1:uH fu slices (fk + 1) size i=some out':=hR1
 rw [uH] at hR1
 obtain ⟨hf,H⟩:=hI
 refine sqz (pz 1 hf fun a hf=>?_)
 refine ub (ua (sq (ib hR1 hf (fun hc hR1=>?_) fun hc hR1=>?_)))
 refine wp_skip (ua (sq (wp_block (sq (reg ?_)))))
 obtain ⟨e,he,hR1⟩:=bs_ hR1
 refine wl0 rfl (vn hf H Tryz.underlying213 TF.sz70 0 rfl rfl rfl he (by decide) fun p o cs a hf hr H=>?_)
 obtain ⟨A2,c2,rfl,hl2⟩:=gaA hr
 have H:=H.pF hl2
 refine oq hf (uI hf H TF.ls70 1 0 rfl rfl rfl) fun a hf=>?_
 refine pz 1 hf fun a hf=>?_
 refine wr (pz 5 hf fun a hf=>?_)
 refine wr (pz 2 hf fun a hf=>?_)
 refine ub (ua (ib hR1 hf (fun hc2 hR1=>?_) fun hc2 hR1=>?_))
 refine reg ?_
 cases hR1
 refine wp_skip (uV (ua (reg (pz 2 hf fun a hf=>?_))))
 refine ub ?_
 have hf:=hf.pn [0,3,9,10,11]
 have H:=H.lk 0 0 0 [2]
 exact ua ⟨(w64 (size + (e.length:Int)),w64 (i + 1)),hR1,hf,H⟩
 refine wp_exit (uy (uy (vJ (?_))))
 have hf:=hf.pn [0,3,9,10,11]
 have H:=H.lk 0 0 0 [0]
 exact ⟨(size,i),(Option.some.inj hR1).symm,hf,H⟩
 rintro a w ⟨⟨size2,i2⟩,rfl,hf,H⟩
 try dsimp only at hF
 refine ua (sqz (pz 1 hf fun a hf=>?_))
 obtain ⟨l,hl_,hF⟩:=bs_ hF
 refine wl0 rfl (gji hf H (Action) 148 TF.gl9 gfp rfl hl_ (by decide) fun A3 c3 a w hf H=>?_)
 refine pz 1 hf fun a hf=>?_
 refine we (sqz (pz 3 hf fun a hf=>?_))
 refine ub (ua ?_)
 have H:=H.rowWeak 0 rfl
 obtain ⟨out2,hB1,hF⟩:=bs_ hF
 have hf:=hf.pn [6,25,26,27]
 have H:=H.lk 0 1 0 [0]
 refine vU (fun (s:List Action×Int) (a:Act) (w:World)=>match s with | (newslice,i3)=>∃ (A4:Option Addr) (c4:Nat) (E:Go.TypeId),Fr a 36 [(6,(.slice A4 newslice.length c4)),(25,(.slice A slices.length c)),(26,(.int .i64 (slices.length:Int))),(27,(.int .i64 i3))]∧Mem ⟨w0,[]⟩ S [] [⟨.sh false,E,A4,c4,(newslice:List Action)⟩] [] [(false,MP.val [(.slice A slices.length c)] (slices:List (List Action)))] w) (fun k (s:List Action×Int)=>uG fu slices k s.1 s.2=some out2) (fun s=>out2=s) (l,0) fu hB1 ⟨A3,c3,148,hf,H⟩ (fun s h=>by cases h) ?_ ?_
 rintro fk ⟨newslice,i3⟩ a w hR1 hI
 replace hR1:uG fu slices (fk + 1) newslice i3=some out2:=hR1
 rw [uG] at hR1
 obtain ⟨A4,c4,E,hf,H⟩:=hI
 refine sqz (pz 1 hf fun a hf=>?_)
 refine ub (ua (sq (ib hR1 hf (fun hc3 hR1=>?_) fun hc3 hR1=>?_)))
 refine wp_skip (ua (sq (wp_block (sq (reg ?_)))))
 obtain ⟨e2,he2,hR1⟩:=bs_ hR1
 refine wl0 rfl (vn hf H Tryz.underlying213 TF.sz70 0 rfl rfl rfl he2 (by decide) fun p2 o2 cs2 a hf hr2 H=>?_)
 obtain ⟨A5,c5,rfl,hl3⟩:=gaA hr2
 have H:=H.pF hl3
 refine oq hf (uI hf H TF.ls70 1 0 rfl rfl rfl) fun a hf=>?_
 refine pz 1 hf fun a hf=>?_
 refine ub (ua (reg (pz 2 hf fun a hf=>?_)))
 obtain ⟨l2,hl2_,hR1⟩:=bs_ hR1
 refine wl0 rfl (xH hf H Tryz.underlying70 TF.gdr rfl (by decide) 0 0 rfl rfl rfl rfl (.inl rfl) hl2_ (by decide) fun E2 A6 c6 a w hf H=>?_)
 refine pz 1 hf fun a hf=>?_
 refine ub (uV (ua (reg (pz 2 hf fun a hf=>?_))))
 refine ub ?_
 have hf:=hf.pn [6,25,26,27]
 have H:=H.lk 0 1 0 [2]
 exact ua ⟨(l2,w64 (i3 + 1)),hR1,A6,c6,E2,hf,H⟩
 refine wp_exit (uy (uy (vJ (?_))))
 have hf:=hf.pn [6,25,26,27]
 have H:=H.lk 0 1 0 [0]
 exact ⟨(newslice,i3),(Option.some.inj hR1).symm,A4,c4,E,hf,H⟩
 rintro a w ⟨⟨newslice2,i4⟩,rfl,A7,c7,E3,hf,H⟩
 try dsimp only at hF
 refine ua (sqz (pz 2 hf fun a hf=>?_))
 refine wer ?_
 have H:=H.freeze 0 rfl
 obtain rfl:=oi hF
 refine rT hf ?_
 exact ⟨_,rfl,H.bel,(uB (vt (α:=List Action) (H.get 0 rfl)))⟩
theorem gdD {S:Nat→Prop} {v0_:Value} {x1:Light} {r:Light} (h0:VR w0 S v0_ x1) (hF:zY fu x1=some r) :
    Calls Tryz.prog 195 [v0_].toArray w0 fun e w'=>∃ v,e=.returned v∧(Below w0.heap.size w0 w'∧∃ F0,VO w' F0 v r∧New w0 w' F0):=by
 obtain ⟨A,c,rfl,hl⟩:=vK h0
 have H:=Mem.start ⟨w0,[]⟩ S
 have H:=H.pA hl
 refine en Tryz.func195 fun a hf=>?_
 rw [zY] at hF
 refine bx hf H fun b' a w hf H=>?_
 refine aL hf H TF.zv49 fun b2 a w hf H=>?_
 refine ub (ua (sq (dw [8] 9 fun w hb=>?_)))
 have H:=H.keep hb
 refine zp 0 hf trivial fun a hf=>?_
 refine strT (H.lk 2 0 0 []) (fun w H=>trivial) fun hS=>?_
 refine zS 1 [1,7,8] rfl rfl rfl rfl hf hS (fun w H=>ue hf H TF.ls3 0 rfl rfl rfl) fun a hf=>?_
 refine zp 2 hf hS fun a hf=>?_
 refine zS 3 [3,4,7,8] rfl rfl rfl rfl hf hS (fun w H=>ul hf H TF.la45 0 rfl rfl rfl rfl) fun a hf=>?_
 refine zp 5 hf hS fun a hf=>?_
 refine zS 6 [6,7,8] rfl rfl rfl rfl hf hS (fun w H=>ul hf H TF.la47 0 rfl rfl rfl rfl) fun a hf=>?_
 obtain ⟨y,hy,hF⟩:=bs_ hF
 refine nn 4 rfl (oC hf TF.cl92 (zN (S:=TT) (xk (x:=x1.Route) (H.rt 0 rfl)) hy) fun v w a hp hf=>?_)
 obtain ⟨hb,F,hp2,hN⟩:=hp
 obtain ⟨A2,c2,F2,rfl,rfl,hl2⟩:=yT hp2
 have H:=H.aO1 hb hN hl2
 have H:=H.lend 0 rfl
 have hS:=H.lk 2 0 0 []
 refine aS hS ?_
 refine zP 7 rfl rfl rfl rfl hf hS (fun w=>uA hf (cs:=[(.int .i64 x1.Id),(.int .i64 y.Start),(.slice A2 y.Fibers.length c2),(.int .i64 x1.Block.First),(.int .i64 x1.Block.Count)]) rfl (fun w=>by kernel_rfl)) fun a hf=>?_
 refine nn 8 rfl (uh hf H 0 TF.sz49 rfl rfl rfl rfl rfl rfl (nle rfl) fun w H=>?_)
 refine ⟨fun h=>absurd h (by decide),?_⟩
 refine dk ?_
 refine ua (wp_ret (?_))
 obtain rfl:=oi hF
 refine xi hf rfl (um hf H 0 TF.la49 rfl rfl rfl) ?_
 have hN:=H.ends1
 exact ⟨_,rfl,H.bel,F2,⟨_,xR (x:=({ Id:=x1.Id,Route:=y,Block:=x1.Block }:Light)) (H.ownAt 0 rfl),rfl⟩,by first | exact hN | simpa using hN⟩
theorem gcY {S:Nat→Prop} {v0_:Value} {l:List Action} {r:List Action} (h0:VR w0 S v0_ l) (hF:zx fu l=some r) :
    Calls Tryz.prog 104 [v0_].toArray w0 fun e w'=>∃ v,e=.returned v∧(Below w0.heap.size w0 w'∧∃ F0,VO w' F0 v r∧New w0 w' F0):=by
 obtain ⟨A,c,rfl,hl⟩:=u4 h0
 have H:=Mem.start ⟨w0,[]⟩ S
 have H:=H.pA hl
 refine en Tryz.func104 fun a hf=>?_
 rw [zx] at hF
 refine sqz (pz 1 hf fun a hf=>?_)
 refine wr (wl0 rfl (zv hf H (.ow []) rfl 148 ([]:List Action) [] rfl (fun w=>by kernel_rfl) rfl (by decide) rfl rfl (fun i x h=>by simp at h) (by decide) fun A2 a w hf H=>?_))
 refine pz 1 hf fun a hf=>?_
 refine we (sqz (pz 3 hf fun a hf=>?_))
 refine ub (ua ?_)
 obtain ⟨out2,hB1,hF⟩:=bs_ hF
 have hf:=hf.pn [3,7,8,9]
 have H:=H.lk 0 1 0 [0]
 refine vU (fun (s:List Action×Int) (a:Act) (w:World)=>match s with | (out',i)=>∃ (A3:Option Addr) (c2:Nat) (E:Go.TypeId) (Fs:List (List Nat)),Fr a 24 [(3,(.slice A3 out'.length c2)),(7,(.slice A l.length c)),(8,(.int .i64 (l.length:Int))),(9,(.int .i64 i))]∧Mem ⟨w0,[]⟩ S [] [⟨.ow Fs,E,A3,c2,(out':List Action)⟩] [] [(false,MP.val [(.slice A l.length c)] (l:List Action))] w) (fun k (s:List Action×Int)=>xh fu l k s.1 s.2=some out2) (fun s=>out2=s) (([]:List Action),0) fu hB1 ⟨A2,0,148,[],hf,H⟩ (fun s h=>by cases h) ?_ ?_
 rintro fk ⟨out',i⟩ a w hR1 hI
 replace hR1:xh fu l (fk + 1) out' i=some out2:=hR1
 rw [xh] at hR1
 obtain ⟨A3,c2,E,Fs,hf,H⟩:=hI
 refine sqz (pz 1 hf fun a hf=>?_)
 refine ub (ua (sq (ib hR1 hf (fun hc hR1=>?_) fun hc hR1=>?_)))
 refine wp_skip (ua (sq (wp_block (sq (reg ?_)))))
 obtain ⟨e,he,hR1⟩:=bs_ hR1
 refine wl0 rfl (vn hf H Tryz.underlying70 TF.gce 0 rfl rfl rfl he (by decide) fun p o cs a hf hr H=>?_)
 obtain ⟨A4,c3,rfl,hl2⟩:=zI hr
 have H:=H.pF hl2
 refine oq hf (uz hf H TF.gck 1 0 rfl rfl rfl rfl) fun a hf=>?_
 refine aL hf H TF.ghG fun b' a w hf H=>?_
 refine sB 0 hf H TF.gce fun w H=>?_
 refine ub (ua (dw [] 10 fun w hb=>?_))
 have H:=H.keep hb
 refine zp 0 hf trivial fun a hf=>?_
 refine zp 1 hf trivial fun a hf=>?_
 refine strT (H.lk 1 0 0 []) (fun w H=>trivial) fun hS=>?_
 refine zS 2 [] rfl rfl rfl rfl hf hS (fun w H=>ue hf H TF.ls3 0 rfl rfl rfl) fun a hf=>?_
 refine zp 3 hf hS fun a hf=>?_
 refine zS 4 [] rfl rfl rfl rfl hf hS (fun w H=>ul hf H TF.la49 0 rfl rfl rfl rfl) fun a hf=>?_
 obtain ⟨y,hy,hR1⟩:=bs_ hR1
 refine nn 5 rfl (oC hf TF.gma (gdD (S:=TT) (uT (x:=e.Light) (H.rt 0 rfl)) hy) fun v w a hp hf=>?_)
 obtain ⟨hb,F,hp2,hN⟩:=hp
 obtain ⟨A5,c4,F2,rfl,rfl,hl3⟩:=ga8 hp2
 have H:=H.aO1 hb hN hl3
 have H:=H.lend 0 rfl
 have hS:=H.lk 1 0 0 []
 refine aS hS ?_
 refine zP 6 rfl rfl rfl rfl hf hS (fun w=>uA hf (cs:=[(.int .i64 e.Kind),(.int .i64 y.Id),(.int .i64 y.Route.Start),(.slice A5 y.Route.Fibers.length c4),(.int .i64 y.Block.First),(.int .i64 y.Block.Count)]) rfl (fun w=>by kernel_rfl)) fun a hf=>?_
 have H:=H.recast (X:=[(⟨F2,MP.own F2 [(.slice A5 y.Route.Fibers.length c4)] (y.Route.Fibers:List Int)⟩:DI)]) (Y:=[(⟨F2,MP.own F2 [(.int .i64 e.Kind),(.int .i64 y.Id),(.int .i64 y.Route.Start),(.slice A5 y.Route.Fibers.length c4),(.int .i64 y.Block.First),(.int .i64 y.Block.Count)] (({ Kind:=e.Kind,Light:=y }:Action):Action)⟩:DI)]) (List.Perm.of_eq (by simp)) fun _=>ps1 (xn (x:=({ Kind:=e.Kind,Light:=y }:Action)) (H.ownAt 0 rfl)) ps0
 refine nn 7 rfl (yh hf 148 H rfl (fun w=>by kernel_rfl) (by decide) fun A6 a w hf H=>?_)
 have hS:=H.lk 1 0 0 []
 refine aS hS ?_
 obtain ⟨al,hal,hR1⟩:=bs_ hR1
 have H:=H.frontR 1 rfl
 refine nn 8 rfl (gbO hf H Tryz.underlying70 TF.gdr rfl (by decide) rfl rfl hal (by decide) fun E2 A7 c5 a w hf H=>?_)
 have hS:=H.lk 1 0 0 []
 refine aS hS ?_
 refine zp 9 hf hS fun a hf=>?_
 refine dk ?_
 have hf:=hf.pn [3,7,8,9]
 refine uV (ua (reg (pz 2 hf fun a hf=>?_)))
 refine ub ?_
 have hf:=hf.pn [3,7,8,9]
 have H:=H.lk 0 1 0 [3]
 exact ua ⟨(al,w64 (i + 1)),hR1,A7,c5,E2,Fs++[F2],hf,H⟩
 refine wp_exit (uy (uy (vJ (?_))))
 have hf:=hf.pn [3,7,8,9]
 have H:=H.lk 0 1 0 [0]
 exact ⟨(out',i),(Option.some.inj hR1).symm,A3,c2,E,Fs,hf,H⟩
 rintro a w ⟨⟨out3,i2⟩,rfl,A8,c6,E3,Fs2,hf,H⟩
 try dsimp only at hF
 refine ua (sqz (pz 2 hf fun a hf=>?_))
 refine wer ?_
 obtain ⟨F3,H⟩:=H.freezeOwn 0 rfl
 have H:=H.lend 0 rfl
 obtain rfl:=oi hF
 refine rT hf ?_
 have hN:=H.ends1
 exact ⟨_,rfl,H.bel,F3,(xE (H.ownAt 0 rfl)),by first | exact hN | simpa using hN⟩
theorem gau {S:Nat→Prop} {v0_:Value} {v1_:Value} {p:Plan} {q:Plan} {r:List Action×Bool} (h0:VR w0 S v0_ p) (h1:VR w0 S v1_ q) (hF:xx fu p q=some r) :
    Calls Tryz.prog 31 [v0_,v1_].toArray w0 fun e w'=>∃ v,e=.returned v∧(Below w0.heap.size w0 w'∧∃ F0,∃ u0 u1,v=.tuple #[u0,u1]∧VO w' F0 u0 r.1∧VR w' (St ⟨w0,[]⟩ S [] [] [] true) u1 r.2∧New w0 w' F0):=by
 obtain ⟨A,c,A2,c2,A3,c3,rfl,hl,hl2,hl3⟩:=uD h0
 obtain ⟨A4,c4,A5,c5,A6,c6,rfl,hl4,hl5,hl6⟩:=uD h1
 have H:=Mem.start ⟨w0,[]⟩ S
 have H:=H.pA hl
 have H:=H.pA hl2
 have H:=H.pA hl3
 have H:=H.pA hl4
 have H:=H.pA hl5
 have H:=H.pA hl6
 refine en Tryz.func31 fun a hf=>?_
 rw [xx] at hF
 refine bx hf H fun b' a w hf H=>?_
 refine wl0 rfl (xl hf H rfl rfl (by decide) fun b2 a w hf H=>?_)
 refine pz 2 hf fun a hf=>?_
 refine ub (ua (sq (sq ?_)))
 obtain ⟨c7,hGc7,hF⟩:=bs_ hF
 have fh:=hf.prune [2,3] rfl
 have Hm:=H.lm 3 0 0 6 63
 refine midF 30 (.bool c7) fh Hm ?_ fun a w hf H=>?_
 refine reg (lN 1 hf H TF.la30 fun a hf=>?_)
 obtain ⟨y,hy,hGc7⟩:=bs_ hGc7
 refine oc hf TF.cl18 (xy (S:=TT) (uj (x:=p) (H.rt 5 rfl) (H.rt 4 rfl) (H.rt 3 rfl)) hy) fun v w a hp hf=>?_
 obtain ⟨hb,hp⟩:=hp
 obtain rfl:=uo hp
 have H:=H.keep hb
 refine pz 2 hf fun a hf=>?_
 refine iteB hGc7 (fun hc hGc7=>?_) fun hc hGc7=>?_
 have hf:=hf.lit 18 rfl hc
 refine pz 12 hf fun a hf=>?_
 obtain rfl:=oi hGc7
 have hf:=hf.pn [30,2,3]
 have H:=H.lm 3 0 0 6 63
 exact ub ⟨hf,H⟩
 have hf:=hf.lit 18 rfl hc
 refine wlg hf rfl rfl rfl (op_q hf (ul hf H TF.la30 0 rfl rfl rfl rfl) rfl (by decide) fun a hf=>?_)
 obtain ⟨y2,hy2,hGc7⟩:=bs_ hGc7
 refine wlg hf rfl rfl rfl (oC hf TF.cl18 (xy (S:=TT) (uj (x:=q) (H.rt 2 rfl) (H.rt 1 rfl) (H.rt 0 rfl)) hy2) fun v2 w a hp2 hf=>?_)
 obtain ⟨hb2,hp2⟩:=hp2
 obtain rfl:=uo hp2
 have H:=H.keep hb2
 refine pz 3 hf fun a hf=>?_
 refine iteB hGc7 (fun hc2 hGc7=>?_) fun hc2 hGc7=>?_
 have hf:=hf.lit 23 rfl hc2
 refine pz 7 hf fun a hf=>?_
 obtain rfl:=oi hGc7
 have hf:=hf.pn [30,2,3]
 have H:=H.lm 3 0 0 6 63
 exact ub ⟨hf,H⟩
 have hf:=hf.lit 23 rfl hc2
 refine pz 1 hf fun a hf=>?_
 refine wlg hf rfl rfl rfl (op_q hf (ul hf H TF.la27 1 rfl rfl rfl rfl) rfl (by decide) fun a hf=>?_)
 refine pz 1 hf fun a hf=>?_
 refine wlg hf rfl rfl rfl (op_q hf (ul hf H TF.la27 0 rfl rfl rfl rfl) rfl (by decide) fun a hf=>?_)
 obtain ⟨y3,hy3,hGc7⟩:=bs_ hGc7
 refine wlg hf rfl rfl rfl (oC hf TF.gmw (gcm (S:=TT) (uY (x:=p.Network) (H.rt 5 rfl) (H.rt 4 rfl)) (uY (x:=q.Network) (H.rt 2 rfl) (H.rt 1 rfl)) hy3) fun v3 w a hp3 hf=>?_)
 obtain ⟨hb3,hp3⟩:=hp3
 obtain rfl:=uo hp3
 have H:=H.keep hb3
 refine pz 2 hf fun a hf=>?_
 obtain rfl:=oi hGc7
 have hf:=hf.pn [30,2,3]
 have H:=H.lm 3 0 0 6 63
 exact ub ⟨hf,H⟩
 refine ua (ib hF hf (fun hc3 hF=>?_) fun hc3 hF=>?_)
 refine sqz (pz 2 hf fun a hf=>?_)
 refine ub (ua (wp_ret (uf (?_))))
 have H:=H.ownNil (Action)
 have H:=H.lend 0 rfl
 obtain rfl:=oi hF
 refine vL hf rfl (uE hf rfl) (uE hf rfl) ?_
 have hN:=H.ends1
 exact ⟨_,rfl,H.bel,[],_,_,rfl,(xE (H.ownAt 0 rfl)),uk,by first | exact hN | simpa using hN⟩
 refine wp_skip (ua (sq (reg (wl0 rfl (bl hf H 148 ([]:List Action) [] el0 fun A7 a w hf H=>?_)))))
 refine wl0 rfl (bl hf H 148 ([]:List Action) [] el0 fun A8 a w hf H=>?_)
 refine wl0 rfl (bl hf H 148 ([]:List Action) [] el0 fun A9 a w hf H=>?_)
 refine pz 3 hf fun a hf=>?_
 refine we (sqz (pz 1 hf fun a hf=>?_))
 refine lB 1 hf H TF.ls28 fun a hf=>?_
 refine pz 2 hf fun a hf=>?_
 refine ub (ua ?_)
 have H:=H.rowWeak 2 rfl
 obtain ⟨out',hB1,hF⟩:=bs_ hF
 have hf:=hf.pn [2,3,6,7,8,35,36,37]
 have H:=H.frontR 1 rfl
 have H:=H.frontR 1 rfl
 have H:=H.frontR 2 rfl
 have H:=H.lm 3 7 0 6 63
 refine vU (fun (s:List Action×Int) (a:Act) (w:World)=>match s with | (removes,i)=>∃ (A10:Option Addr) (c8:Nat) (E:Go.TypeId),Fr a 96 [(2,(.pointer (some ⟨b',0,none⟩))),(3,(.pointer (some ⟨b2,0,none⟩))),(6,(.slice A10 removes.length c8)),(7,(.slice A8 0 0)),(8,(.slice A9 0 0)),(35,(.slice A3 p.Lights.length c3)),(36,(.int .i64 (p.Lights.length:Int))),(37,(.int .i64 i))]∧Mem ⟨w0,[]⟩ S [⟨b2,30,[(.slice A4 q.Network.Nodes.length c4),(.slice A5 q.Network.Fibers.length c5),(.slice A6 q.Lights.length c6)]⟩,⟨b',30,[(.slice A p.Network.Nodes.length c),(.slice A2 p.Network.Fibers.length c2),(.slice A3 p.Lights.length c3)]⟩] [⟨.sh false,E,A10,c8,(removes:List Action)⟩,⟨.sh true,148,A9,0,(([]:List Action):List Action)⟩,⟨.sh true,148,A8,0,(([]:List Action):List Action)⟩] [] [(false,MP.val [(.slice A6 q.Lights.length c6)] (q.Lights:List Light)),(false,MP.val [(.slice A5 q.Network.Fibers.length c5)] (q.Network.Fibers:List Fiber)),(false,MP.val [(.slice A4 q.Network.Nodes.length c4)] (q.Network.Nodes:List ByteArray)),(false,MP.val [(.slice A3 p.Lights.length c3)] (p.Lights:List Light)),(false,MP.val [(.slice A2 p.Network.Fibers.length c2)] (p.Network.Fibers:List Fiber)),(false,MP.val [(.slice A p.Network.Nodes.length c)] (p.Network.Nodes:List ByteArray))] w) (fun k (s:List Action×Int)=>ve fu p q k s.1 s.2=some out') (fun s=>out'=s) (([]:List Action),0) fu hB1 ⟨A7,0,148,hf,H⟩ (fun s h=>by cases h) ?_ ?_
 rintro fk ⟨removes,i⟩ a w hR1 hI
 replace hR1:ve fu p q (fk + 1) removes i=some out':=hR1
 rw [ve] at hR1
 obtain ⟨A10,c8,E,hf,H⟩:=hI
 refine sqz (pz 1 hf fun a hf=>?_)
 refine ub (ua (sq (ib hR1 hf (fun hc4 hR1=>?_) fun hc4 hR1=>?_)))
 refine wp_skip (ua (sq (wp_block (sq (reg ?_)))))
 obtain ⟨e,he,hR1⟩:=bs_ hR1
 refine wl0 rfl (vn hf H Tryz.underlying28 TF.sz49 3 rfl rfl rfl he (by decide) fun p2 o cs a hf hr H=>?_)
 obtain ⟨A11,c9,rfl,hl7⟩:=uq hr
 have H:=H.pF hl7
 refine oq hf (uz hf H TF.la49 1 0 rfl rfl rfl rfl) fun a hf=>?_
 refine aL hf H TF.zv49 fun b3 a w hf H=>?_
 refine sB 0 hf H TF.sz49 fun w H=>?_
 refine wr (lN 1 hf H TF.la30 fun a hf=>?_)
 refine pz 1 hf fun a hf=>?_
 refine lB 0 hf H TF.ls3 fun a hf=>?_
 obtain ⟨y4,hy4,hR1⟩:=bs_ hR1
 refine oc hf TF.cl64 (gao (S:=TT) (uj (x:=q) (H.rt 4 rfl) (H.rt 3 rfl) (H.rt 2 rfl)) ug hy4) fun v4 w a hp4 hf=>?_
 obtain ⟨hb4,hp4⟩:=hp4
 obtain rfl:=uv hp4
 have H:=H.keep hb4
 refine pz 1 hf fun a hf=>?_
 refine ub (ua (ib hR1 hf (fun hc5 hR1=>?_) fun hc5 hR1=>?_))
 refine reg (pz 1 hf fun a hf=>?_)
 refine lN 0 hf H TF.la49 fun a hf=>?_
 refine oq hf (uA hf (cs:=[(.int .i64 2),(.int .i64 e.Id),(.int .i64 e.Route.Start),(.slice A11 e.Route.Fibers.length c9),(.int .i64 e.Block.First),(.int .i64 e.Block.Count)]) rfl (fun w=>by kernel_rfl)) fun a hf=>?_
 refine wl0 rfl (zv hf H (.sh false) rfl 148 ([({ Kind:=2,Light:=e }:Action)]:List Action) [(.int .i64 2),(.int .i64 e.Id),(.int .i64 e.Route.Start),(.slice A11 e.Route.Fibers.length c9),(.int .i64 e.Block.First),(.int .i64 e.Block.Count)] rfl (fun w=>by kernel_rfl) rfl (by decide) rfl trivial (el1 (y:=({ Kind:=2,Light:=e }:Action)) ((gbW (x:=({ Kind:=2,Light:=e }:Action)) (H.get 0 rfl)))) (by decide) fun A12 a w hf H=>?_)
 obtain ⟨l,hl_,hR1⟩:=bs_ hR1
 refine wl0 rfl (xg hf H Tryz.underlying70 TF.gdr rfl (by decide) 1 0 rfl rfl rfl rfl (.inl rfl) hl_ (by decide) fun E2 A13 c10 a w hf H=>?_)
 refine pz 1 hf fun a hf=>?_
 have hf:=hf.pn [2,3,6,7,8,35,36,37]
 refine ub (uV (ua (reg (pz 2 hf fun a hf=>?_))))
 refine ub ?_
 have hf:=hf.pn [2,3,6,7,8,35,36,37]
 have H:=H.lm 6 14 0 8 252
 exact ua ⟨(l,w64 (i + 1)),hR1,A13,c10,E2,hf,H⟩
 refine wp_skip (uV (ua (reg (pz 2 hf fun a hf=>?_))))
 refine ub ?_
 have hf:=hf.pn [2,3,6,7,8,35,36,37]
 have H:=H.lm 6 7 0 8 252
 exact ua ⟨(removes,w64 (i + 1)),hR1,A10,c8,E,hf,H⟩
 refine wp_exit (uy (uy (vJ (?_))))
 have hf:=hf.pn [2,3,6,7,8,35,36,37]
 have H:=H.lm 3 7 0 6 63
 exact ⟨(removes,i),(Option.some.inj hR1).symm,A10,c8,E,hf,H⟩
 rintro a w ⟨⟨removes2,i2⟩,rfl,A14,c11,E3,hf,H⟩
 try dsimp only at hF
 refine ua (sq (sqz (pz 1 hf fun a hf=>?_)))
 refine lB 0 hf H TF.ls28 fun a hf=>?_
 refine pz 2 hf fun a hf=>?_
 refine ub (ua ?_)
 have H:=H.rowWeak 1 rfl
 have H:=H.rowWeak 2 rfl
 obtain ⟨out2,hB1,hF⟩:=bs_ hF
 have hf:=hf.pn [2,6,7,8,53,54,55]
 have H:=H.frontR 1 rfl
 have H:=H.frontR 2 rfl
 have H:=H.lm 2 7 0 6 57
 refine vU (fun (s:List Action×Int×List Action) (a:Act) (w:World)=>match s with | (adds,i3,moves)=>∃ (A15:Option Addr) (c12:Nat) (E4:Go.TypeId) (A16:Option Addr) (c13:Nat) (E5:Go.TypeId),Fr a 96 [(2,(.pointer (some ⟨b',0,none⟩))),(6,(.slice A14 removes2.length c11)),(7,(.slice A16 moves.length c13)),(8,(.slice A15 adds.length c12)),(53,(.slice A6 q.Lights.length c6)),(54,(.int .i64 (q.Lights.length:Int))),(55,(.int .i64 i3))]∧Mem ⟨w0,[]⟩ S [⟨b',30,[(.slice A p.Network.Nodes.length c),(.slice A2 p.Network.Fibers.length c2),(.slice A3 p.Lights.length c3)]⟩] [⟨.sh false,E5,A16,c13,(moves:List Action)⟩,⟨.sh false,E4,A15,c12,(adds:List Action)⟩,⟨.sh false,E3,A14,c11,(removes2:List Action)⟩] [] [(false,MP.val [(.slice A6 q.Lights.length c6)] (q.Lights:List Light)),(false,MP.val [(.slice A3 p.Lights.length c3)] (p.Lights:List Light)),(false,MP.val [(.slice A2 p.Network.Fibers.length c2)] (p.Network.Fibers:List Fiber)),(false,MP.val [(.slice A p.Network.Nodes.length c)] (p.Network.Nodes:List ByteArray))] w) (fun k (s:List Action×Int×List Action)=>vd fu p q k s.1 s.2.1 s.2.2=some out2) (fun s=>out2=s) (([]:List Action),0,([]:List Action)) fu hB1 ⟨A9,0,148,A8,0,148,hf,H⟩ (fun s h=>by cases h) ?_ ?_
 rintro fk ⟨adds,i3,moves⟩ a w hR1 hI
 replace hR1:vd fu p q (fk + 1) adds i3 moves=some out2:=hR1
 rw [vd] at hR1
 obtain ⟨A15,c12,E4,A16,c13,E5,hf,H⟩:=hI
 refine sqz (pz 1 hf fun a hf=>?_)
 refine ub (ua (sq (ib hR1 hf (fun hc6 hR1=>?_) fun hc6 hR1=>?_)))
 refine wp_skip (ua (sq (wp_block (sq (reg ?_)))))
 obtain ⟨e2,he2,hR1⟩:=bs_ hR1
 refine wl0 rfl (vn hf H Tryz.underlying28 TF.sz49 0 rfl rfl rfl he2 (by decide) fun p3 o2 cs2 a hf hr2 H=>?_)
 obtain ⟨A17,c14,rfl,hl8⟩:=uq hr2
 have H:=H.pF hl8
 refine oq hf (uz hf H TF.la49 1 0 rfl rfl rfl rfl) fun a hf=>?_
 refine aL hf H TF.zv49 fun b4 a w hf H=>?_
 refine sB 0 hf H TF.sz49 fun w H=>?_
 refine wr (lN 1 hf H TF.la30 fun a hf=>?_)
 refine pz 1 hf fun a hf=>?_
 refine lB 0 hf H TF.ls3 fun a hf=>?_
 obtain ⟨y5,hy5,hR1⟩:=bs_ hR1
 refine oc hf TF.cl64 (gao (S:=TT) (uj (x:=p) (H.rt 5 rfl) (H.rt 4 rfl) (H.rt 3 rfl)) ug hy5) fun v5 w a hp5 hf=>?_
 obtain ⟨hb5,hp5⟩:=hp5
 obtain rfl:=uv hp5
 have H:=H.keep hb5
 refine pz 1 hf fun a hf=>?_
 refine ub (ua (wp_block (sqz (pz 3 hf fun a hf=>?_))))
 refine ub (ua (ib hR1 hf (fun hc7 hR1=>?_) fun hc7 hR1=>?_))
 refine reg (pz 1 hf fun a hf=>?_)
 refine lN 0 hf H TF.la49 fun a hf=>?_
 refine oq hf (uA hf (cs:=[(.int .i64 1),(.int .i64 e2.Id),(.int .i64 e2.Route.Start),(.slice A17 e2.Route.Fibers.length c14),(.int .i64 e2.Block.First),(.int .i64 e2.Block.Count)]) rfl (fun w=>by kernel_rfl)) fun a hf=>?_
 refine wl0 rfl (zv hf H (.sh false) rfl 148 ([({ Kind:=1,Light:=e2 }:Action)]:List Action) [(.int .i64 1),(.int .i64 e2.Id),(.int .i64 e2.Route.Start),(.slice A17 e2.Route.Fibers.length c14),(.int .i64 e2.Block.First),(.int .i64 e2.Block.Count)] rfl (fun w=>by kernel_rfl) rfl (by decide) rfl trivial (el1 (y:=({ Kind:=1,Light:=e2 }:Action)) ((gbW (x:=({ Kind:=1,Light:=e2 }:Action)) (H.get 0 rfl)))) (by decide) fun A18 a w hf H=>?_)
 obtain ⟨l2,hl2_,hR1⟩:=bs_ hR1
 refine wl0 rfl (xg hf H Tryz.underlying70 TF.gdr rfl (by decide) 2 0 rfl rfl rfl rfl (.inl rfl) hl2_ (by decide) fun E6 A19 c15 a w hf H=>?_)
 refine pz 1 hf fun a hf=>?_
 have hf:=hf.pn [2,6,7,8,53,54,55]
 refine ub (uV (uV (ua (reg (pz 2 hf fun a hf=>?_)))))
 refine ub ?_
 have hf:=hf.pn [2,6,7,8,53,54,55]
 have H:=H.lm 2 14 0 6 60
 exact ua ⟨(l2,w64 (i3 + 1),moves),hR1,A19,c15,E6,A16,c13,E5,hf,H⟩
 refine sq (dw [] 9 fun w hb=>?_)
 have H:=H.keep hb
 refine zp 0 hf trivial fun a hf=>?_
 refine strT (H.lk 2 0 0 []) (fun w H=>trivial) fun hS=>?_
 refine zS 1 [] rfl rfl rfl rfl hf hS (fun w H=>ue hf H TF.ls28 0 rfl rfl rfl) fun a hf=>?_
 refine zp 2 hf hS fun a hf=>?_
 obtain ⟨e3,he3,hR1⟩:=bs_ hR1
 obtain ⟨p4,o3,cs3,hx,hr3,H⟩:=ux H Tryz.underlying28 TF.sz49 3 rfl he3
 refine zP 3 rfl rfl rfl rfl hf hS (fun w=>uu hf rfl rfl rfl hx w) fun a hf=>?_
 obtain ⟨A20,c16,rfl,hl9⟩:=uq hr3
 have H:=H.pF hl9
 refine strT (H.lk 2 0 0 [1]) (fun w H=>H.lk 1 0 0 []) fun hS=>?_
 refine zS 4 [] rfl rfl rfl rfl hf hS (fun w H=>uz hf H TF.la49 0 0 rfl rfl rfl rfl) fun a hf=>?_
 refine strT (H.lk 3 0 0 [1]) (fun w H=>H.lk 2 0 0 [0]) fun hS=>?_
 refine zS 5 [] rfl rfl rfl rfl hf hS (fun w H=>ul hf H TF.la49 0 rfl rfl rfl rfl) fun a hf=>?_
 obtain ⟨y6,hy6,hR1⟩:=bs_ hR1
 refine nn 6 rfl (oC hf TF.glt (gbw (S:=TT) (uT (x:=e3) (H.rt 0 rfl)) (uT (x:=e2) (H.rt 2 rfl)) hy6) fun v6 w a hp6 hf=>?_)
 obtain ⟨hb6,hp6⟩:=hp6
 obtain rfl:=uo hp6
 have H:=H.keep hb6
 have hS:=H.lk 3 0 0 [1]
 refine aS hS ?_
 refine zp 7 hf hS fun a hf=>?_
 refine zp 8 hf hS fun a hf=>?_
 refine dk ?_
 have hf:=hf.pn [2,6,7,8,12,53,54,55,71]
 refine ua (ib hR1 hf (fun hc8 hR1=>?_) fun hc8 hR1=>?_)
 refine reg (pz 1 hf fun a hf=>?_)
 refine lN 0 hf H TF.la49 fun a hf=>?_
 refine oq hf (uA hf (cs:=[(.int .i64 3),(.int .i64 e2.Id),(.int .i64 e2.Route.Start),(.slice A17 e2.Route.Fibers.length c14),(.int .i64 e2.Block.First),(.int .i64 e2.Block.Count)]) rfl (fun w=>by kernel_rfl)) fun a hf=>?_
 refine wl0 rfl (zv hf H (.sh false) rfl 148 ([({ Kind:=3,Light:=e2 }:Action)]:List Action) [(.int .i64 3),(.int .i64 e2.Id),(.int .i64 e2.Route.Start),(.slice A17 e2.Route.Fibers.length c14),(.int .i64 e2.Block.First),(.int .i64 e2.Block.Count)] rfl (fun w=>by kernel_rfl) rfl (by decide) rfl trivial (el1 (y:=({ Kind:=3,Light:=e2 }:Action)) ((gbW (x:=({ Kind:=3,Light:=e2 }:Action)) (H.get 2 rfl)))) (by decide) fun A21 a w hf H=>?_)
 obtain ⟨l3,hl3_,hR1⟩:=bs_ hR1
 refine wl0 rfl (xg hf H Tryz.underlying70 TF.gdr rfl (by decide) 1 0 rfl rfl rfl rfl (.inl rfl) hl3_ (by decide) fun E7 A22 c17 a w hf H=>?_)
 refine pz 1 hf fun a hf=>?_
 refine ub (uV (uV (ua (reg (pz 2 hf fun a hf=>?_)))))
 refine ub ?_
 have hf:=hf.pn [2,6,7,8,53,54,55]
 have H:=H.lm 2 14 0 8 240
 exact ua ⟨(adds,w64 (i3 + 1),l3),hR1,A15,c12,E4,A22,c17,E7,hf,H⟩
 refine wp_skip (uV (uV (ua (reg (pz 2 hf fun a hf=>?_)))))
 refine ub ?_
 have hf:=hf.pn [2,6,7,8,53,54,55]
 have H:=H.lm 2 7 0 8 240
 exact ua ⟨(adds,w64 (i3 + 1),moves),hR1,A15,c12,E4,A16,c13,E5,hf,H⟩
 refine wp_exit (uy (uy (vJ (?_))))
 have hf:=hf.pn [2,6,7,8,53,54,55]
 have H:=H.lm 1 7 0 4 15
 exact ⟨(adds,i3,moves),(Option.some.inj hR1).symm,A15,c12,E4,A16,c13,E5,hf,H⟩
 rintro a w ⟨⟨adds2,i4,moves2⟩,rfl,A23,c18,E8,A24,c19,E9,hf,H⟩
 try dsimp only at hF
 refine ua (sqz (pz 3 hf fun a hf=>?_))
 have H:=H.freeze 2 rfl
 have H:=H.freeze 0 rfl
 have H:=H.freeze 0 rfl
 refine wl0 rfl (zv hf H (.sh false) rfl 70 ([removes2,moves2,adds2]:List (List Action)) [(.slice A14 removes2.length c11),(.slice A24 moves2.length c19),(.slice A23 adds2.length c18)] rfl (fun w=>by kernel_rfl) rfl (by decide) rfl trivial (elL [([(.slice A14 removes2.length c11)],(removes2:List Action)),([(.slice A24 moves2.length c19)],(moves2:List Action)),([(.slice A23 adds2.length c18)],(adds2:List Action))] (al1 (x:=(removes2:List Action)) (H.get 2 rfl) (al1 (x:=(moves2:List Action)) (H.get 1 rfl) (al1 (x:=(adds2:List Action)) (H.get 0 rfl) al0)))) (by decide) fun A25 a w hf H=>?_)
 have H:=H.freeze 0 rfl
 obtain ⟨y7,hy7,hF⟩:=bs_ hF
 refine oc hf TF.gmu (zG (uB (H.get 0 rfl)) hy7) fun v7 w a hp7 hf=>?_
 obtain ⟨hb7,hp7⟩:=hp7
 obtain ⟨A26,c20,rfl,hl10⟩:=u4 hp7
 replace hl10:=H.res (f:=MP.val [(.slice A26 y7.length c20)] y7) hl10
 have H:=H.keep hb7
 have H:=H.pF hl10
 obtain ⟨y8,hy8,hF⟩:=bs_ hF
 refine oc hf TF.gmv (gcY (S:=TT) (uB (H.rt 0 rfl)) hy8) fun v8 w a hp8 hf=>?_
 obtain ⟨hb8,F,hp9,hN⟩:=hp8
 obtain ⟨A27,c21,rfl,hl11⟩:=xP hp9
 have H:=H.aO1 hb8 hN hl11
 have H:=H.lend 0 rfl
 refine pz 1 hf fun a hf=>?_
 have hf:=hf.pn [14]
 refine we (sqz (pz 3 hf fun a hf=>?_))
 refine ub (ua (ib hF hf (fun hc9 hF=>?_) fun hc9 hF=>?_))
 refine sqz (pz 2 hf fun a hf=>?_)
 refine ub (ua (wp_ret (uf (?_))))
 have H:=H.ownNil (Action)
 have H:=H.lend 0 rfl
 obtain rfl:=oi hF
 refine vL hf rfl (uE hf rfl) (uE hf rfl) ?_
 have hN:=H.ends1
 exact ⟨_,rfl,H.bel,[],_,_,rfl,(xE (H.ownAt 0 rfl)),uk,by first | exact hN | simpa using hN⟩
 refine wp_skip (ua (sqz (pz 3 hf fun a hf=>?_)))
 refine wer ?_
 obtain rfl:=oi hF
 refine vL hf rfl (uE hf rfl) (uE hf rfl) ?_
 have hN:=H.ends1
 exact ⟨_,rfl,H.bel,F,_,_,rfl,(xE (H.ownAt 0 rfl)),uk,by first | exact hN | simpa using hN⟩
theorem gdC {S:Nat→Prop} {v0_:Value} {v1_:Value} {p:Plan} {x1:Light} {r:Plan} (h0:VR w0 S v0_ p) (h1:VR w0 S v1_ x1) (hF:zX fu p x1=some r) :
    Calls Tryz.prog 219 [v0_,v1_].toArray w0 fun e w'=>∃ v,e=.returned v∧(Below w0.heap.size w0 w'∧∃ F0,VO w' F0 v r∧New w0 w' F0):=by
 obtain ⟨A,c,A2,c2,A3,c3,rfl,hl,hl2,hl3⟩:=uD h0
 obtain ⟨A4,c4,rfl,hl4⟩:=vK h1
 have H:=Mem.start ⟨w0,[]⟩ S
 have H:=H.pA hl
 have H:=H.pA hl2
 have H:=H.pA hl3
 have H:=H.pA hl4
 refine en Tryz.func219 fun a hf=>?_
 rw [zX] at hF
 refine bx hf H fun b' a w hf H=>?_
 refine wl0 rfl (xl hf H rfl rfl (by decide) fun b2 a w hf H=>?_)
 refine aL hf H TF.zv30 fun b3 a w hf H=>?_
 refine wr (lN 2 hf H TF.la30 fun a hf=>?_)
 obtain ⟨y,hy,hF⟩:=bs_ hF
 refine oc hf TF.cl69 (zw (S:=TT) (uj (x:=p) (H.rt 3 rfl) (H.rt 2 rfl) (H.rt 1 rfl)) hy) fun v w a hp hf=>?_
 obtain ⟨hb,F,hp2,hN⟩:=hp
 obtain ⟨A5,c5,F2,A6,c6,F3,A7,c7,F4,rfl,rfl,hl5,hl6,hl7⟩:=zH hp2
 have H:=H.aO3 hb (by first | exact hN | simpa using hN) hl5 hl6 hl7
 have H:=H.lend 0 rfl
 have H:=H.lend 1 rfl
 have H:=H.lend 2 rfl
 refine aL hf H TF.zv30 fun b4 a w hf H=>?_
 refine sB 0 hf H TF.sz30 fun w H=>?_
 refine pz 1 hf fun a hf=>?_
 refine ub (ua (sq ?_))
 obtain ⟨out',hB1,hF⟩:=bs_ hF
 have hf:=hf.pn [2,3,4,5,6]
 have H:=H.lm 15 0 7 7 127
 refine vU (fun (s:Int) (a:Act) (w:World)=>match s with | at'=>Fr a 39 [(2,(.pointer (some ⟨b',0,none⟩))),(3,(.pointer (some ⟨b2,0,none⟩))),(4,(.pointer (some ⟨b3,0,none⟩))),(5,(.pointer (some ⟨b4,0,none⟩))),(6,(.int .i64 at'))]∧Mem ⟨w0,[]⟩ S [⟨b4,30,[(.slice A5 y.Network.Nodes.length c5),(.slice A6 y.Network.Fibers.length c6),(.slice A7 y.Lights.length c7)]⟩,⟨b3,30,[(.slice none 0 0),(.slice none 0 0),(.slice none 0 0)]⟩,⟨b2,49,[(.int .i64 x1.Id),(.int .i64 x1.Route.Start),(.slice A4 x1.Route.Fibers.length c4),(.int .i64 x1.Block.First),(.int .i64 x1.Block.Count)]⟩,⟨b',30,[(.slice A p.Network.Nodes.length c),(.slice A2 p.Network.Fibers.length c2),(.slice A3 p.Lights.length c3)]⟩] [] [⟨F2,MP.own F2 [(.slice A5 y.Network.Nodes.length c5)] (y.Network.Nodes:List ByteArray)⟩,⟨F3,MP.own F3 [(.slice A6 y.Network.Fibers.length c6)] (y.Network.Fibers:List Fiber)⟩,⟨F4,MP.own F4 [(.slice A7 y.Lights.length c7)] (y.Lights:List Light)⟩] [(true,MP.val [(.slice A7 y.Lights.length c7)] (y.Lights:List Light)),(true,MP.val [(.slice A6 y.Network.Fibers.length c6)] (y.Network.Fibers:List Fiber)),(true,MP.val [(.slice A5 y.Network.Nodes.length c5)] (y.Network.Nodes:List ByteArray)),(false,MP.val [(.slice A4 x1.Route.Fibers.length c4)] (x1.Route.Fibers:List Int)),(false,MP.val [(.slice A3 p.Lights.length c3)] (p.Lights:List Light)),(false,MP.val [(.slice A2 p.Network.Fibers.length c2)] (p.Network.Fibers:List Fiber)),(false,MP.val [(.slice A p.Network.Nodes.length c)] (p.Network.Nodes:List ByteArray))] w) (fun k (s:Int)=>xw fu p x1 k s=some out') (fun s=>out'=s) 0 fu hB1 ⟨hf,H⟩ (fun s h=>by cases h) ?_ ?_
 rintro fk at' a w hR1 hI
 replace hR1:xw fu p x1 (fk + 1) at'=some out':=hR1
 rw [xw] at hR1
 obtain ⟨hf,H⟩:=hI
 refine sq (sq ?_)
 obtain ⟨c8,hGc8,hR1⟩:=bs_ hR1
 have fh:=hf.prune [2,3,4,5,6] rfl
 have Hm:=H.lm 15 0 7 7 127
 refine midF 24 (.bool c8) fh Hm ?_ fun a w hf H=>?_
 refine dw [] 16 fun w hb=>?_
 have H:=H.keep hb
 refine zp 0 hf trivial fun a hf=>?_
 refine zp 1 hf trivial fun a hf=>?_
 refine strT (H.lk 8 0 0 []) (fun w H=>trivial) fun hS=>?_
 refine zS 2 [] rfl rfl rfl rfl hf hS (fun w H=>ue hf H TF.ls28 0 rfl rfl rfl) fun a hf=>?_
 refine zp 3 hf hS fun a hf=>?_
 refine zp 4 hf hS fun a hf=>?_
 refine zp 5 hf hS fun a hf=>?_
 refine iteB hGc8 (fun hc hGc8=>?_) fun hc hGc8=>?_
 have hf:=hf.lit 14 rfl hc
 refine zg 6 hf hS fun a hf=>?_
 refine tSg 7 [] rfl rfl rfl rfl rfl rfl hf (by kernel_rfl) (by kernel_rfl) hS (fun w H=>ue hf H TF.ls28 0 rfl rfl rfl) fun a hf=>?_
 refine zg 8 hf hS fun a hf=>?_
 obtain ⟨e,he,hGc8⟩:=bs_ hGc8
 obtain ⟨p2,o,cs,hx,hr,H⟩:=ux H Tryz.underlying28 TF.sz49 4 rfl he
 refine tPg 9 rfl rfl rfl rfl rfl rfl hf (by kernel_rfl) (fun _=>hS) (fun w=>uu hf rfl rfl rfl hx w) fun a hf=>?_
 obtain ⟨A8,c9,rfl,hl8⟩:=uq hr
 have H:=H.pF hl8
 refine zg 10 hf hS fun a hf=>?_
 refine strT (H.lk 8 0 0 [1]) (fun w H=>H.lk 1 0 0 []) fun hS=>?_
 refine tSg 11 [] rfl rfl rfl rfl rfl rfl hf (by kernel_rfl) (by kernel_rfl) hS (fun w H=>uI hf H TF.ls3 0 0 rfl rfl rfl) fun a hf=>?_
 refine zg 12 hf hS fun a hf=>?_
 refine strT (H.lk 12 0 0 [1]) (fun w H=>H.lk 2 0 0 [0]) fun hS=>?_
 refine tSg 13 [] rfl rfl rfl rfl rfl rfl hf (by kernel_rfl) (by kernel_rfl) hS (fun w H=>ue hf H TF.ls3 0 rfl rfl rfl) fun a hf=>?_
 refine zg 14 hf hS fun a hf=>?_
 refine zp 15 hf hS fun a hf=>?_
 refine dk ?_
 obtain rfl:=oi hGc8
 have hf:=hf.pn [24,2,3,4,5,6]
 have H:=H.lm 15 0 7 9 508
 exact ⟨hf,H⟩
 have hf:=hf.lit 14 rfl hc
 refine zU 6 hf hS fun a hf=>?_
 refine zU 7 hf hS fun a hf=>?_
 refine zU 8 hf hS fun a hf=>?_
 refine zU 9 hf hS fun a hf=>?_
 refine zU 10 hf hS fun a hf=>?_
 refine zU 11 hf hS fun a hf=>?_
 refine zU 12 hf hS fun a hf=>?_
 refine zU 13 hf hS fun a hf=>?_
 refine zU 14 hf hS fun a hf=>?_
 refine zp 15 hf hS fun a hf=>?_
 refine dk ?_
 obtain rfl:=oi hGc8
 have hf:=hf.pn [24,2,3,4,5,6]
 have H:=H.lm 15 0 7 7 127
 exact ⟨hf,H⟩
 refine ua (ib hR1 hf (fun hc2 hR1=>?_) fun hc2 hR1=>?_)
 refine wp_skip (ua (wp_block (reg (pz 3 hf fun a hf=>?_))))
 refine ub (uV ?_)
 have hf:=hf.pn [2,3,4,5,6]
 have H:=H.lm 15 0 7 7 127
 exact ua ⟨w64 (at' + 1),hR1,hf,H⟩
 refine wp_exit (uy (uy (vJ (?_))))
 have hf:=hf.pn [2,3,4,5,6]
 have H:=H.lm 15 0 7 7 127
 exact ⟨at',(Option.some.inj hR1).symm,hf,H⟩
 rintro a w ⟨out',rfl,hf,H⟩
 refine ua (sqz (pz 1 hf fun a hf=>?_))
 refine lN 2 hf H TF.la45 fun a hf=>?_
 obtain ⟨y2,hy2,hF⟩:=bs_ hF
 refine oc hf TF.cl92 (zN (S:=TT) (xk (x:=x1.Route) (H.rt 3 rfl)) hy2) fun v2 w a hp3 hf=>?_
 obtain ⟨hb2,F5,hp4,hN2⟩:=hp3
 obtain ⟨A9,c10,F6,rfl,rfl,hl9⟩:=yT hp4
 have H:=H.aO1 hb2 hN2 hl9
 have H:=H.lend 0 rfl
 refine pz 1 hf fun a hf=>?_
 refine sB 2 hf H TF.sz45 fun w H=>?_
 refine wr (pz 1 hf fun a hf=>?_)
 refine lB 0 hf H TF.ls28 fun a hf=>?_
 refine pz 1 hf fun a hf=>?_
 refine lN 2 hf H TF.la49 fun a hf=>?_
 have H:=H.recast (X:=[(⟨F6,MP.own F6 [(.slice A9 y2.Fibers.length c10)] (y2.Fibers:List Int)⟩:DI)]) (Y:=[(⟨F6,MP.own F6 [(.int .i64 x1.Id),(.int .i64 y2.Start),(.slice A9 y2.Fibers.length c10),(.int .i64 x1.Block.First),(.int .i64 x1.Block.Count)] (({ Id:=x1.Id,Route:=y2,Block:=x1.Block }:Light):Light)⟩:DI)]) (List.Perm.of_eq (by simp)) fun _=>ps1 (xR (x:=({ Id:=x1.Id,Route:=y2,Block:=x1.Block }:Light)) (H.ownAt 0 rfl)) ps0
 refine wl0 rfl (yh hf 49 H rfl (fun w=>by kernel_rfl) (by decide) fun A10 a w hf H=>?_)
 have H:=H.frontD 2 rfl
 obtain ⟨Fs,E,H,-⟩:=H.thaw rfl
 have H:=H.pA hl
 have H:=H.pA hl2
 have H:=H.pA hl3
 have H:=H.pA hl4
 have H:=H.lend 0 rfl
 have H:=H.lend 1 rfl
 obtain ⟨l,hl_,hF⟩:=bs_ hF
 have H:=H.frontR 1 rfl
 have H:=H.frontR 1 rfl
 refine wl0 rfl (gkn hf H TF.glM gf2 rfl hl_ (by decide) fun Fs2 E2 A11 c11 a w hf H=>?_)
 refine pz 1 hf fun a hf=>?_
 refine sB 0 hf H TF.sz28 fun w H=>?_
 have hf:=hf.pn [4,5]
 refine wr (lN 0 hf H TF.la30 fun a hf=>?_)
 refine sB 1 hf H TF.sz30 fun w H=>?_
 refine wer ?_
 obtain ⟨F7,H⟩:=H.freezeOwn 0 rfl
 have H:=H.lend 0 rfl
 have H:=H.frontD 2 rfl
 have H:=H.frontD 2 rfl
 obtain rfl:=oi hF
 refine xi hf rfl (um hf H 1 TF.la30 rfl rfl rfl) ?_
 have hN:=H.ends3
 exact ⟨_,rfl,H.bel,(F2++(F3++F7)),⟨_,vB (x:=({ Network:=y.Network,Lights:=l }:Plan)) (H.ownAt 0 rfl) (H.ownAt 1 rfl) (H.ownAt 2 rfl),rfl⟩,by first | exact hN | simpa using hN⟩
theorem gcI {S:Nat→Prop} {v0_:Value} {p:Plan} {r:Plan×Bool} (h0:VR w0 S v0_ p) (hF:gaa fu p=some r) :
    Calls Tryz.prog 306 [v0_].toArray w0 fun e w'=>∃ v,e=.returned v∧(Below w0.heap.size w0 w'∧((r=(p,true)∧v=.tuple #[v0_,.bool true])∨(r=(({ Network:=({ Nodes:=[],Fibers:=[] }:Network),Lights:=[] }:Plan),false)∧v=.tuple #[(.agg #[(.slice none 0 0),(.slice none 0 0),(.slice none 0 0)]),.bool false]))):=by
 obtain ⟨A,c,A2,c2,A3,c3,rfl,hl,hl2,hl3⟩:=uD h0
 have H:=Mem.start ⟨w0,[]⟩ S
 have H:=H.pA hl
 have H:=H.pA hl2
 have H:=H.pA hl3
 refine en Tryz.func306 fun a hf=>?_
 rw [gaa] at hF
 refine bx hf H fun b' a w hf H=>?_
 refine aL hf H TF.zv30 fun b2 a w hf H=>?_
 refine pz 1 hf fun a hf=>?_
 refine ub (ua (sq (sq (reg (lN 1 hf H TF.la30 fun a hf=>?_)))))
 obtain ⟨y,hy,hF⟩:=bs_ hF
 refine oc hf TF.cl18 (xy (S:=TT) (uj (x:=p) (H.rt 2 rfl) (H.rt 1 rfl) (H.rt 0 rfl)) hy) fun v w a hp hf=>?_
 obtain ⟨hb,hp⟩:=hp
 obtain rfl:=uo hp
 have H:=H.keep hb
 refine pz 1 hf fun a hf=>?_
 refine ub (ua (ib hF hf (fun hc hF=>?_) fun hc hF=>?_))
 refine sq (reg (oq hf (uA hf (cs:=[(.slice none 0 0),(.slice none 0 0),(.slice none 0 0)]) rfl (fun w=>by kernel_rfl)) fun a hf=>?_))
 refine sB 0 hf H TF.sz30 fun w H=>?_
 refine pz 1 hf fun a hf=>?_
 refine ub (ua (wp_ret (uf (?_))))
 obtain rfl:=oi hF
 refine vL hf rfl (um hf H 0 TF.la30 rfl rfl rfl) (uE hf rfl) ?_
 exact ⟨_,rfl,H.bel,.inr ⟨rfl,rfl⟩⟩
 refine wp_skip (ua (sq (reg (lN 1 hf H TF.la30 fun a hf=>?_))))
 refine sB 0 hf H TF.sz30 fun w H=>?_
 refine pz 1 hf fun a hf=>?_
 refine wer ?_
 obtain rfl:=oi hF
 refine vL hf rfl (um hf H 0 TF.la30 rfl rfl rfl) (uE hf rfl) ?_
 exact ⟨_,rfl,H.bel,.inl ⟨rfl,rfl⟩⟩
theorem gd0 {S:Nat→Prop} {v0_:Value} {v1_:Value} {p:Plan} {x1:Light} {r:Plan×Bool} (h0:VR w0 S v0_ p) (h1:VR w0 S v1_ x1) (hF:ga6 fu p x1=some r) :
    Calls Tryz.prog 252 [v0_,v1_].toArray w0 fun e w'=>∃ v,e=.returned v∧(Below w0.heap.size w0 w'∧∃ F0,∃ u0 u1,v=.tuple #[u0,u1]∧VO w' F0 u0 r.1∧VR w' (St ⟨w0,[]⟩ S [] [] [] true) u1 r.2∧New w0 w' F0):=by
 obtain ⟨A,c,A2,c2,A3,c3,rfl,hl,hl2,hl3⟩:=uD h0
 obtain ⟨A4,c4,rfl,hl4⟩:=vK h1
 have H:=Mem.start ⟨w0,[]⟩ S
 have H:=H.pA hl
 have H:=H.pA hl2
 have H:=H.pA hl3
 have H:=H.pA hl4
 refine en Tryz.func252 fun a hf=>?_
 rw [ga6] at hF
 refine bx hf H fun b' a w hf H=>?_
 refine wl0 rfl (xl hf H rfl rfl (by decide) fun b2 a w hf H=>?_)
 refine aL hf H TF.zv30 fun b3 a w hf H=>?_
 refine pz 1 hf fun a hf=>?_
 refine ub (ua (sq (sq (reg (lN 2 hf H TF.la30 fun a hf=>?_)))))
 obtain ⟨y,hy,hF⟩:=bs_ hF
 refine oc hf TF.cl18 (xy (S:=TT) (uj (x:=p) (H.rt 3 rfl) (H.rt 2 rfl) (H.rt 1 rfl)) hy) fun v w a hp hf=>?_
 obtain ⟨hb,hp⟩:=hp
 obtain rfl:=uo hp
 have H:=H.keep hb
 refine pz 1 hf fun a hf=>?_
 refine ub (ua (ib hF hf (fun hc hF=>?_) fun hc hF=>?_))
 refine sq (reg (oq hf (uA hf (cs:=[(.slice none 0 0),(.slice none 0 0),(.slice none 0 0)]) rfl (fun w=>by kernel_rfl)) fun a hf=>?_))
 refine sB 0 hf H TF.sz30 fun w H=>?_
 refine pz 1 hf fun a hf=>?_
 refine ub (ua (wp_ret (uf (?_))))
 have H:=H.ownNil (ByteArray)
 have H:=H.lend 0 rfl
 have H:=H.ownNil (Fiber)
 have H:=H.lend 0 rfl
 have H:=H.ownNil (Light)
 have H:=H.lend 0 rfl
 have H:=H.frontD 1 rfl
 have H:=H.frontD 2 rfl
 obtain rfl:=oi hF
 refine vL hf rfl (um hf H 0 TF.la30 rfl rfl rfl) (uE hf rfl) ?_
 have hN:=H.ends3
 exact ⟨_,rfl,H.bel,([]++([]++[])),_,_,rfl,⟨_,vB (x:=({ Network:=({ Nodes:=[],Fibers:=[] }:Network),Lights:=[] }:Plan)) (H.ownAt 0 rfl) (H.ownAt 1 rfl) (H.ownAt 2 rfl),rfl⟩,uk,by first | exact hN | simpa using hN⟩
 refine wp_skip (ua (sq (reg (lN 2 hf H TF.la30 fun a hf=>?_))))
 refine lN 1 hf H TF.la49 fun a hf=>?_
 obtain ⟨y2,hy2,hF⟩:=bs_ hF
 refine oc hf TF.gl3 (gdC (S:=TT) (uj (x:=p) (H.rt 3 rfl) (H.rt 2 rfl) (H.rt 1 rfl)) (uT (x:=x1) (H.rt 0 rfl)) hy2) fun v2 w a hp2 hf=>?_
 obtain ⟨hb2,F,hp3,hN⟩:=hp2
 obtain ⟨A5,c5,F2,A6,c6,F3,A7,c7,F4,rfl,rfl,hl5,hl6,hl7⟩:=zH hp3
 have H:=H.aO3 hb2 (by first | exact hN | simpa using hN) hl5 hl6 hl7
 have H:=H.lend 0 rfl
 have H:=H.lend 1 rfl
 have H:=H.lend 2 rfl
 refine oc hf TF.glc (gcI (S:=TT) (uj (x:=y2) (H.rt 2 rfl) (H.rt 1 rfl) (H.rt 0 rfl)) hF) fun v3 w a hp4 hf=>?_
 obtain ⟨hb3,hp4⟩:=hp4
 have H:=H.keep hb3
 rcases hp4 with ⟨hr,rfl⟩ | ⟨hr,rfl⟩
 have hF:=(congrArg some hr).symm
 refine pz 2 hf fun a hf=>?_
 refine sB 0 hf H TF.sz30 fun w H=>?_
 refine pz 1 hf fun a hf=>?_
 have hf:=hf.pn [4,5]
 refine wer ?_
 have H:=H.frontD 2 rfl
 have H:=H.frontD 2 rfl
 have H:=H.frontD 2 rfl
 obtain rfl:=oi hF
 refine vL hf rfl (um hf H 0 TF.la30 rfl rfl rfl) (uE hf rfl) ?_
 have hN:=H.ends3
 exact ⟨_,rfl,H.bel,(F2++(F3++F4)),_,_,rfl,⟨_,vB (x:=y2) (H.ownAt 0 rfl) (H.ownAt 1 rfl) (H.ownAt 2 rfl),rfl⟩,uk,by first | exact hN | simpa using hN⟩
 have hF:=(congrArg some hr).symm
 refine pz 2 hf fun a hf=>?_
 refine sB 0 hf H TF.sz30 fun w H=>?_
 refine pz 1 hf fun a hf=>?_
 have hf:=hf.pn [4,5]
 refine wer ?_
 have H:=H.ownNil (ByteArray)
 have H:=H.lend 0 rfl
 have H:=H.ownNil (Fiber)
 have H:=H.lend 0 rfl
 have H:=H.ownNil (Light)
 have H:=H.lend 0 rfl
 have H:=H.frontD 1 rfl
 have H:=H.frontD 2 rfl
 obtain rfl:=oi hF
 refine vL hf rfl (um hf H 0 TF.la30 rfl rfl rfl) (uE hf rfl) ?_
 have hN:=H.ends3
 exact ⟨_,rfl,H.bel,([]++([]++[])),_,_,rfl,⟨_,vB (x:=({ Network:=({ Nodes:=[],Fibers:=[] }:Network),Lights:=[] }:Plan)) (H.ownAt 0 rfl) (H.ownAt 1 rfl) (H.ownAt 2 rfl),rfl⟩,uk,by first | exact hN | simpa using hN⟩
theorem gby {S:Nat→Prop} {v0_:Value} {v1_:Value} {p:Plan} {id:Int} {r:Int×Bool} (h0:VR w0 S v0_ p) (h1:VR w0 S v1_ id) (hF:yx fu p id=some r) :
    Calls Tryz.prog 14 [v0_,v1_].toArray w0 fun e w'=>∃ v,e=.returned v∧(Below w0.heap.size w0 w'∧∃ u0 u1,v=.tuple #[u0,u1]∧VR w' (St ⟨w0,[]⟩ S [] [] [] true) u0 r.1∧VR w' (St ⟨w0,[]⟩ S [] [] [] true) u1 r.2):=by
 obtain ⟨A,c,A2,c2,A3,c3,rfl,hl,hl2,hl3⟩:=uD h0
 obtain rfl:=uv h1
 have H:=Mem.start ⟨w0,[]⟩ S
 have H:=H.pA hl
 have H:=H.pA hl2
 have H:=H.pA hl3
 refine en Tryz.func14 fun a hf=>?_
 rw [yx] at hF
 refine bx hf H fun b' a w hf H=>?_
 refine pz 2 hf fun a hf=>?_
 refine wr (lN 0 hf H TF.la30 fun a hf=>?_)
 refine pz 1 hf fun a hf=>?_
 obtain ⟨y,hy,hF⟩:=bs_ hF
 refine oc hf TF.cl64 (gao (S:=TT) (uj (x:=p) (H.rt 2 rfl) (H.rt 1 rfl) (H.rt 0 rfl)) ug hy) fun v w a hp hf=>?_
 obtain ⟨hb,hp⟩:=hp
 obtain rfl:=uv hp
 have H:=H.keep hb
 refine pz 1 hf fun a hf=>?_
 refine ub (ua (sq (sq ?_)))
 obtain ⟨c4,hGc4,hF⟩:=bs_ hF
 have fh:=hf.prune [6] rfl
 have Hm:=H.lk 0 0 0 []
 refine midF 16 (.bool c4) fh Hm ?_ fun a w hf H=>?_
 refine reg (lN 0 hf H TF.la30 fun a hf=>?_)
 obtain ⟨y2,hy2,hGc4⟩:=bs_ hGc4
 refine oc hf TF.cl18 (xy (S:=TT) (uj (x:=p) (H.rt 2 rfl) (H.rt 1 rfl) (H.rt 0 rfl)) hy2) fun v2 w a hp2 hf=>?_
 obtain ⟨hb2,hp2⟩:=hp2
 obtain rfl:=uo hp2
 have H:=H.keep hb2
 refine pz 2 hf fun a hf=>?_
 refine iteB hGc4 (fun hc hGc4=>?_) fun hc hGc4=>?_
 have hf:=hf.lit 13 rfl hc
 refine pz 3 hf fun a hf=>?_
 obtain rfl:=oi hGc4
 have hf:=hf.pn [16,6]
 have H:=H.lk 0 0 0 []
 exact ub ⟨hf,H⟩
 have hf:=hf.lit 13 rfl hc
 refine pz 3 hf fun a hf=>?_
 obtain rfl:=oi hGc4
 have hf:=hf.pn [16,6]
 have H:=H.lk 0 0 0 []
 exact ub ⟨hf,H⟩
 refine ua (ib hF hf (fun hc2 hF=>?_) fun hc2 hF=>?_)
 refine sqz (pz 2 hf fun a hf=>?_)
 refine ub (ua (wp_ret (uf (?_))))
 obtain rfl:=oi hF
 refine vL hf rfl (uE hf rfl) (uE hf rfl) ?_
 exact ⟨_,rfl,H.bel,_,_,rfl,ug,uk⟩
 refine wp_skip (ua (sqz (pz 3 hf fun a hf=>?_)))
 refine wer ?_
 obtain rfl:=oi hF
 refine vL hf rfl (uE hf rfl) (uE hf rfl) ?_
 exact ⟨_,rfl,H.bel,_,_,rfl,ug,uk⟩
theorem gcz {S:Nat→Prop} {v0_:Value} {v1_:Value} {p:Plan} {i:Int} {r:Plan} (h0:VR w0 S v0_ p) (h1:VR w0 S v1_ i) (hF:yY fu p i=some r) :
    Calls Tryz.prog 307 [v0_,v1_].toArray w0 fun e w'=>∃ v,e=.returned v∧(Below w0.heap.size w0 w'∧∃ F0,VO w' F0 v r∧New w0 w' F0):=by
 obtain ⟨A,c,A2,c2,A3,c3,rfl,hl,hl2,hl3⟩:=uD h0
 obtain rfl:=uv h1
 have H:=Mem.start ⟨w0,[]⟩ S
 have H:=H.pA hl
 have H:=H.pA hl2
 have H:=H.pA hl3
 refine en Tryz.func307 fun a hf=>?_
 rw [yY] at hF
 refine bx hf H fun b' a w hf H=>?_
 refine aL hf H TF.zv30 fun b2 a w hf H=>?_
 refine wr (lN 1 hf H TF.la30 fun a hf=>?_)
 obtain ⟨y,hy,hF⟩:=bs_ hF
 refine oc hf TF.cl69 (zw (S:=TT) (uj (x:=p) (H.rt 2 rfl) (H.rt 1 rfl) (H.rt 0 rfl)) hy) fun v w a hp hf=>?_
 obtain ⟨hb,F,hp2,hN⟩:=hp
 obtain ⟨A4,c4,F2,A5,c5,F3,A6,c6,F4,rfl,rfl,hl4,hl5,hl6⟩:=zH hp2
 have H:=H.aO3 hb (by first | exact hN | simpa using hN) hl4 hl5 hl6
 have H:=H.lend 0 rfl
 have H:=H.lend 1 rfl
 have H:=H.lend 2 rfl
 refine aL hf H TF.zv30 fun b3 a w hf H=>?_
 refine sB 0 hf H TF.sz30 fun w H=>?_
 refine wr (pz 1 hf fun a hf=>?_)
 refine lB 0 hf H TF.ls28 fun a hf=>?_
 refine pz 3 hf fun a hf=>?_
 have H:=H.frontD 2 rfl
 obtain ⟨Fs,E,H,-⟩:=H.thaw rfl
 have H:=H.pA hl
 have H:=H.pA hl2
 have H:=H.pA hl3
 have H:=H.lend 0 rfl
 have H:=H.lend 1 rfl
 obtain ⟨l,hl_,hF⟩:=bs_ hF
 refine wl0 rfl (gko hf H TF.glF gf6 rfl hl_ (by decide) fun Fs2 a w hf H=>?_)
 refine pz 1 hf fun a hf=>?_
 refine sB 0 hf H TF.sz28 fun w H=>?_
 refine wr (lN 0 hf H TF.la30 fun a hf=>?_)
 refine sB 1 hf H TF.sz30 fun w H=>?_
 have hf:=hf.pn [4]
 refine wer ?_
 obtain ⟨F5,H⟩:=H.freezeOwn 0 rfl
 have H:=H.lend 0 rfl
 have H:=H.frontD 2 rfl
 have H:=H.frontD 2 rfl
 obtain rfl:=oi hF
 refine xi hf rfl (um hf H 1 TF.la30 rfl rfl rfl) ?_
 have hN:=H.ends3
 exact ⟨_,rfl,H.bel,(F2++(F3++F5)),⟨_,vB (x:=({ Network:=y.Network,Lights:=l }:Plan)) (H.ownAt 0 rfl) (H.ownAt 1 rfl) (H.ownAt 2 rfl),rfl⟩,by first | exact hN | simpa using hN⟩
end AT
