/- The Go functions do what is told of them, by program (gen.py). -/
import Derived.Test.YtlemonjnolciiaaGreatWFnSafeOrder2
set_option linter.unusedVariables false
set_option linter.unusedSimpArgs false
set_option maxRecDepth 100000
set_option maxHeartbeats 1000000
namespace AT
open Go Go.RowKit Go.Proofs
variable {fu:Nat} {w0:World}
theorem gdv {S:Nat→Prop} {v0_:Value} {v1_:Value} {p:Plan} {q:Plan} {r:List Action×Bool} (h0:VR w0 S v0_ p) (h1:VR w0 S v1_ q) (hF:gaH fu p q=some r) :
    Calls Tryz.prog 30 [v0_,v1_].toArray w0 fun e w'=>∃ v,e=.returned v∧(Below w0.heap.size w0 w'∧∃ u0 u1,v=.tuple #[u0,u1]∧VR w' (St ⟨w0,[]⟩ S [] [] [] true) u0 r.1∧VR w' (St ⟨w0,[]⟩ S [] [] [] true) u1 r.2):=by
 obtain ⟨A,c,A2,c2,A3,c3,rfl,hl,hl2,hl3⟩:=uD h0
 obtain ⟨A4,c4,A5,c5,A6,c6,rfl,hl4,hl5,hl6⟩:=uD h1
 have H:=Mem.start ⟨w0,[]⟩ S
 have H:=H.pA hl
 have H:=H.pA hl2
 have H:=H.pA hl3
 have H:=H.pA hl4
 have H:=H.pA hl5
 have H:=H.pA hl6
 refine en Tryz.func30 fun a hf=>?_
 rw [gaH] at hF
 refine bx hf H fun b' a w hf H=>?_
 refine wl0 rfl (xl hf H rfl rfl (by decide) fun b2 a w hf H=>?_)
 refine pz 2 hf fun a hf=>?_
 refine wr (lN 1 hf H TF.la30 fun a hf=>?_)
 refine lN 0 hf H TF.la30 fun a hf=>?_
 obtain ⟨y,hy,hF⟩:=bs_ hF
 refine oc hf TF.cl32 (gat (S:=TT) (uj (x:=p) (H.rt 5 rfl) (H.rt 4 rfl) (H.rt 3 rfl)) (uj (x:=q) (H.rt 2 rfl) (H.rt 1 rfl) (H.rt 0 rfl)) hy) fun v w a hp hf=>?_
 obtain ⟨hb,F,v2,v3,rfl,hp2,hp3,hN⟩:=hp
 obtain ⟨A7,c7,rfl,hl7⟩:=xP hp2
 obtain rfl:=uo hp3
 have H:=H.aO1 hb hN hl7
 have H:=H.lend 0 rfl
 refine pz 5 hf fun a hf=>?_
 refine we (sqz (pz 2 hf fun a hf=>?_))
 have hf:=hf.pn [2,6,20]
 refine ub (ua (ib hF hf (fun hc hF=>?_) fun hc hF=>?_))
 refine sq (reg (wl0 rfl (bl hf H 148 ([]:List Action) [] el0 fun A8 a w hf H=>?_)))
 refine pz 2 hf fun a hf=>?_
 refine ub (ua (wp_ret (uf (?_))))
 have H:=H.freeze 0 rfl
 obtain rfl:=oi hF
 refine vL hf rfl (uE hf rfl) (uE hf rfl) ?_
 exact ⟨_,rfl,H.bel,_,_,rfl,(uB (vt (α:=List Action) (H.get 0 rfl))),uk⟩
 refine wp_skip (ua (sqz (pz 3 hf fun a hf=>?_)))
 refine oq hf (zk u64w Tryz.underlying3 Tryz.underlying128 hf rfl) fun a hf=>?_
 obtain ⟨q2,hq2,hF⟩:=bs_ hF
 refine oq hf (gbI hf rfl rfl hq2) fun a hf=>?_
 obtain ⟨l,hl_,hF⟩:=bs_ hF
 refine wl0 rfl (gkm (z0:=(false:Bool)) hf H Tryz.underlying143 TF.ai4 rfl (by decide) rfl rfl rfl hl_ (by decide) fun A9 c8 a w hf H=>?_)
 refine oq hf (uA hf (cs:=[(.slice A7 y.1.length c7),(.slice A9 l.length c8)]) rfl (fun w=>by kernel_rfl)) fun a hf=>?_
 refine wl0 rfl (xl hf H rfl rfl (by decide) fun b3 a w hf H=>?_)
 refine pz 1 hf fun a hf=>?_
 refine wr (pz 1 hf fun a hf=>?_)
 refine lN 2 hf H TF.la30 fun a hf=>?_
 refine wl0 rfl (bl hf H 3 ([]:List Int) [] el0 fun A10 a w hf H=>?_)
 have H:=H.freezeBox 0 rfl
 have H:=H.lendQ 0 (q:=MP.cells ⟨b3,0,none⟩ [(.slice A7 y.1.length c7),(.slice A9 l.length c8)]) rfl fun _ _ h=>h
 have H:=H.freeze 0 rfl
 obtain ⟨y2,hy2,hF⟩:=bs_ hF
 refine oc hf TF.gfu (gbE (x1:=({ list:=y.1,failed:=l }:L20SearchP)) (H.weakQ 1 rfl) (uK (α:=List Action) (H.get 2 rfl)) (H.callRow rfl rfl).1 (H.callRow rfl rfl).2.1 (H.callRow rfl rfl).2.2 (uj (x:=p) (uK (α:=List ByteArray) (H.get 8 rfl)) (uK (α:=List Fiber) (H.get 7 rfl)) (uK (α:=List Light) (H.get 6 rfl))) (uB (uK (α:=List Int) (H.get 0 rfl))) ug hy2) fun v4 w a hp4 hf=>?_
 obtain ⟨F3,hch,ho,hbk,hp4⟩:=hp4
 obtain ⟨E,hlen,H,hmv⟩:=H.wroteRow rfl hch ho hbk
 obtain ⟨v5,v6,rfl,hp5,hp6⟩:=hp4
 obtain ⟨A11,c9,rfl,hl8⟩:=u4 hp5
 replace hl8:=GoTy.mono (α:=List Int) hl8 hmv
 obtain rfl:=uo hp6
 have hf:=hf.pn [2,6,8,20,22,23,24,25,26,29,31,32,33,34]
 have H:=H.pF hl8
 refine pz 5 hf fun a hf=>?_
 have hf:=hf.pn [6,9,10]
 refine we (sqz (pz 2 hf fun a hf=>?_))
 refine ub (ua (ib hF hf (fun hc2 hF=>?_) fun hc2 hF=>?_))
 refine sq (reg (wl0 rfl (bl hf H 148 ([]:List Action) [] el0 fun A12 a w hf H=>?_)))
 refine pz 2 hf fun a hf=>?_
 refine ub (ua (wp_ret (uf (?_))))
 have H:=H.freeze 0 rfl
 obtain rfl:=oi hF
 refine vL hf rfl (uE hf rfl) (uE hf rfl) ?_
 exact ⟨_,rfl,H.bel,_,_,rfl,(uB (vt (α:=List Action) (H.get 0 rfl))),uk⟩
 refine wp_skip (ua (sq (reg (wl0 rfl (bl hf H 148 ([]:List Action) [] el0 fun A13 a w hf H=>?_)))))
 refine pz 1 hf fun a hf=>?_
 refine we (sqz (pz 1 hf fun a hf=>?_))
 refine ub (ua ?_)
 obtain ⟨out2,hB1,hF⟩:=bs_ hF
 have hf:=hf.pn [6,9,11,12]
 have H:=H.lk 0 3 2 [0,3]
 refine vU (fun (s:List Action×Int) (a:Act) (w:World)=>match s with | (out',i)=>∃ (A14:Option Addr) (c10:Nat) (E2:Go.TypeId),Fr a 58 [(6,(.slice A7 y.1.length c7)),(9,(.slice A11 y2.1.length c9)),(11,(.slice A14 out'.length c10)),(12,(.int .i64 i))]∧Mem ⟨w0,[]⟩ S [] [⟨.sh true,E2,A14,c10,(out':List Action)⟩,⟨.sh true,E,A9,c8,(y2.2.2:List Bool)⟩] [⟨F,MP.own F [(.slice A7 y.1.length c7)] (y.1:List Action)⟩] [(false,MP.val [(.slice A11 y2.1.length c9)] (y2.1:List Int)),(true,MP.val [(.slice A7 y.1.length c7)] (y.1:List Action))] w) (fun k (s:List Action×Int)=>xt fu y y2 k s.1 s.2=some out2) (fun s=>out2=s) (([]:List Action),0) fu hB1 ⟨A13,0,148,hf,H⟩ (fun s h=>by cases h) ?_ ?_
 rintro fk ⟨out',i⟩ a w hR1 hI
 replace hR1:xt fu y y2 (fk + 1) out' i=some out2:=hR1
 rw [xt] at hR1
 obtain ⟨A14,c10,E2,hf,H⟩:=hI
 refine sq (sqz (pz 4 hf fun a hf=>?_))
 refine ub (ua (ib hR1 hf (fun hc3 hR1=>?_) fun hc3 hR1=>?_))
 refine wp_skip (ua (sq (wp_block (reg (pz 4 hf fun a hf=>?_)))))
 obtain ⟨e,he,hR1⟩:=bs_ hR1
 refine wl0 rfl (vn hf H Tryz.underlying35 TF.sz3 0 rfl rfl rfl he (by decide) fun p2 o cs a hf hr H=>?_)
 obtain rfl:=hr
 refine oq hf (uI hf H TF.ls3 0 0 rfl rfl rfl) fun a hf=>?_
 obtain ⟨e2,he2,hR1⟩:=bs_ hR1
 refine wl0 rfl (vn hf H Tryz.underlying70 TF.gce 2 rfl rfl rfl he2 (by decide) fun p3 o2 cs2 a hf hr2 H=>?_)
 obtain ⟨A15,c11,rfl,hl9⟩:=zI hr2
 have H:=H.pT hl9
 refine oq hf (uz hf H TF.gck 1 0 rfl rfl rfl rfl) fun a hf=>?_
 refine wl0 rfl (bl hf H 148 ([e2]:List Action) [(.int .i64 e2.Kind),(.int .i64 e2.Light.Id),(.int .i64 e2.Light.Route.Start),(.slice A15 e2.Light.Route.Fibers.length c11),(.int .i64 e2.Light.Block.First),(.int .i64 e2.Light.Block.Count)] (el1 (y:=e2) ((gbW (x:=e2) (H.get 0 rfl)))) fun A16 a w hf H=>?_)
 obtain ⟨l2,hl2_,hR1⟩:=bs_ hR1
 refine wl0 rfl (xg hf H Tryz.underlying70 TF.gdr rfl (by decide) 1 0 rfl rfl rfl rfl (.inr rfl) hl2_ (by decide) fun E3 A17 c12 a w hf H=>?_)
 refine pz 1 hf fun a hf=>?_
 have hf:=hf.pn [6,9,11,12]
 refine ub (uV (ua (reg (pz 3 hf fun a hf=>?_))))
 refine ub ?_
 have hf:=hf.pn [6,9,11,12]
 have H:=H.lk 0 6 1 [3,4]
 exact ua ⟨(l2,w64 (i + 1)),hR1,A17,c12,E3,hf,H⟩
 refine wp_exit (uy (uy (vJ (?_))))
 have hf:=hf.pn [6,9,11,12]
 have H:=H.lk 0 3 1 [0,1]
 exact ⟨(out',i),(Option.some.inj hR1).symm,A14,c10,E2,hf,H⟩
 rintro a w ⟨⟨out3,i2⟩,rfl,A18,c13,E4,hf,H⟩
 try dsimp only at hF
 refine ua (sqz (pz 3 hf fun a hf=>?_))
 refine wer ?_
 have H:=H.freeze 0 rfl
 obtain rfl:=oi hF
 refine vL hf rfl (uE hf rfl) (uE hf rfl) ?_
 exact ⟨_,rfl,H.bel,_,_,rfl,(uB (vt (α:=List Action) (H.get 0 rfl))),uk⟩
theorem gev {S:Nat→Prop} {v0_:Value} {v1_:Value} {p:Plan} {list:List Action} {r:Plan×Int} (h0:VR w0 S v0_ p) (h1:VR w0 S v1_ list) (hF:gaW fu p list=some r) :
    Calls Tryz.prog 109 [v0_,v1_].toArray w0 fun e w'=>∃ v,e=.returned v∧(Below w0.heap.size w0 w'∧∃ F0,∃ u0 u1,v=.tuple #[u0,u1]∧VO w' F0 u0 r.1∧VR w' (St ⟨w0,[]⟩ S [] [] [] true) u1 r.2∧New w0 w' F0):=by
 obtain ⟨A,c,A2,c2,A3,c3,rfl,hl,hl2,hl3⟩:=uD h0
 obtain ⟨A4,c4,rfl,hl4⟩:=u4 h1
 have H:=Mem.start ⟨w0,[]⟩ S
 have H:=H.pA hl
 have H:=H.pA hl2
 have H:=H.pA hl3
 have H:=H.pA hl4
 refine en Tryz.func109 fun a hf=>?_
 rw [gaW] at hF
 refine bx hf H fun b' a w hf H=>?_
 refine aL hf H TF.zv30 fun b2 a w hf H=>?_
 refine pz 1 hf fun a hf=>?_
 refine wr (lN 1 hf H TF.la30 fun a hf=>?_)
 obtain ⟨y,hy,hF⟩:=bs_ hF
 refine oc hf TF.cl69 (zw (S:=TT) (uj (x:=p) (H.rt 3 rfl) (H.rt 2 rfl) (H.rt 1 rfl)) hy) fun v w a hp hf=>?_
 obtain ⟨hb,F,hp2,hN⟩:=hp
 obtain ⟨A5,c5,F2,A6,c6,F3,A7,c7,F4,rfl,rfl,hl5,hl6,hl7⟩:=zH hp2
 have H:=H.aO3 hb (by first | exact hN | simpa using hN) hl5 hl6 hl7
 have H:=H.lend 0 rfl
 have H:=H.lend 1 rfl
 have H:=H.lend 2 rfl
 refine aL hf H TF.zv30 fun b3 a w hf H=>?_
 refine sB 0 hf H TF.sz30 fun w H=>?_
 refine we (sqz (pz 3 hf fun a hf=>?_))
 refine ub (ua ?_)
 obtain ⟨out',hB1,hF⟩:=bs_ hF
 have hf:=hf.pn [1,4,6,13,14,15]
 have H:=H.frontD 1 rfl
 have H:=H.frontD 2 rfl
 have H:=H.lm 3 0 7 4 15
 refine vU (fun (s:Int×List ByteArray×List Fiber×List Light) (a:Act) (w:World)=>match s with | (i,m,m2,m3)=>∃ (A8:Option Addr) (c8:Nat) (F5:List Nat) (A9:Option Addr) (c9:Nat) (F6:List Nat) (A10:Option Addr) (c10:Nat) (F7:List Nat),Fr a 35 [(1,(.slice A4 list.length c4)),(4,(.pointer (some ⟨b2,0,none⟩))),(6,(.pointer (some ⟨b3,0,none⟩))),(13,(.slice A4 list.length c4)),(14,(.int .i64 (list.length:Int))),(15,(.int .i64 i))]∧Mem ⟨w0,[]⟩ S [⟨b3,30,[(.slice A8 m.length c8),(.slice A9 m2.length c9),(.slice A10 m3.length c10)]⟩,⟨b2,30,[(.slice none 0 0),(.slice none 0 0),(.slice none 0 0)]⟩] [] [⟨F7,MP.own F7 [(.slice A10 m3.length c10)] (m3:List Light)⟩,⟨F6,MP.own F6 [(.slice A9 m2.length c9)] (m2:List Fiber)⟩,⟨F5,MP.own F5 [(.slice A8 m.length c8)] (m:List ByteArray)⟩] [(true,MP.val [(.slice A10 m3.length c10)] (m3:List Light)),(true,MP.val [(.slice A9 m2.length c9)] (m2:List Fiber)),(true,MP.val [(.slice A8 m.length c8)] (m:List ByteArray)),(false,MP.val [(.slice A4 list.length c4)] (list:List Action))] w) (fun k (s:Int×List ByteArray×List Fiber×List Light)=>yr fu list k s.1 s.2.1 s.2.2.1 s.2.2.2=some out') (fun s=>out'=Out.next s) (0,y.Network.Nodes,y.Network.Fibers,y.Lights) fu hB1 ⟨A5,c5,F2,A6,c6,F3,A7,c7,F4,hf,H⟩ (fun s h=>by cases h) ?_ ?_
 rintro fk ⟨i,m,m2,m3⟩ a w hR1 hI
 replace hR1:yr fu list (fk + 1) i m m2 m3=some out':=hR1
 rw [yr] at hR1
 obtain ⟨A8,c8,F5,A9,c9,F6,A10,c10,F7,hf,H⟩:=hI
 refine sqz (pz 1 hf fun a hf=>?_)
 refine ub (ua (sq (ib hR1 hf (fun hc hR1=>?_) fun hc hR1=>?_)))
 refine ws (pz 1 hf fun a hf=>?_)
 obtain ⟨e,he,hR1⟩:=bs_ hR1
 refine wl0 rfl (vn hf H Tryz.underlying70 TF.gce 3 rfl rfl rfl he (by decide) fun p2 o cs a hf hr H=>?_)
 obtain ⟨A11,c11,rfl,hl8⟩:=zI hr
 have H:=H.pF hl8
 refine oq hf (uz hf H TF.gck 1 0 rfl rfl rfl rfl) fun a hf=>?_
 refine aL hf H TF.ghG fun b4 a w hf H=>?_
 refine pz 1 hf fun a hf=>?_
 refine sB 0 hf H TF.gce fun w H=>?_
 refine wr (lN 1 hf H TF.la30 fun a hf=>?_)
 refine lN 0 hf H TF.gck fun a hf=>?_
 obtain ⟨y2,hy2,hR1⟩:=bs_ hR1
 refine oc hf TF.glq (gbz (S:=TT) (uj (x:=({ Network:=({ Nodes:=m,Fibers:=m2 }:Network),Lights:=m3 }:Plan)) (H.rt 4 rfl) (H.rt 3 rfl) (H.rt 2 rfl)) (gaE (x:=e) (H.rt 0 rfl)) hy2) fun v2 w a hp3 hf=>?_
 obtain ⟨hb2,F8,v3,v4,rfl,hp4,hp5,hN2⟩:=hp3
 obtain ⟨A12,c12,F9,A13,c13,F10,A14,c14,F11,rfl,rfl,hl9,hl10,hl11⟩:=zH hp4
 obtain rfl:=uo hp5
 have H:=H.aO3 hb2 (by first | exact hN2 | simpa using hN2) hl9 hl10 hl11
 have H:=H.lend 0 rfl
 have H:=H.lend 1 rfl
 have H:=H.lend 2 rfl
 refine pz 3 hf fun a hf=>?_
 refine aL hf H TF.zv30 fun b5 a w hf H=>?_
 refine sB 0 hf H TF.sz30 fun w H=>?_
 refine pz 1 hf fun a hf=>?_
 refine we (sqz (pz 2 hf fun a hf=>?_))
 have hf:=hf.pn [1,4,6,7,9,13,14,15,27]
 refine ub (ua (ib hR1 hf (fun hc2 hR1=>?_) fun hc2 hR1=>?_))
 refine sq (reg (lN 2 hf H TF.la30 fun a hf=>?_))
 refine pz 1 hf fun a hf=>?_
 refine sB 3 hf H TF.sz30 fun w H=>?_
 refine pz 1 hf fun a hf=>?_
 refine ub (ua (wp_ret (uf (u9 (uf (uf (u9 (uf (uf (?_))))))))))
 have H:=H.frontD 3 rfl
 have H:=H.frontD 4 rfl
 have H:=H.frontD 5 rfl
 obtain rfl:=oi hR1
 replace hF:=xc hF
 obtain rfl:=oi hF
 refine vL hf rfl (um hf H 3 TF.la30 rfl rfl rfl) (uE hf rfl) ?_
 have hN:=H.ends3
 exact ⟨_,rfl,H.bel,(F5++(F6++F7)),_,_,rfl,⟨_,vB (x:=({ Network:=({ Nodes:=m,Fibers:=m2 }:Network),Lights:=m3 }:Plan)) (H.ownAt 0 rfl) (H.ownAt 1 rfl) (H.ownAt 2 rfl),rfl⟩,ug,by first | exact hN | simpa using hN⟩
 refine wp_skip (ua (reg (lN 0 hf H TF.la30 fun a hf=>?_)))
 refine sB 2 hf H TF.sz30 fun w H=>?_
 refine ub (uV (ua (reg (pz 2 hf fun a hf=>?_))))
 refine ub ?_
 have hf:=hf.pn [1,4,6,13,14,15]
 have H:=H.frontD 1 rfl
 have H:=H.frontD 2 rfl
 have H:=H.lm 12 0 7 9 263
 exact ua ⟨(w64 (i + 1),y2.1.Network.Nodes,y2.1.Network.Fibers,y2.1.Lights),hR1,A12,c12,F9,A13,c13,F10,A14,c14,F11,hf,H⟩
 refine wp_exit (uy (uy (vJ (?_))))
 have hf:=hf.pn [1,4,6,13,14,15]
 have H:=H.lm 3 0 7 4 15
 exact ⟨(i,m,m2,m3),(Option.some.inj hR1).symm,A8,c8,F5,A9,c9,F6,A10,c10,F7,hf,H⟩
 rintro a w ⟨⟨i2,m4,m5,m6⟩,rfl,A15,c15,F12,A16,c16,F13,A17,c17,F14,hf,H⟩
 replace hF:=vG hF
 try dsimp only at hF
 refine ua (sq (reg (lN 0 hf H TF.la30 fun a hf=>?_)))
 refine pz 2 hf fun a hf=>?_
 refine sB 1 hf H TF.sz30 fun w H=>?_
 refine pz 1 hf fun a hf=>?_
 refine wer ?_
 have H:=H.frontD 1 rfl
 have H:=H.frontD 2 rfl
 obtain rfl:=oi hF
 refine vL hf rfl (um hf H 1 TF.la30 rfl rfl rfl) (uE hf rfl) ?_
 have hN:=H.ends3
 exact ⟨_,rfl,H.bel,(F12++(F13++F14)),_,_,rfl,⟨_,vB (x:=({ Network:=({ Nodes:=m4,Fibers:=m5 }:Network),Lights:=m6 }:Plan)) (H.ownAt 0 rfl) (H.ownAt 1 rfl) (H.ownAt 2 rfl),rfl⟩,ug,by first | exact hN | simpa using hN⟩
theorem gcB {S:Nat→Prop} {v0_:Value} {v1_:Value} {p:Plan} {list:List Action} {r:Plan×Int×Bool} (h0:VR w0 S v0_ p) (h1:VR w0 S v1_ list) (hF:za fu p list=some r) :
    Calls Tryz.prog 33 [v0_,v1_].toArray w0 fun e w'=>∃ v,e=.returned v∧(Below w0.heap.size w0 w'∧∃ F0,∃ u0 u1 u2,v=.tuple #[u0,u1,u2]∧VO w' F0 u0 r.1∧VR w' (St ⟨w0,[]⟩ S [] [] [] true) u1 r.2.1∧VR w' (St ⟨w0,[]⟩ S [] [] [] true) u2 r.2.2∧New w0 w' F0):=by
 obtain ⟨A,c,A2,c2,A3,c3,rfl,hl,hl2,hl3⟩:=uD h0
 obtain ⟨A4,c4,rfl,hl4⟩:=u4 h1
 have H:=Mem.start ⟨w0,[]⟩ S
 have H:=H.pA hl
 have H:=H.pA hl2
 have H:=H.pA hl3
 have H:=H.pA hl4
 refine en Tryz.func33 fun a hf=>?_
 rw [za] at hF
 refine bx hf H fun b' a w hf H=>?_
 refine aL hf H TF.zv30 fun b2 a w hf H=>?_
 refine pz 2 hf fun a hf=>?_
 refine ub (ua (sq (sq ?_)))
 obtain ⟨c5,hGc5,hF⟩:=bs_ hF
 have fh:=hf.prune [1,2,4] rfl
 have Hm:=H.lm 3 0 0 4 15
 refine midF 16 (.bool c5) fh Hm ?_ fun a w hf H=>?_
 refine reg (lN 1 hf H TF.la30 fun a hf=>?_)
 obtain ⟨y,hy,hGc5⟩:=bs_ hGc5
 refine oc hf TF.cl18 (xy (S:=TT) (uj (x:=p) (H.rt 3 rfl) (H.rt 2 rfl) (H.rt 1 rfl)) hy) fun v w a hp hf=>?_
 obtain ⟨hb,hp⟩:=hp
 obtain rfl:=uo hp
 have H:=H.keep hb
 refine pz 2 hf fun a hf=>?_
 refine iteB hGc5 (fun hc hGc5=>?_) fun hc hGc5=>?_
 have hf:=hf.lit 12 rfl hc
 refine pz 4 hf fun a hf=>?_
 obtain rfl:=oi hGc5
 have hf:=hf.pn [16,1,2,4]
 have H:=H.lm 3 0 0 4 15
 exact ub ⟨hf,H⟩
 have hf:=hf.lit 12 rfl hc
 refine pz 4 hf fun a hf=>?_
 obtain rfl:=oi hGc5
 have hf:=hf.pn [16,1,2,4]
 have H:=H.lm 3 0 0 4 15
 exact ub ⟨hf,H⟩
 refine ua (ib hF hf (fun hc2 hF=>?_) fun hc2 hF=>?_)
 refine sq (reg (oq hf (uA hf (cs:=[(.slice none 0 0),(.slice none 0 0),(.slice none 0 0)]) rfl (fun w=>by kernel_rfl)) fun a hf=>?_))
 refine sB 0 hf H TF.sz30 fun w H=>?_
 refine pz 2 hf fun a hf=>?_
 refine ub (ua (wp_ret (uf (?_))))
 have H:=H.ownNil (ByteArray)
 have H:=H.lend 0 rfl
 have H:=H.ownNil (Fiber)
 have H:=H.lend 0 rfl
 have H:=H.ownNil (Light)
 have H:=H.lend 0 rfl
 have H:=H.frontD 1 rfl
 have H:=H.frontD 2 rfl
 obtain rfl:=oi hF
 refine gkg hf rfl (um hf H 0 TF.la30 rfl rfl rfl) (uE hf rfl) (uE hf rfl) ?_
 have hN:=H.ends3
 exact ⟨_,rfl,H.bel,([]++([]++[])),_,_,_,rfl,⟨_,vB (x:=({ Network:=({ Nodes:=[],Fibers:=[] }:Network),Lights:=[] }:Plan)) (H.ownAt 0 rfl) (H.ownAt 1 rfl) (H.ownAt 2 rfl),rfl⟩,ug,uk,by first | exact hN | simpa using hN⟩
 refine wp_skip (ua (sq (reg (lN 1 hf H TF.la30 fun a hf=>?_))))
 refine pz 1 hf fun a hf=>?_
 obtain ⟨y2,hy2,hF⟩:=bs_ hF
 refine oc hf TF.gmr (gev (S:=TT) (uj (x:=p) (H.rt 3 rfl) (H.rt 2 rfl) (H.rt 1 rfl)) (uB (H.rt 0 rfl)) hy2) fun v2 w a hp2 hf=>?_
 obtain ⟨hb2,F,v3,v4,rfl,hp3,hp4,hN⟩:=hp2
 obtain ⟨A5,c6,F2,A6,c7,F3,A7,c8,F4,rfl,rfl,hl5,hl6,hl7⟩:=zH hp3
 obtain rfl:=uv hp4
 have H:=H.aO3 hb2 (by first | exact hN | simpa using hN) hl5 hl6 hl7
 have H:=H.lend 0 rfl
 have H:=H.lend 1 rfl
 have H:=H.lend 2 rfl
 refine pz 3 hf fun a hf=>?_
 refine aL hf H TF.zv30 fun b3 a w hf H=>?_
 refine sB 0 hf H TF.sz30 fun w H=>?_
 refine pz 1 hf fun a hf=>?_
 refine we (sqz (pz 4 hf fun a hf=>?_))
 refine ub (ua (ib hF hf (fun hc3 hF=>?_) fun hc3 hF=>?_))
 refine reg (lN 2 hf H TF.la30 fun a hf=>?_)
 obtain ⟨y3,hy3,hF⟩:=bs_ hF
 refine oc hf TF.cl69 (zw (S:=TT) (uj (x:=p) (H.rt 6 rfl) (H.rt 5 rfl) (H.rt 4 rfl)) hy3) fun v5 w a hp5 hf=>?_
 obtain ⟨hb3,F5,hp6,hN2⟩:=hp5
 obtain ⟨A8,c9,F6,A9,c10,F7,A10,c11,F8,rfl,rfl,hl8,hl9,hl10⟩:=zH hp6
 have H:=H.aO3 hb3 (by first | exact hN2 | simpa using hN2) hl8 hl9 hl10
 have H:=H.lend 0 rfl
 have H:=H.lend 1 rfl
 have H:=H.lend 2 rfl
 refine sB 0 hf H TF.sz30 fun w H=>?_
 have hf:=hf.pn [4,7,8]
 refine wr (lN 0 hf H TF.la30 fun a hf=>?_)
 refine pz 1 hf fun a hf=>?_
 refine sB 1 hf H TF.sz30 fun w H=>?_
 refine pz 2 hf fun a hf=>?_
 refine wer ?_
 have H:=H.frontD 2 rfl
 have H:=H.frontD 2 rfl
 have H:=H.frontD 2 rfl
 obtain rfl:=oi hF
 refine gkg hf rfl (um hf H 1 TF.la30 rfl rfl rfl) (uE hf rfl) (uE hf rfl) ?_
 have hN:=H.ends3
 exact ⟨_,rfl,H.bel,(F6++(F7++F8)),_,_,_,rfl,⟨_,vB (x:=y3) (H.ownAt 0 rfl) (H.ownAt 1 rfl) (H.ownAt 2 rfl),rfl⟩,ug,uk,by first | exact hN | simpa using hN⟩
 refine wp_skip (ua (sq (reg (lN 0 hf H TF.la30 fun a hf=>?_))))
 refine pz 1 hf fun a hf=>?_
 refine sB 1 hf H TF.sz30 fun w H=>?_
 refine pz 2 hf fun a hf=>?_
 have hf:=hf.pn [4,5,6]
 refine wer ?_
 have H:=H.frontD 2 rfl
 have H:=H.frontD 2 rfl
 have H:=H.frontD 2 rfl
 obtain rfl:=oi hF
 refine gkg hf rfl (um hf H 1 TF.la30 rfl rfl rfl) (uE hf rfl) (uE hf rfl) ?_
 have hN:=H.ends3
 exact ⟨_,rfl,H.bel,(F2++(F3++F4)),_,_,_,rfl,⟨_,vB (x:=y2.1) (H.ownAt 0 rfl) (H.ownAt 1 rfl) (H.ownAt 2 rfl),rfl⟩,ug,uk,by first | exact hN | simpa using hN⟩
theorem gdz {S:Nat→Prop} {v0_:Value} {v1_:Value} {a':Network} {b':Network} {r:Bool} (h0:VR w0 S v0_ a') (h1:VR w0 S v1_ b') (hF:yQ fu a' b'=some r) :
    Calls Tryz.prog 73 [v0_,v1_].toArray w0 fun e w'=>∃ v,e=.returned v∧(Below w0.heap.size w0 w'∧VR w' (St ⟨w0,[]⟩ S [] [] [] true) v r):=by
 obtain ⟨A,c,A2,c2,rfl,hl,hl2⟩:=vA h0
 obtain ⟨A3,c3,A4,c4,rfl,hl3,hl4⟩:=vA h1
 have H:=Mem.start ⟨w0,[]⟩ S
 have H:=H.pA hl
 have H:=H.pA hl2
 have H:=H.pA hl3
 have H:=H.pA hl4
 refine en Tryz.func73 fun a hf=>?_
 rw [yQ] at hF
 refine bx hf H fun b2 a w hf H=>?_
 refine wl0 rfl (xl hf H rfl rfl (by decide) fun b3 a w hf H=>?_)
 refine pz 1 hf fun a hf=>?_
 refine ub (ua (sq (sq ?_)))
 obtain ⟨c5,hGc5,hF⟩:=bs_ hF
 have fh:=hf.prune [2,3] rfl
 have Hm:=H.lm 3 0 0 4 15
 refine midF 22 (.bool c5) fh Hm ?_ fun a w hf H=>?_
 refine reg (pz 1 hf fun a hf=>?_)
 refine lB 1 hf H TF.ls24 fun a hf=>?_
 refine pz 2 hf fun a hf=>?_
 refine lB 0 hf H TF.ls24 fun a hf=>?_
 refine pz 3 hf fun a hf=>?_
 refine iteB hGc5 (fun hc hGc5=>?_) fun hc hGc5=>?_
 have hf:=hf.lit 14 rfl hc
 refine pz 8 hf fun a hf=>?_
 obtain rfl:=oi hGc5
 have hf:=hf.pn [22,2,3]
 have H:=H.lm 3 0 0 4 15
 exact ub ⟨hf,H⟩
 have hf:=hf.lit 14 rfl hc
 refine pz 1 hf fun a hf=>?_
 refine wlg hf rfl rfl rfl (op_q hf (ue hf H TF.ls25 1 rfl rfl rfl) rfl (by decide) fun a hf=>?_)
 refine pz 2 hf fun a hf=>?_
 refine wlg hf rfl rfl rfl (op_q hf (ue hf H TF.ls25 0 rfl rfl rfl) rfl (by decide) fun a hf=>?_)
 refine pz 3 hf fun a hf=>?_
 obtain rfl:=oi hGc5
 have hf:=hf.pn [22,2,3]
 have H:=H.lm 3 0 0 4 15
 exact ub ⟨hf,H⟩
 refine ua (ib hF hf (fun hc2 hF=>?_) fun hc2 hF=>?_)
 refine sqz (pz 1 hf fun a hf=>?_)
 refine ub (ua (wp_ret (uf (?_))))
 obtain rfl:=oi hF
 refine rT hf ?_
 exact ⟨_,rfl,H.bel,uk⟩
 refine wp_skip (ua (sq (sqz (pz 1 hf fun a hf=>?_))))
 refine ub (ua ?_)
 obtain ⟨out',hB1,hF⟩:=bs_ hF
 have hf:=hf.pn [2,3,5]
 have H:=H.lm 3 0 0 4 15
 refine vU (fun (s:Int) (a:Act) (w:World)=>match s with | i=>Fr a 59 [(2,(.pointer (some ⟨b2,0,none⟩))),(3,(.pointer (some ⟨b3,0,none⟩))),(5,(.int .i64 i))]∧Mem ⟨w0,[]⟩ S [⟨b3,27,[(.slice A3 b'.Nodes.length c3),(.slice A4 b'.Fibers.length c4)]⟩,⟨b2,27,[(.slice A a'.Nodes.length c),(.slice A2 a'.Fibers.length c2)]⟩] [] [] [(false,MP.val [(.slice A4 b'.Fibers.length c4)] (b'.Fibers:List Fiber)),(false,MP.val [(.slice A3 b'.Nodes.length c3)] (b'.Nodes:List ByteArray)),(false,MP.val [(.slice A2 a'.Fibers.length c2)] (a'.Fibers:List Fiber)),(false,MP.val [(.slice A a'.Nodes.length c)] (a'.Nodes:List ByteArray))] w) (fun k (s:Int)=>vh fu a' b' k s=some out') (fun s=>out'=Out.next s) 0 fu hB1 ⟨hf,H⟩ (fun s h=>by cases h) ?_ ?_
 rintro fk i a w hR1 hI
 replace hR1:vh fu a' b' (fk + 1) i=some out':=hR1
 rw [vh] at hR1
 obtain ⟨hf,H⟩:=hI
 refine sq (sqz (pz 2 hf fun a hf=>?_))
 refine lB 1 hf H TF.ls24 fun a hf=>?_
 refine pz 2 hf fun a hf=>?_
 refine ub (ua (ib hR1 hf (fun hc3 hR1=>?_) fun hc3 hR1=>?_))
 refine wp_skip (ua (sq (wp_block (sq (dw [] 11 fun w hb=>?_)))))
 have H:=H.keep hb
 refine zp 0 hf trivial fun a hf=>?_
 refine strT (H.lk 2 0 0 []) (fun w H=>trivial) fun hS=>?_
 refine zS 1 [] rfl rfl rfl rfl hf hS (fun w H=>ue hf H TF.ls24 0 rfl rfl rfl) fun a hf=>?_
 refine zp 2 hf hS fun a hf=>?_
 obtain ⟨e,he,hR1⟩:=bs_ hR1
 obtain ⟨p,o,cs,hx,hr,H⟩:=ux H Tryz.underlying24 TF.sz9 3 rfl he
 refine zP 3 rfl rfl rfl rfl hf hS (fun w=>uu hf rfl rfl rfl hx w) fun a hf=>?_
 obtain rfl:=hr
 refine strT (H.lk 2 0 0 [0]) (fun w H=>H.lk 1 0 0 []) fun hS=>?_
 refine zS 4 [] rfl rfl rfl rfl hf hS (fun w H=>uI hf H TF.ls9 0 0 rfl rfl rfl) fun a hf=>?_
 refine zp 5 hf hS fun a hf=>?_
 refine strT (H.lk 3 0 0 [0]) (fun w H=>H.lk 2 0 0 [0]) fun hS=>?_
 refine zS 6 [] rfl rfl rfl rfl hf hS (fun w H=>ue hf H TF.ls24 0 rfl rfl rfl) fun a hf=>?_
 refine zp 7 hf hS fun a hf=>?_
 obtain ⟨e2,he2,hR1⟩:=bs_ hR1
 obtain ⟨p2,o2,cs2,hx2,hr2,H⟩:=ux H Tryz.underlying24 TF.sz9 2 rfl he2
 refine zP 8 rfl rfl rfl rfl hf hS (fun w=>uu hf rfl rfl rfl hx2 w) fun a hf=>?_
 obtain rfl:=hr2
 refine strT (H.lk 3 0 0 [0,1]) (fun w H=>H.lk 3 0 0 [1]) fun hS=>?_
 refine zS 9 [] rfl rfl rfl rfl hf hS (fun w H=>uI hf H TF.ls9 0 0 rfl rfl rfl) fun a hf=>?_
 refine zp 10 hf hS fun a hf=>?_
 refine dk ?_
 have hf:=hf.pn [2,3,5,40]
 refine ua (ib hR1 hf (fun hc4 hR1=>?_) fun hc4 hR1=>?_)
 refine sqz (pz 1 hf fun a hf=>?_)
 refine ub (ua (wp_ret (u9 (uf (uf (u9 (uf (uf (?_)))))))))
 obtain rfl:=oi hR1
 replace hF:=xc hF
 obtain rfl:=oi hF
 refine rT hf ?_
 exact ⟨_,rfl,H.bel,uk⟩
 refine wp_skip (uV (ua (reg (pz 3 hf fun a hf=>?_))))
 refine ub ?_
 have hf:=hf.pn [2,3,5]
 have H:=H.lm 3 0 0 6 60
 exact ua ⟨w64 (i + 1),hR1,hf,H⟩
 refine wp_exit (uy (uy (vJ (?_))))
 have hf:=hf.pn [2,3,5]
 have H:=H.lm 3 0 0 4 15
 exact ⟨i,(Option.some.inj hR1).symm,hf,H⟩
 rintro a w ⟨i2,rfl,hf,H⟩
 replace hF:=vG hF
 refine ua (sq (sqz (pz 1 hf fun a hf=>?_)))
 refine ub (ua ?_)
 obtain ⟨out2,hB1,hF⟩:=bs_ hF
 have hf:=hf.pn [2,3,6]
 have H:=H.lm 3 0 0 4 15
 refine vU (fun (s:Int) (a:Act) (w:World)=>match s with | i3=>Fr a 59 [(2,(.pointer (some ⟨b2,0,none⟩))),(3,(.pointer (some ⟨b3,0,none⟩))),(6,(.int .i64 i3))]∧Mem ⟨w0,[]⟩ S [⟨b3,27,[(.slice A3 b'.Nodes.length c3),(.slice A4 b'.Fibers.length c4)]⟩,⟨b2,27,[(.slice A a'.Nodes.length c),(.slice A2 a'.Fibers.length c2)]⟩] [] [] [(false,MP.val [(.slice A4 b'.Fibers.length c4)] (b'.Fibers:List Fiber)),(false,MP.val [(.slice A3 b'.Nodes.length c3)] (b'.Nodes:List ByteArray)),(false,MP.val [(.slice A2 a'.Fibers.length c2)] (a'.Fibers:List Fiber)),(false,MP.val [(.slice A a'.Nodes.length c)] (a'.Nodes:List ByteArray))] w) (fun k (s:Int)=>vg fu a' b' k s=some out2) (fun s=>out2=Out.next s) 0 fu hB1 ⟨hf,H⟩ (fun s h=>by cases h) ?_ ?_
 rintro fk i3 a w hR1 hI
 replace hR1:vg fu a' b' (fk + 1) i3=some out2:=hR1
 rw [vg] at hR1
 obtain ⟨hf,H⟩:=hI
 refine sq (sqz (pz 2 hf fun a hf=>?_))
 refine lB 1 hf H TF.ls25 fun a hf=>?_
 refine pz 2 hf fun a hf=>?_
 refine ub (ua (ib hR1 hf (fun hc5 hR1=>?_) fun hc5 hR1=>?_))
 refine wp_skip (ua (sq (wp_block (sq (dw [] 11 fun w hb=>?_)))))
 have H:=H.keep hb
 refine zp 0 hf trivial fun a hf=>?_
 refine strT (H.lk 2 0 0 []) (fun w H=>trivial) fun hS=>?_
 refine zS 1 [] rfl rfl rfl rfl hf hS (fun w H=>ue hf H TF.ls25 0 rfl rfl rfl) fun a hf=>?_
 refine zp 2 hf hS fun a hf=>?_
 obtain ⟨e3,he3,hR1⟩:=bs_ hR1
 obtain ⟨p3,o3,cs3,hx3,hr3,H⟩:=ux H Tryz.underlying25 TF.zc 2 rfl he3
 refine zP 3 rfl rfl rfl rfl hf hS (fun w=>uu hf rfl rfl rfl hx3 w) fun a hf=>?_
 obtain rfl:=uZ hr3
 refine strT (H.lk 2 0 0 [0]) (fun w H=>H.lk 1 0 0 []) fun hS=>?_
 refine zS 4 [] rfl rfl rfl rfl hf hS (fun w H=>uz hf H TF.gas 0 0 rfl rfl rfl rfl) fun a hf=>?_
 refine zp 5 hf hS fun a hf=>?_
 refine strT (H.lk 3 0 0 [0]) (fun w H=>H.lk 2 0 0 [0]) fun hS=>?_
 refine zS 6 [] rfl rfl rfl rfl hf hS (fun w H=>ue hf H TF.ls25 0 rfl rfl rfl) fun a hf=>?_
 refine zp 7 hf hS fun a hf=>?_
 obtain ⟨e4,he4,hR1⟩:=bs_ hR1
 obtain ⟨p4,o4,cs4,hx4,hr4,H⟩:=ux H Tryz.underlying25 TF.zc 1 rfl he4
 refine zP 8 rfl rfl rfl rfl hf hS (fun w=>uu hf rfl rfl rfl hx4 w) fun a hf=>?_
 obtain rfl:=uZ hr4
 refine strT (H.lk 3 0 0 [0,1]) (fun w H=>H.lk 3 0 0 [1]) fun hS=>?_
 refine zS 9 [] rfl rfl rfl rfl hf hS (fun w H=>uz hf H TF.gas 0 0 rfl rfl rfl rfl) fun a hf=>?_
 refine zP 10 rfl rfl rfl rfl hf hS (fun w=>ggQ hf TF.ggt ([e3.A,e3.B,e3.Length,e3.Risk]:List Int) ([e4.A,e4.B,e4.Length,e4.Risk]:List Int) rfl rfl rfl rfl rfl rfl) fun a hf=>?_
 refine dk ?_
 have hf:=hf.pn [2,3,6,58]
 refine ua (ib hR1 hf (fun hc6 hR1=>?_) fun hc6 hR1=>?_)
 refine sqz (pz 1 hf fun a hf=>?_)
 refine ub (ua (wp_ret (u9 (uf (uf (u9 (uf (uf (?_)))))))))
 obtain rfl:=oi hR1
 replace hF:=xc hF
 obtain rfl:=oi hF
 refine rT hf ?_
 exact ⟨_,rfl,H.bel,uk⟩
 refine wp_skip (uV (ua (reg (pz 3 hf fun a hf=>?_))))
 refine ub ?_
 have hf:=hf.pn [2,3,6]
 have H:=H.lm 3 0 0 6 60
 exact ua ⟨w64 (i3 + 1),hR1,hf,H⟩
 refine wp_exit (uy (uy (vJ (?_))))
 have hf:=hf.pn [2,3,6]
 have H:=H.lm 3 0 0 4 15
 exact ⟨i3,(Option.some.inj hR1).symm,hf,H⟩
 rintro a w ⟨i4,rfl,hf,H⟩
 replace hF:=vG hF
 refine ua (sqz (pz 1 hf fun a hf=>?_))
 refine wer ?_
 obtain rfl:=oi hF
 refine rT hf ?_
 exact ⟨_,rfl,H.bel,uk⟩
theorem geQ {S:Nat→Prop} {v0_:Value} {v1_:Value} {a':Plan} {b':Plan} {r:Bool} (h0:VR w0 S v0_ a') (h1:VR w0 S v1_ b') (hF:z9 fu a' b'=some r) :
    Calls Tryz.prog 17 [v0_,v1_].toArray w0 fun e w'=>∃ v,e=.returned v∧(Below w0.heap.size w0 w'∧VR w' (St ⟨w0,[]⟩ S [] [] [] true) v r):=by
 obtain ⟨A,c,A2,c2,A3,c3,rfl,hl,hl2,hl3⟩:=uD h0
 obtain ⟨A4,c4,A5,c5,A6,c6,rfl,hl4,hl5,hl6⟩:=uD h1
 have H:=Mem.start ⟨w0,[]⟩ S
 have H:=H.pA hl
 have H:=H.pA hl2
 have H:=H.pA hl3
 have H:=H.pA hl4
 have H:=H.pA hl5
 have H:=H.pA hl6
 refine en Tryz.func17 fun a hf=>?_
 rw [z9] at hF
 refine bx hf H fun b2 a w hf H=>?_
 refine wl0 rfl (xl hf H rfl rfl (by decide) fun b3 a w hf H=>?_)
 refine pz 1 hf fun a hf=>?_
 refine ub (ua (sq (sq ?_)))
 obtain ⟨c7,hGc7,hF⟩:=bs_ hF
 have fh:=hf.prune [2,3] rfl
 have Hm:=H.lm 3 0 0 6 63
 refine midF 20 (.bool c7) fh Hm ?_ fun a w hf H=>?_
 refine reg (pz 1 hf fun a hf=>?_)
 refine lN 1 hf H TF.la27 fun a hf=>?_
 refine pz 1 hf fun a hf=>?_
 refine lN 0 hf H TF.la27 fun a hf=>?_
 obtain ⟨y,hy,hGc7⟩:=bs_ hGc7
 refine oc hf TF.cl73 (gdz (S:=TT) (uY (x:=a'.Network) (H.rt 5 rfl) (H.rt 4 rfl)) (uY (x:=b'.Network) (H.rt 2 rfl) (H.rt 1 rfl)) hy) fun v w a hp hf=>?_
 obtain ⟨hb,hp⟩:=hp
 obtain rfl:=uo hp
 have H:=H.keep hb
 refine pz 2 hf fun a hf=>?_
 refine iteB hGc7 (fun hc hGc7=>?_) fun hc hGc7=>?_
 have hf:=hf.lit 12 rfl hc
 refine pz 8 hf fun a hf=>?_
 obtain rfl:=oi hGc7
 have hf:=hf.pn [20,2,3]
 have H:=H.lm 3 0 0 6 63
 exact ub ⟨hf,H⟩
 have hf:=hf.lit 12 rfl hc
 refine pz 1 hf fun a hf=>?_
 refine wlg hf rfl rfl rfl (op_q hf (ue hf H TF.ls28 1 rfl rfl rfl) rfl (by decide) fun a hf=>?_)
 refine pz 2 hf fun a hf=>?_
 refine wlg hf rfl rfl rfl (op_q hf (ue hf H TF.ls28 0 rfl rfl rfl) rfl (by decide) fun a hf=>?_)
 refine pz 3 hf fun a hf=>?_
 obtain rfl:=oi hGc7
 have hf:=hf.pn [20,2,3]
 have H:=H.lm 3 0 0 6 63
 exact ub ⟨hf,H⟩
 refine ua (ib hF hf (fun hc2 hF=>?_) fun hc2 hF=>?_)
 refine sqz (pz 1 hf fun a hf=>?_)
 refine ub (ua (wp_ret (uf (?_))))
 obtain rfl:=oi hF
 refine rT hf ?_
 exact ⟨_,rfl,H.bel,uk⟩
 refine wp_skip (ua (sq (sqz (pz 1 hf fun a hf=>?_))))
 refine ub (ua ?_)
 obtain ⟨out',hB1,hF⟩:=bs_ hF
 have hf:=hf.pn [2,3,5]
 have H:=H.lm 3 0 0 6 63
 refine vU (fun (s:Int) (a:Act) (w:World)=>match s with | i=>Fr a 40 [(2,(.pointer (some ⟨b2,0,none⟩))),(3,(.pointer (some ⟨b3,0,none⟩))),(5,(.int .i64 i))]∧Mem ⟨w0,[]⟩ S [⟨b3,30,[(.slice A4 b'.Network.Nodes.length c4),(.slice A5 b'.Network.Fibers.length c5),(.slice A6 b'.Lights.length c6)]⟩,⟨b2,30,[(.slice A a'.Network.Nodes.length c),(.slice A2 a'.Network.Fibers.length c2),(.slice A3 a'.Lights.length c3)]⟩] [] [] [(false,MP.val [(.slice A6 b'.Lights.length c6)] (b'.Lights:List Light)),(false,MP.val [(.slice A5 b'.Network.Fibers.length c5)] (b'.Network.Fibers:List Fiber)),(false,MP.val [(.slice A4 b'.Network.Nodes.length c4)] (b'.Network.Nodes:List ByteArray)),(false,MP.val [(.slice A3 a'.Lights.length c3)] (a'.Lights:List Light)),(false,MP.val [(.slice A2 a'.Network.Fibers.length c2)] (a'.Network.Fibers:List Fiber)),(false,MP.val [(.slice A a'.Network.Nodes.length c)] (a'.Network.Nodes:List ByteArray))] w) (fun k (s:Int)=>vZ fu a' b' k s=some out') (fun s=>out'=Out.next s) 0 fu hB1 ⟨hf,H⟩ (fun s h=>by cases h) ?_ ?_
 rintro fk i a w hR1 hI
 replace hR1:vZ fu a' b' (fk + 1) i=some out':=hR1
 rw [vZ] at hR1
 obtain ⟨hf,H⟩:=hI
 refine sq (sqz (pz 2 hf fun a hf=>?_))
 refine lB 1 hf H TF.ls28 fun a hf=>?_
 refine pz 2 hf fun a hf=>?_
 refine ub (ua (ib hR1 hf (fun hc3 hR1=>?_) fun hc3 hR1=>?_))
 refine wp_skip (ua (sq (wp_block (sq (dw [] 12 fun w hb=>?_)))))
 have H:=H.keep hb
 refine zp 0 hf trivial fun a hf=>?_
 refine strT (H.lk 2 0 0 []) (fun w H=>trivial) fun hS=>?_
 refine zS 1 [] rfl rfl rfl rfl hf hS (fun w H=>ue hf H TF.ls28 0 rfl rfl rfl) fun a hf=>?_
 refine zp 2 hf hS fun a hf=>?_
 obtain ⟨e,he,hR1⟩:=bs_ hR1
 obtain ⟨p,o,cs,hx,hr,H⟩:=ux H Tryz.underlying28 TF.sz49 3 rfl he
 refine zP 3 rfl rfl rfl rfl hf hS (fun w=>uu hf rfl rfl rfl hx w) fun a hf=>?_
 obtain ⟨A7,c8,rfl,hl7⟩:=uq hr
 have H:=H.pF hl7
 refine strT (H.lk 2 0 0 [1]) (fun w H=>H.lk 1 0 0 []) fun hS=>?_
 refine zS 4 [] rfl rfl rfl rfl hf hS (fun w H=>uz hf H TF.la49 0 0 rfl rfl rfl rfl) fun a hf=>?_
 refine zp 5 hf hS fun a hf=>?_
 refine strT (H.lk 3 0 0 [1]) (fun w H=>H.lk 2 0 0 [0]) fun hS=>?_
 refine zS 6 [] rfl rfl rfl rfl hf hS (fun w H=>ue hf H TF.ls28 0 rfl rfl rfl) fun a hf=>?_
 refine zp 7 hf hS fun a hf=>?_
 obtain ⟨e2,he2,hR1⟩:=bs_ hR1
 obtain ⟨p2,o2,cs2,hx2,hr2,H⟩:=ux H Tryz.underlying28 TF.sz49 2 rfl he2
 refine zP 8 rfl rfl rfl rfl hf hS (fun w=>uu hf rfl rfl rfl hx2 w) fun a hf=>?_
 obtain ⟨A8,c9,rfl,hl8⟩:=uq hr2
 have H:=H.pF hl8
 refine strT (H.lk 3 0 0 [1,3]) (fun w H=>H.lk 3 0 0 [1]) fun hS=>?_
 refine zS 9 [] rfl rfl rfl rfl hf hS (fun w H=>uz hf H TF.la49 0 0 rfl rfl rfl rfl) fun a hf=>?_
 obtain ⟨y2,hy2,hR1⟩:=bs_ hR1
 refine nn 10 rfl (oC hf TF.cl27 (geo (S:=TT) (uT (x:=e) (H.rt 2 rfl)) (uT (x:=e2) (H.rt 0 rfl)) hy2) fun v2 w a hp2 hf=>?_)
 obtain ⟨hb2,hp2⟩:=hp2
 obtain rfl:=uo hp2
 have H:=H.keep hb2
 have hS:=H.lk 3 0 0 [1,3]
 refine aS hS ?_
 refine zp 11 hf hS fun a hf=>?_
 refine dk ?_
 have hf:=hf.pn [2,3,5,39]
 refine ua (ib hR1 hf (fun hc4 hR1=>?_) fun hc4 hR1=>?_)
 refine sqz (pz 1 hf fun a hf=>?_)
 refine ub (ua (wp_ret (u9 (uf (uf (u9 (uf (uf (?_)))))))))
 obtain rfl:=oi hR1
 replace hF:=xc hF
 obtain rfl:=oi hF
 refine rT hf ?_
 exact ⟨_,rfl,H.bel,uk⟩
 refine wp_skip (uV (ua (reg (pz 3 hf fun a hf=>?_))))
 refine ub ?_
 have hf:=hf.pn [2,3,5]
 have H:=H.lm 3 0 0 10 1008
 exact ua ⟨w64 (i + 1),hR1,hf,H⟩
 refine wp_exit (uy (uy (vJ (?_))))
 have hf:=hf.pn [2,3,5]
 have H:=H.lm 3 0 0 6 63
 exact ⟨i,(Option.some.inj hR1).symm,hf,H⟩
 rintro a w ⟨i2,rfl,hf,H⟩
 replace hF:=vG hF
 refine ua (sqz (pz 1 hf fun a hf=>?_))
 refine wer ?_
 obtain rfl:=oi hF
 refine rT hf ?_
 exact ⟨_,rfl,H.bel,uk⟩
theorem gcU {S:Nat→Prop} {v0_:Value} {code:List By} {r:Bool} (h0:VR w0 S v0_ code) (hF:z5 fu code=some r) :
    Calls Tryz.prog 5 [v0_].toArray w0 fun e w'=>∃ v,e=.returned v∧(Below w0.heap.size w0 w'∧VR w' (St ⟨w0,[]⟩ S [] [] [] true) v r):=by
 obtain ⟨A,c,rfl,hl⟩:=u4 h0
 have H:=Mem.start ⟨w0,[]⟩ S
 have H:=H.pA hl
 refine en Tryz.func5 fun a hf=>?_
 rw [z5] at hF
 refine sqz (pz 1 hf fun a hf=>?_)
 refine we (sqz (pz 1 hf fun a hf=>?_))
 obtain ⟨y,hy,hF⟩:=bs_ hF
 refine oc hf TF.cl10 (gf0 (S:=TT) (uB (H.rt 0 rfl)) hy) fun v w a hp hf=>?_
 obtain ⟨hb,hp⟩:=hp
 obtain rfl:=uo hp
 have H:=H.keep hb
 refine ub (ua (ib hF hf (fun hc hF=>?_) fun hc hF=>?_))
 refine sqz (pz 1 hf fun a hf=>?_)
 refine ub (ua (wp_ret (uf (?_))))
 obtain rfl:=oi hF
 refine rT hf ?_
 exact ⟨_,rfl,H.bel,uk⟩
 refine wp_skip (ua (sqz (pz 1 hf fun a hf=>?_)))
 obtain ⟨y2,hy2,hF⟩:=bs_ hF
 refine oc hf TF.cl28 (gch (S:=TT) (uB (H.rt 0 rfl)) hy2) fun v2 w a hp2 hf=>?_
 obtain ⟨A2,c2,F,A3,c3,F2,A4,c4,A5,c5,A6,c6,A7,c7,rfl,Hc⟩:=hp2
 have H:=H.comp Hc (.inl rfl)
 have H:=H.lend 0 rfl
 have H:=H.lend 1 rfl
 refine pz 3 hf fun a hf=>?_
 refine aL hf H TF.zv30 fun b' a w hf H=>?_
 refine aL hf H TF.zv30 fun b2 a w hf H=>?_
 refine sB 1 hf H TF.sz30 fun w H=>?_
 refine sB 0 hf H TF.sz30 fun w H=>?_
 refine wr (lN 1 hf H TF.la30 fun a hf=>?_)
 refine lN 0 hf H TF.la30 fun a hf=>?_
 obtain ⟨y3,hy3,hF⟩:=bs_ hF
 refine oc hf TF.cl29 (gdF (uj (x:=y2.1) (H.get 1 rfl) (H.get 0 rfl) (H.get 2 rfl)) (uj (x:=y2.2) (H.get 3 rfl) (H.get 4 rfl) (H.get 5 rfl)) hy3) fun v3 w a hp3 hf=>?_
 obtain ⟨hb2,v4,v5,rfl,hp4,hp5⟩:=hp3
 obtain ⟨A8,c8,rfl,hl2⟩:=u4 hp4
 replace hl2:=H.res (f:=MP.val [(.slice A8 y3.1.length c8)] y3.1) hl2
 obtain rfl:=uo hp5
 have H:=H.keep hb2
 have H:=H.pT hl2
 have hG0:=H.boxesNew
 have hB0:=H.bel
 have H:Mem ⟨w,[b2,b']⟩ (fun b=>b∉([b2,b']:List Nat)) [⟨b2,30,[(.slice A5 y2.2.Network.Nodes.length c5),(.slice A6 y2.2.Network.Fibers.length c6),(.slice A7 y2.2.Lights.length c7)]⟩,⟨b',30,[(.slice A2 y2.1.Network.Nodes.length c2),(.slice A3 y2.1.Network.Fibers.length c3),(.slice A4 y2.1.Lights.length c4)]⟩] [] [] [(false,MP.val [(.slice A8 y3.1.length c8)] (y3.1:List Action)),(false,MP.val [(.slice A3 y2.1.Network.Fibers.length c3)] (y2.1.Network.Fibers:List Fiber)),(false,MP.val [(.slice A2 y2.1.Network.Nodes.length c2)] (y2.1.Network.Nodes:List ByteArray)),(false,MP.val [(.slice A4 y2.1.Lights.length c4)] (y2.1.Lights:List Light)),(false,MP.val [(.slice A5 y2.2.Network.Nodes.length c5)] (y2.2.Network.Nodes:List ByteArray)),(false,MP.val [(.slice A6 y2.2.Network.Fibers.length c6)] (y2.2.Network.Fibers:List Fiber)),(false,MP.val [(.slice A7 y2.2.Lights.length c7)] (y2.2.Lights:List Light)),(false,MP.val [(.slice A code.length c)] (code:List By))] w:=H.rebase
 refine pz 5 hf fun a hf=>?_
 have hf:=hf.pn [3,4,5,6]
 refine ub (ua (sq (sq (reg (lN 1 hf H TF.la30 fun a hf=>?_)))))
 refine lN 0 hf H TF.la30 fun a hf=>?_
 obtain ⟨y4,hy4,hF⟩:=bs_ hF
 refine oc hf TF.cl30 (gdv (S:=TT) (uj (x:=y2.1) (H.rt 2 rfl) (H.rt 1 rfl) (H.rt 3 rfl)) (uj (x:=y2.2) (H.rt 4 rfl) (H.rt 5 rfl) (H.rt 6 rfl)) hy4) fun v6 w a hp6 hf=>?_
 obtain ⟨hb3,v7,v8,rfl,hp7,hp8⟩:=hp6
 obtain ⟨A9,c9,rfl,hl3⟩:=u4 hp7
 obtain rfl:=uo hp8
 obtain ⟨F3,H⟩:=H.addRo hb3 (p:=MP.val [(.slice A9 y4.1.length c9)] (y4.1:List Action)) hl3
 have H:=H.lendQ 0 (q:=MP.val [(.slice A9 y4.1.length c9)] (y4.1:List Action)) rfl fun _ _ h=>h
 refine pz 5 hf fun a hf=>?_
 refine wr (pz 3 hf fun a hf=>?_)
 refine ub (ua (ib hF hf (fun hc2 hF=>?_) fun hc2 hF=>?_))
 refine sqz (pz 1 hf fun a hf=>?_)
 have hf:=hf.pn [2]
 refine ub (ua (wp_ret (uf (?_))))
 obtain rfl:=oi hF
 refine rT hf ?_
 exact ⟨_,rfl,Mem.bel2 hB0 hG0 H,uk⟩
 refine wp_skip (ua (sq (reg (lN 1 hf H TF.la30 fun a hf=>?_))))
 refine lN 0 hf H TF.la30 fun a hf=>?_
 obtain ⟨y5,hy5,hF⟩:=bs_ hF
 refine oc hf TF.cl31 (gau (S:=TT) (uj (x:=y2.1) (H.rt 3 rfl) (H.rt 2 rfl) (H.rt 4 rfl)) (uj (x:=y2.2) (H.rt 5 rfl) (H.rt 6 rfl) (H.rt 7 rfl)) hy5) fun v9 w a hp9 hf=>?_
 obtain ⟨hb4,F4,v10,v11,rfl,hp10,hp11,hN⟩:=hp9
 obtain ⟨A10,c10,rfl,hl4⟩:=xP hp10
 obtain rfl:=uo hp11
 have H:=H.aO1 hb4 hN hl4
 have H:=H.lend 0 rfl
 refine pz 5 hf fun a hf=>?_
 have hf:=hf.pn [3,4,5,6,9,10]
 refine ub (ua (sq (sq (reg (lN 1 hf H TF.la30 fun a hf=>?_)))))
 refine lN 0 hf H TF.la30 fun a hf=>?_
 obtain ⟨y6,hy6,hF⟩:=bs_ hF
 refine oc hf TF.cl32 (gat (S:=TT) (uj (x:=y2.1) (H.rt 4 rfl) (H.rt 3 rfl) (H.rt 5 rfl)) (uj (x:=y2.2) (H.rt 6 rfl) (H.rt 7 rfl) (H.rt 8 rfl)) hy6) fun v12 w a hp12 hf=>?_
 obtain ⟨hb5,F6,v13,v14,rfl,hp13,hp14,hN2⟩:=hp12
 obtain ⟨A11,c11,rfl,hl5⟩:=xP hp13
 obtain rfl:=uo hp14
 have H:=H.aO1 hb5 hN2 hl5
 have H:=H.lend 0 rfl
 refine pz 5 hf fun a hf=>?_
 refine wr (pz 3 hf fun a hf=>?_)
 refine ub (ua (ib hF hf (fun hc3 hF=>?_) fun hc3 hF=>?_))
 refine sqz (pz 1 hf fun a hf=>?_)
 have hf:=hf.pn [2]
 refine ub (ua (wp_ret (uf (?_))))
 obtain rfl:=oi hF
 refine rT hf ?_
 exact ⟨_,rfl,Mem.bel2 hB0 hG0 H,uk⟩
 refine wp_skip (ua (sq (sqz (pz 2 hf fun a hf=>?_))))
 have hf:=hf.pn [3,4,5,9,10,54]
 refine ub (ua (ib hF hf (fun hc4 hF=>?_) fun hc4 hF=>?_))
 refine sqz (pz 4 hf fun a hf=>?_)
 refine ub (ua (wp_ret (uf (?_))))
 obtain rfl:=oi hF
 refine rT hf ?_
 exact ⟨_,rfl,Mem.bel2 hB0 hG0 H,uk⟩
 refine wp_skip (ua (sq (reg (lN 1 hf H TF.la30 fun a hf=>?_))))
 refine pz 1 hf fun a hf=>?_
 obtain ⟨y7,hy7,hF⟩:=bs_ hF
 refine oc hf TF.cl33 (gcB (S:=TT) (uj (x:=y2.1) (H.rt 5 rfl) (H.rt 4 rfl) (H.rt 6 rfl)) (uB (H.rt 3 rfl)) hy7) fun v15 w a hp15 hf=>?_
 obtain ⟨hb6,F8,v16,v17,v18,rfl,hp16,hp17,hp18,hN3⟩:=hp15
 obtain ⟨A12,c12,F9,A13,c13,F10,A14,c14,F11,rfl,rfl,hl6,hl7,hl8⟩:=zH hp16
 obtain rfl:=uv hp17
 obtain rfl:=uo hp18
 have H:=H.aO3 hb6 (by first | exact hN3 | simpa using hN3) hl6 hl7 hl8
 have H:=H.lend 0 rfl
 have H:=H.lend 1 rfl
 have H:=H.lend 2 rfl
 refine pz 4 hf fun a hf=>?_
 refine aL hf H TF.zv30 fun b3 a w hf H=>?_
 refine sB 0 hf H TF.sz30 fun w H=>?_
 refine pz 2 hf fun a hf=>?_
 refine ub (ua (sq ?_))
 obtain ⟨c15,hGc15,hF⟩:=bs_ hF
 have fh:=hf.prune [] rfl
 have Hm:=H.lk 0 0 0 []
 refine midF 2 (.bool c15) fh Hm ?_ fun a w hf H=>?_
 refine reg (pz 2 hf fun a hf=>?_)
 refine iteB hGc15 (fun hc5 hGc15=>?_) fun hc5 hGc15=>?_
 have hf:=hf.lit 66 rfl hc5
 refine pz 3 hf fun a hf=>?_
 refine iteB hGc15 (fun hc6 hGc15=>?_) fun hc6 hGc15=>?_
 have hf:=hf.lit 69 rfl hc6
 refine pz 6 hf fun a hf=>?_
 refine iteB hGc15 (fun hc7 hGc15=>?_) fun hc7 hGc15=>?_
 have hf:=hf.lit 75 rfl hc7
 refine pz 7 hf fun a hf=>?_
 refine iteB hGc15 (fun hc8 hGc15=>?_) fun hc8 hGc15=>?_
 have hf:=hf.lit 82 rfl hc8
 refine wlg hf rfl rfl rfl (op_q hf (ul hf H TF.la30 0 rfl rfl rfl rfl) rfl (by decide) fun a hf=>?_)
 refine wlg hf rfl rfl rfl (op_q hf (ul hf H TF.la30 1 rfl rfl rfl rfl) rfl (by decide) fun a hf=>?_)
 obtain ⟨y8,hy8,hGc15⟩:=bs_ hGc15
 refine wlg hf rfl rfl rfl (oC hf TF.cl17 (geQ (S:=TT) (uj (x:=y7.1) (H.rt 2 rfl) (H.rt 1 rfl) (H.rt 0 rfl)) (uj (x:=y2.2) (H.rt 10 rfl) (H.rt 11 rfl) (H.rt 12 rfl)) hy8) fun v19 w a hp19 hf=>?_)
 obtain ⟨hb7,hp19⟩:=hp19
 obtain rfl:=uo hp19
 have H:=H.keep hb7
 refine pz 2 hf fun a hf=>?_
 obtain rfl:=oi hGc15
 have hf:=hf.pn [2]
 have H:=H.lk 0 0 0 []
 exact ub ⟨hf,H⟩
 have hf:=hf.lit 82 rfl hc8
 refine pz 5 hf fun a hf=>?_
 obtain rfl:=oi hGc15
 have hf:=hf.pn [2]
 have H:=H.lk 0 0 0 []
 exact ub ⟨hf,H⟩
 have hf:=hf.lit 75 rfl hc7
 refine pz 12 hf fun a hf=>?_
 obtain rfl:=oi hGc15
 have hf:=hf.pn [2]
 have H:=H.lk 0 0 0 []
 exact ub ⟨hf,H⟩
 have hf:=hf.lit 69 rfl hc6
 refine pz 18 hf fun a hf=>?_
 obtain rfl:=oi hGc15
 have hf:=hf.pn [2]
 have H:=H.lk 0 0 0 []
 exact ub ⟨hf,H⟩
 have hf:=hf.lit 66 rfl hc5
 refine pz 21 hf fun a hf=>?_
 obtain rfl:=oi hGc15
 have hf:=hf.pn [2]
 have H:=H.lk 0 0 0 []
 exact ub ⟨hf,H⟩
 refine ua (wp_ret (?_))
 obtain rfl:=oi hF
 refine rT hf ?_
 exact ⟨_,rfl,Mem.bel2 hB0 hG0 H,uk⟩
end AT
