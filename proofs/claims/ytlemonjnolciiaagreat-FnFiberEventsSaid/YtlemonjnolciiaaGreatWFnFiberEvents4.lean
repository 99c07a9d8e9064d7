/- The Go functions do what is told of them, by program (gen.py). -/
import Derived.Test.YtlemonjnolciiaaGreatWFnFiberEvents3
set_option linter.unusedVariables false
set_option linter.unusedSimpArgs false
set_option maxRecDepth 100000
set_option maxHeartbeats 1000000
namespace AT
open Go Go.RowKit Go.Proofs TF Tryz
variable {fu:Nat} {w0:World} {S:Nat→Prop} {v0_ v1_ v2_ v3_ v4_ v5_ v6_ v7_ v8_ v9_:Value}
variable {r':Nj} {r:Nj×Bool}
theorem ju {id:Int} (h0:VR w0 S v0_ r') (h1:VR w0 S v1_ id) (W:cB fu r' id=some r) :
    CA 134 [v0_,v1_] w0 λv w'=>(Below w0.heap.size w0 w'∧∃F0,∃u0 u1,v=.tuple #[u0,u1]∧VO w' F0 u0 r.1∧VX w0 w' S u1 r.2∧New w0 w' F0):=by
 obtain⟨A,c,A2,c2,A3,c3,A4,c4,A5,c5,rfl,hl,hl2,hl3,hl4,hl5⟩:=uF h0;cases ui h1
 have H:=(((((Ms w0 S).pA hl).pA hl2).pA hl3).pA hl4).pA hl5;refine en func134 λa V=>?_;rw[cB]at W;refine bx V H λb' a w V H=>?_;refine aL V H zv60 λb2 a w V H=>?_;refine pz 1 V λa V=>?_;refine ob (sq ?_);obtain⟨y,hy,W⟩:=bs_ W;obtain⟨y2,hy2,W⟩:=bs_ W;obtain⟨e,he,W⟩:=bs_ W;refine mid (λa w=>∃(b5 b4:Nat) (A11:OA) (c11 b3:Nat) (A6:OA) (c6:Nat) (F2:LN) (A7:OA) (c7:Nat) (F3:LN) (A8:OA) (c8:Nat) (F4:LN) (A9:OA) (c9:Nat) (F5:LN) (A10:OA) (c10:Nat) (F6:LN),Fr a 87 [(1,(Iv id)),(2,(Pv b')),(4,(Pv b2)),(6,(Pv b3)),(7,(Pv b4)),(8,(Pv b5))]∧Mem ⟨w0,[]⟩ S [⟨b5,27,(Ce A c A2 c2 r'.Nz.Nq)⟩,⟨b4,49,(Ci A11 c11 e)⟩,⟨b3,60,(Cn A6 c6 A7 c7 A8 c8 A9 c9 A10 c10 y)⟩,⟨b2,60,Cm⟩,⟨b',60,(Cn A c A2 c2 A3 c3 A4 c4 A5 c5 r')⟩] [] [(Ow F2 A6 c6 y.Nz.Nq.Nx),(Ow F3 A7 c7 y.Nz.Nq.Nw),(Ow F4 A8 c8 y.Nz.Nk),(Ow F5 A9 c9 y.Ng),(Ow F6 A10 c10 y.Np)] [(Vl false A11 c11 e.Nv.Nw),(Vl true A10 c10 y.Np),(Vl true A9 c9 y.Ng),(Vl true A8 c8 y.Nz.Nk),(Vl true A7 c7 y.Nz.Nq.Nw),(Vl true A6 c6 y.Nz.Nq.Nx),(Vl false A5 c5 r'.Np),(Vl false A4 c4 r'.Ng),(Vl false A3 c3 r'.Nz.Nk),(Vl false A2 c2 r'.Nz.Nq.Nw),(Vl false A c r'.Nz.Nq.Nx)] w) ?_ ?_;refine dw [] 18 λw hb=>?_;have H:=H.kp hb;refine sU 2 0 0 [] H λO=>?_;refine zSN 0 [] V O la60 0 λa V=>?_;refine zp 2 V O λa V=>?_;refine zSB 3 [] V O ls28 0 λa V=>?_;refine zSN 4 [] V O la60 0 λa V=>?_;refine zq [5,9,10] V O λa V=>?_;refine zSN 11 [] V O la27 0 λa V=>?_;refine dag λKK hin hout=>?_;have kd0:∀(b5 b4 c11 b3 c6 c7 c8 c9 c10 p o:Nat) (A11 A6 A7 A8 A9 A10:OA) (F2 F3 F4 F5 F6:LN) (a:Act) (w:World),Fr a 87 [(1,(Iv id)),(2,(Pv b')),(4,(Pv b2)),(6,(Pv b3)),(7,(Pv b4)),(8,(Pv b5)),(22,(Pw p (o + 0))),(26,(Cu A c A2 c2 r'.Nz.Nq))]→Mem ⟨w0,[]⟩ S [⟨b5,27,Cb⟩,⟨b4,49,(Ci A11 c11 e)⟩,⟨b3,60,(Cn A6 c6 A7 c7 A8 c8 A9 c9 A10 c10 y)⟩,⟨b2,60,Cm⟩,⟨b',60,(Cn A c A2 c2 A3 c3 A4 c4 A5 c5 r')⟩] [] [(Ow F2 A6 c6 y.Nz.Nq.Nx),(Ow F3 A7 c7 y.Nz.Nq.Nw),(Ow F4 A8 c8 y.Nz.Nk),(Ow F5 A9 c9 y.Ng),(Ow F6 A10 c10 y.Np)] [(Vl false A11 c11 e.Nv.Nw),(false,MP.cells ⟨p,o,none⟩ (Ci A11 c11 e)),(Vl true A10 c10 y.Np),(Vl true A9 c9 y.Ng),(Vl true A8 c8 y.Nz.Nk),(Vl true A7 c7 y.Nz.Nq.Nw),(Vl true A6 c6 y.Nz.Nq.Nx),(Vl false A5 c5 r'.Np),(Vl false A4 c4 r'.Ng),(Vl false A3 c3 r'.Nz.Nk),(Vl false A2 c2 r'.Nz.Nq.Nw),(Vl false A c r'.Nz.Nq.Nx)] w→KK (λw=>Mem ⟨w0,[]⟩ S [⟨b',60,(Cn A c A2 c2 A3 c3 A4 c4 A5 c5 r')⟩] [] [] [(false,MP.cells ⟨p,o,none⟩ (Ci A11 c11 e))] w) 1 (Bt 18 131071) a w:=by
  intro b5 b4 c11 b3 c6 c7 c8 c9 c10 p o A11 A6 A7 A8 A9 A10 F2 F3 F4 F5 F6 a w V H
  refine hin _ _ _ _ _ (n1 17 Kk Z Z (d5 V H 0 sz27 Z Z Z Z Z Z (nle Z) λw H=>?_))
  have O:=H.lk 16 0 0 [1]
  refine aS O ?_
  refine dk ?_
  have V:=V.pn [1,2,4,6,7,8]
  have H:=H.lm 31 0 31 12 4093
  exact⟨b5,b4,A11,c11,b3,A6,c6,F2,A7,c7,F3,A8,c8,F4,A9,c9,F5,A10,c10,F6,V,H⟩
 have kd1:∀(b5 b4 b3 c6 c7 c8 c9 c10 c11 p o:Nat) (A6 A7 A8 A9 A10 A11:OA) (F2 F3 F4 F5 F6:LN) (a:Act) (w:World),Fr a 87 [(1,(Iv id)),(2,(Pv b')),(4,(Pv b2)),(6,(Pv b3)),(7,(Pv b4)),(8,(Pv b5)),(22,(Pw p (o + 0))),(23,(Cl A11 c11 e)),(26,(Cu A c A2 c2 r'.Nz.Nq))]→Mem ⟨w0,[]⟩ S [⟨b5,27,Cb⟩,⟨b4,49,Cp⟩,⟨b3,60,(Cn A6 c6 A7 c7 A8 c8 A9 c9 A10 c10 y)⟩,⟨b2,60,Cm⟩,⟨b',60,(Cn A c A2 c2 A3 c3 A4 c4 A5 c5 r')⟩] [] [(Ow F2 A6 c6 y.Nz.Nq.Nx),(Ow F3 A7 c7 y.Nz.Nq.Nw),(Ow F4 A8 c8 y.Nz.Nk),(Ow F5 A9 c9 y.Ng),(Ow F6 A10 c10 y.Np)] [(Vl false A11 c11 e.Nv.Nw),(false,MP.cells ⟨p,o,none⟩ (Ci A11 c11 e)),(Vl true A10 c10 y.Np),(Vl true A9 c9 y.Ng),(Vl true A8 c8 y.Nz.Nk),(Vl true A7 c7 y.Nz.Nq.Nw),(Vl true A6 c6 y.Nz.Nq.Nx),(Vl false A5 c5 r'.Np),(Vl false A4 c4 r'.Ng),(Vl false A3 c3 r'.Nz.Nk),(Vl false A2 c2 r'.Nz.Nq.Nw),(Vl false A c r'.Nz.Nq.Nx)] w→KK (λw=>Mem ⟨w0,[]⟩ S [⟨b',60,(Cn A c A2 c2 A3 c3 A4 c4 A5 c5 r')⟩] [] [] [(false,MP.cells ⟨p,o,none⟩ (Ci A11 c11 e))] w) 2 (Bt 18 65535) a w:=by
  intro b5 b4 b3 c6 c7 c8 c9 c10 c11 p o A6 A7 A8 A9 A10 A11 F2 F3 F4 F5 F6 a w V H
  refine hin _ _ _ _ _ (n1 16 Kk Z Z (d5 V H 1 sz49 Z Z Z Z Z Z (nle Z) λw H=>?_))
  have O:=H.lk 16 0 0 [1]
  refine aS O ?_
  have V:=V.pn [1,2,4,6,7,8,22,26]
  have H:=H.lm 31 0 31 12 4095
  exact hout _ _ _ _ _ (kd0 b5 b4 c11 b3 c6 c7 c8 c9 c10 p o A11 A6 A7 A8 A9 A10 F2 F3 F4 F5 F6 _ _ V H)
 have kd2:∀(b5 b4 b3 c6 c7 c8 c9 c10 c11 p o:Nat) (A6 A7 A8 A9 A10 A11:OA) (F2 F3 F4 F5 F6:LN) (a:Act) (w:World),Fr a 87 [(1,(Iv id)),(2,(Pv b')),(4,(Pv b2)),(6,(Pv b3)),(7,(Pv b4)),(8,(Pv b5)),(16,(Cq A6 c6 A7 c7 A8 c8 A9 c9 A10 c10 y)),(22,(Pw p (o + 0))),(23,(Cl A11 c11 e)),(26,(Cu A c A2 c2 r'.Nz.Nq))]→Mem ⟨w0,[]⟩ S [⟨b5,27,Cb⟩,⟨b4,49,Cp⟩,⟨b3,60,Cm⟩,⟨b2,60,Cm⟩,⟨b',60,(Cn A c A2 c2 A3 c3 A4 c4 A5 c5 r')⟩] [] [(Ow F2 A6 c6 y.Nz.Nq.Nx),(Ow F3 A7 c7 y.Nz.Nq.Nw),(Ow F4 A8 c8 y.Nz.Nk),(Ow F5 A9 c9 y.Ng),(Ow F6 A10 c10 y.Np)] [(Vl false A11 c11 e.Nv.Nw),(false,MP.cells ⟨p,o,none⟩ (Ci A11 c11 e)),(Vl true A10 c10 y.Np),(Vl true A9 c9 y.Ng),(Vl true A8 c8 y.Nz.Nk),(Vl true A7 c7 y.Nz.Nq.Nw),(Vl true A6 c6 y.Nz.Nq.Nx),(Vl false A5 c5 r'.Np),(Vl false A4 c4 r'.Ng),(Vl false A3 c3 r'.Nz.Nk),(Vl false A2 c2 r'.Nz.Nq.Nw),(Vl false A c r'.Nz.Nq.Nx)] w→KK (λw=>Mem ⟨w0,[]⟩ S [⟨b',60,(Cn A c A2 c2 A3 c3 A4 c4 A5 c5 r')⟩] [] [] [(false,MP.cells ⟨p,o,none⟩ (Ci A11 c11 e))] w) 3 (Bt 18 32767) a w:=by
  intro b5 b4 b3 c6 c7 c8 c9 c10 c11 p o A6 A7 A8 A9 A10 A11 F2 F3 F4 F5 F6 a w V H
  refine hin _ _ _ _ _ (n1 15 Kk Z Z (d5 V H 2 sz60 Z Z Z Z Z Z (nle Z) λw H=>?_))
  have O:=H.lk 16 0 0 [1]
  refine aS O ?_
  have V:=V.pn [1,2,4,6,7,8,22,23,26]
  have H:=H.lm 31 0 31 12 4095
  exact hout _ _ _ _ _ (kd1 b5 b4 b3 c6 c7 c8 c9 c10 c11 p o A6 A7 A8 A9 A10 A11 F2 F3 F4 F5 F6 _ _ V H)
 have kd3:∀(b4 b3 c6 c7 c8 c9 c10 c11 p o:Nat) (A6 A7 A8 A9 A10 A11:OA) (F2 F3 F4 F5 F6:LN) (a:Act) (w:World),Fr a 87 [(1,(Iv id)),(2,(Pv b')),(4,(Pv b2)),(6,(Pv b3)),(7,(Pv b4)),(16,(Cq A6 c6 A7 c7 A8 c8 A9 c9 A10 c10 y)),(22,(Pw p (o + 0))),(23,(Cl A11 c11 e)),(26,(Cu A c A2 c2 r'.Nz.Nq))]→Mem ⟨w0,[]⟩ S [⟨b4,49,Cp⟩,⟨b3,60,Cm⟩,⟨b2,60,Cm⟩,⟨b',60,(Cn A c A2 c2 A3 c3 A4 c4 A5 c5 r')⟩] [] [(Ow F2 A6 c6 y.Nz.Nq.Nx),(Ow F3 A7 c7 y.Nz.Nq.Nw),(Ow F4 A8 c8 y.Nz.Nk),(Ow F5 A9 c9 y.Ng),(Ow F6 A10 c10 y.Np)] [(Vl false A11 c11 e.Nv.Nw),(false,MP.cells ⟨p,o,none⟩ (Ci A11 c11 e)),(Vl true A10 c10 y.Np),(Vl true A9 c9 y.Ng),(Vl true A8 c8 y.Nz.Nk),(Vl true A7 c7 y.Nz.Nq.Nw),(Vl true A6 c6 y.Nz.Nq.Nx),(Vl false A5 c5 r'.Np),(Vl false A4 c4 r'.Ng),(Vl false A3 c3 r'.Nz.Nk),(Vl false A2 c2 r'.Nz.Nq.Nw),(Vl false A c r'.Nz.Nq.Nx)] w→KK (λw=>Mem ⟨w0,[]⟩ S [⟨b',60,(Cn A c A2 c2 A3 c3 A4 c4 A5 c5 r')⟩] [] [] [(false,MP.cells ⟨p,o,none⟩ (Ci A11 c11 e))] w) 4 (Bt 18 16383) a w:=by
  intro b4 b3 c6 c7 c8 c9 c10 c11 p o A6 A7 A8 A9 A10 A11 F2 F3 F4 F5 F6 a w V H
  refine hin _ _ _ _ _ (n1 14 Kk Z Z (uY V H zv27 Z Dd λb5 a w V H=>?_))
  have O:=H.lk 16 0 0 [1]
  refine aS O ?_
  have V:=V.pn [1,2,4,6,7,8,16,22,23,26]
  have H:=H.lm 31 0 31 12 4095
  exact hout _ _ _ _ _ (kd2 b5 b4 b3 c6 c7 c8 c9 c10 c11 p o A6 A7 A8 A9 A10 A11 F2 F3 F4 F5 F6 _ _ V H)
 have kd4:∀(b4 b3 c6 c7 c8 c9 c10 c11 p o:Nat) (A6 A7 A8 A9 A10 A11:OA) (F2 F3 F4 F5 F6:LN) (a:Act) (w:World),Fr a 87 [(1,(Iv id)),(2,(Pv b')),(4,(Pv b2)),(6,(Pv b3)),(8,(Pv b4)),(16,(Cq A6 c6 A7 c7 A8 c8 A9 c9 A10 c10 y)),(22,(Pw p (o + 0))),(23,(Cl A11 c11 e)),(26,(Cu A c A2 c2 r'.Nz.Nq))]→Mem ⟨w0,[]⟩ S [⟨b4,27,Cb⟩,⟨b3,60,Cm⟩,⟨b2,60,Cm⟩,⟨b',60,(Cn A c A2 c2 A3 c3 A4 c4 A5 c5 r')⟩] [] [(Ow F2 A6 c6 y.Nz.Nq.Nx),(Ow F3 A7 c7 y.Nz.Nq.Nw),(Ow F4 A8 c8 y.Nz.Nk),(Ow F5 A9 c9 y.Ng),(Ow F6 A10 c10 y.Np)] [(Vl false A11 c11 e.Nv.Nw),(false,MP.cells ⟨p,o,none⟩ (Ci A11 c11 e)),(Vl true A10 c10 y.Np),(Vl true A9 c9 y.Ng),(Vl true A8 c8 y.Nz.Nk),(Vl true A7 c7 y.Nz.Nq.Nw),(Vl true A6 c6 y.Nz.Nq.Nx),(Vl false A5 c5 r'.Np),(Vl false A4 c4 r'.Ng),(Vl false A3 c3 r'.Nz.Nk),(Vl false A2 c2 r'.Nz.Nq.Nw),(Vl false A c r'.Nz.Nq.Nx)] w→KK (λw=>Mem ⟨w0,[]⟩ S [⟨b',60,(Cn A c A2 c2 A3 c3 A4 c4 A5 c5 r')⟩] [] [] [(false,MP.cells ⟨p,o,none⟩ (Ci A11 c11 e))] w) 4 (Bt 18 24575) a w:=by
  intro b4 b3 c6 c7 c8 c9 c10 c11 p o A6 A7 A8 A9 A10 A11 F2 F3 F4 F5 F6 a w V H
  refine hin _ _ _ _ _ (n1 13 Kk Z Z (uY V H zv49 Z Dd λb5 a w V H=>?_))
  have O:=H.lk 16 0 0 [1]
  refine aS O ?_
  have H:=((((H.fm 4).fm 4).fm 4).fm 3).fm 4
  have V:=V.pn [1,2,4,6,7,8,16,22,23,26]
  have H:=H.lm 31 0 31 12 4095
  exact hout _ _ _ _ _ (kd2 b4 b5 b3 c6 c7 c8 c9 c10 c11 p o A6 A7 A8 A9 A10 A11 F2 F3 F4 F5 F6 _ _ V H)
 have kd5:∀(b4 b3 c6 c7 c8 c9 c10 c11 p o:Nat) (A6 A7 A8 A9 A10 A11:OA) (F2 F3 F4 F5 F6:LN) (a:Act) (w:World),Fr a 87 [(1,(Iv id)),(2,(Pv b')),(4,(Pv b2)),(7,(Pv b3)),(8,(Pv b4)),(16,(Cq A6 c6 A7 c7 A8 c8 A9 c9 A10 c10 y)),(22,(Pw p (o + 0))),(23,(Cl A11 c11 e)),(26,(Cu A c A2 c2 r'.Nz.Nq))]→Mem ⟨w0,[]⟩ S [⟨b4,27,Cb⟩,⟨b3,49,Cp⟩,⟨b2,60,Cm⟩,⟨b',60,(Cn A c A2 c2 A3 c3 A4 c4 A5 c5 r')⟩] [] [(Ow F2 A6 c6 y.Nz.Nq.Nx),(Ow F3 A7 c7 y.Nz.Nq.Nw),(Ow F4 A8 c8 y.Nz.Nk),(Ow F5 A9 c9 y.Ng),(Ow F6 A10 c10 y.Np)] [(Vl false A11 c11 e.Nv.Nw),(false,MP.cells ⟨p,o,none⟩ (Ci A11 c11 e)),(Vl true A10 c10 y.Np),(Vl true A9 c9 y.Ng),(Vl true A8 c8 y.Nz.Nk),(Vl true A7 c7 y.Nz.Nq.Nw),(Vl true A6 c6 y.Nz.Nq.Nx),(Vl false A5 c5 r'.Np),(Vl false A4 c4 r'.Ng),(Vl false A3 c3 r'.Nz.Nk),(Vl false A2 c2 r'.Nz.Nq.Nw),(Vl false A c r'.Nz.Nq.Nx)] w→KK (λw=>Mem ⟨w0,[]⟩ S [⟨b',60,(Cn A c A2 c2 A3 c3 A4 c4 A5 c5 r')⟩] [] [] [(false,MP.cells ⟨p,o,none⟩ (Ci A11 c11 e))] w) 4 (Bt 18 28671) a w:=by
  intro b4 b3 c6 c7 c8 c9 c10 c11 p o A6 A7 A8 A9 A10 A11 F2 F3 F4 F5 F6 a w V H
  refine hin _ _ _ _ _ (n1 12 Kk Z Z (uY V H zv60 Z Dd λb5 a w V H=>?_))
  have O:=H.lk 16 0 0 [1]
  refine aS O ?_
  have H:=((((H.fm 4).fm 4).fm 2).fm 4).fm 4
  have V:=V.pn [1,2,4,6,7,8,16,22,23,26]
  have H:=H.lm 31 0 31 12 4095
  exact hout _ _ _ _ _ (kd2 b4 b3 b5 c6 c7 c8 c9 c10 c11 p o A6 A7 A8 A9 A10 A11 F2 F3 F4 F5 F6 _ _ V H)
 have kd6:∀(b3 c6 c7 c8 c9 c10 c11 p o:Nat) (A6 A7 A8 A9 A10 A11:OA) (F2 F3 F4 F5 F6:LN) (a:Act) (w:World),Fr a 87 [(1,(Iv id)),(2,(Pv b')),(4,(Pv b2)),(6,(Pv b3)),(16,(Cq A6 c6 A7 c7 A8 c8 A9 c9 A10 c10 y)),(22,(Pw p (o + 0))),(23,(Cl A11 c11 e)),(26,(Cu A c A2 c2 r'.Nz.Nq))]→Mem ⟨w0,[]⟩ S [⟨b3,60,Cm⟩,⟨b2,60,Cm⟩,⟨b',60,(Cn A c A2 c2 A3 c3 A4 c4 A5 c5 r')⟩] [] [(Ow F2 A6 c6 y.Nz.Nq.Nx),(Ow F3 A7 c7 y.Nz.Nq.Nw),(Ow F4 A8 c8 y.Nz.Nk),(Ow F5 A9 c9 y.Ng),(Ow F6 A10 c10 y.Np)] [(Vl false A11 c11 e.Nv.Nw),(false,MP.cells ⟨p,o,none⟩ (Ci A11 c11 e)),(Vl true A10 c10 y.Np),(Vl true A9 c9 y.Ng),(Vl true A8 c8 y.Nz.Nk),(Vl true A7 c7 y.Nz.Nq.Nw),(Vl true A6 c6 y.Nz.Nq.Nx),(Vl false A5 c5 r'.Np),(Vl false A4 c4 r'.Ng),(Vl false A3 c3 r'.Nz.Nk),(Vl false A2 c2 r'.Nz.Nq.Nw),(Vl false A c r'.Nz.Nq.Nx)] w→KK (λw=>Mem ⟨w0,[]⟩ S [⟨b',60,(Cn A c A2 c2 A3 c3 A4 c4 A5 c5 r')⟩] [] [] [(false,MP.cells ⟨p,o,none⟩ (Ci A11 c11 e))] w) 5 (Bt 18 8191) a w:=by
  intro b3 c6 c7 c8 c9 c10 c11 p o A6 A7 A8 A9 A10 A11 F2 F3 F4 F5 F6 a w V H
  refine hin _ _ _ _ _ (on2 (i:=13) (j:=14) (bi:=(Bt 18 16383)) (bj:=(Bt 18 24575)) Kk Z Z Z Z Z Z  ?_ ?_ )
  ·refine (uY V H zv49 Z Dd λb4 a w V H=>?_)
   have O:=H.lk 8 0 0 [1]
   refine aS O ?_
   have V:=V.pn [1,2,4,6,7,16,22,23,26]
   have H:=H.lm 15 0 31 12 4095
   exact hout _ _ _ _ _ (kd3 b4 b3 c6 c7 c8 c9 c10 c11 p o A6 A7 A8 A9 A10 A11 F2 F3 F4 F5 F6 _ _ V H)
  ·refine (uY V H zv27 Z Dd λb4 a w V H=>?_)
   have O:=H.lk 8 0 0 [1]
   refine aS O ?_
   have V:=V.pn [1,2,4,6,8,16,22,23,26]
   have H:=H.lm 15 0 31 12 4095
   exact hout _ _ _ _ _ (kd4 b4 b3 c6 c7 c8 c9 c10 c11 p o A6 A7 A8 A9 A10 A11 F2 F3 F4 F5 F6 _ _ V H)
 have kd7:∀(b3 c6 c7 c8 c9 c10 c11 p o:Nat) (A6 A7 A8 A9 A10 A11:OA) (F2 F3 F4 F5 F6:LN) (a:Act) (w:World),Fr a 87 [(1,(Iv id)),(2,(Pv b')),(4,(Pv b2)),(7,(Pv b3)),(16,(Cq A6 c6 A7 c7 A8 c8 A9 c9 A10 c10 y)),(22,(Pw p (o + 0))),(23,(Cl A11 c11 e)),(26,(Cu A c A2 c2 r'.Nz.Nq))]→Mem ⟨w0,[]⟩ S [⟨b3,49,Cp⟩,⟨b2,60,Cm⟩,⟨b',60,(Cn A c A2 c2 A3 c3 A4 c4 A5 c5 r')⟩] [] [(Ow F2 A6 c6 y.Nz.Nq.Nx),(Ow F3 A7 c7 y.Nz.Nq.Nw),(Ow F4 A8 c8 y.Nz.Nk),(Ow F5 A9 c9 y.Ng),(Ow F6 A10 c10 y.Np)] [(Vl false A11 c11 e.Nv.Nw),(false,MP.cells ⟨p,o,none⟩ (Ci A11 c11 e)),(Vl true A10 c10 y.Np),(Vl true A9 c9 y.Ng),(Vl true A8 c8 y.Nz.Nk),(Vl true A7 c7 y.Nz.Nq.Nw),(Vl true A6 c6 y.Nz.Nq.Nx),(Vl false A5 c5 r'.Np),(Vl false A4 c4 r'.Ng),(Vl false A3 c3 r'.Nz.Nk),(Vl false A2 c2 r'.Nz.Nq.Nw),(Vl false A c r'.Nz.Nq.Nx)] w→KK (λw=>Mem ⟨w0,[]⟩ S [⟨b',60,(Cn A c A2 c2 A3 c3 A4 c4 A5 c5 r')⟩] [] [] [(false,MP.cells ⟨p,o,none⟩ (Ci A11 c11 e))] w) 5 (Bt 18 12287) a w:=by
  intro b3 c6 c7 c8 c9 c10 c11 p o A6 A7 A8 A9 A10 A11 F2 F3 F4 F5 F6 a w V H
  refine hin _ _ _ _ _ (on2 (i:=12) (j:=14) (bi:=(Bt 18 16383)) (bj:=(Bt 18 28671)) Kk Z Z Z Z Z Z  ?_ ?_ )
  ·refine (uY V H zv60 Z Dd λb4 a w V H=>?_)
   have O:=H.lk 8 0 0 [1]
   refine aS O ?_
   have H:=(((H.fm 3).fm 3).fm 2).fm 3
   have V:=V.pn [1,2,4,6,7,16,22,23,26]
   have H:=H.lm 15 0 31 12 4095
   exact hout _ _ _ _ _ (kd3 b3 b4 c6 c7 c8 c9 c10 c11 p o A6 A7 A8 A9 A10 A11 F2 F3 F4 F5 F6 _ _ V H)
  ·refine (uY V H zv27 Z Dd λb4 a w V H=>?_)
   have O:=H.lk 8 0 0 [1]
   refine aS O ?_
   have V:=V.pn [1,2,4,7,8,16,22,23,26]
   have H:=H.lm 15 0 31 12 4095
   exact hout _ _ _ _ _ (kd5 b4 b3 c6 c7 c8 c9 c10 c11 p o A6 A7 A8 A9 A10 A11 F2 F3 F4 F5 F6 _ _ V H)
 have kd8:∀(b3 c6 c7 c8 c9 c10 c11 p o:Nat) (A6 A7 A8 A9 A10 A11:OA) (F2 F3 F4 F5 F6:LN) (a:Act) (w:World),Fr a 87 [(1,(Iv id)),(2,(Pv b')),(4,(Pv b2)),(8,(Pv b3)),(16,(Cq A6 c6 A7 c7 A8 c8 A9 c9 A10 c10 y)),(22,(Pw p (o + 0))),(23,(Cl A11 c11 e)),(26,(Cu A c A2 c2 r'.Nz.Nq))]→Mem ⟨w0,[]⟩ S [⟨b3,27,Cb⟩,⟨b2,60,Cm⟩,⟨b',60,(Cn A c A2 c2 A3 c3 A4 c4 A5 c5 r')⟩] [] [(Ow F2 A6 c6 y.Nz.Nq.Nx),(Ow F3 A7 c7 y.Nz.Nq.Nw),(Ow F4 A8 c8 y.Nz.Nk),(Ow F5 A9 c9 y.Ng),(Ow F6 A10 c10 y.Np)] [(Vl false A11 c11 e.Nv.Nw),(false,MP.cells ⟨p,o,none⟩ (Ci A11 c11 e)),(Vl true A10 c10 y.Np),(Vl true A9 c9 y.Ng),(Vl true A8 c8 y.Nz.Nk),(Vl true A7 c7 y.Nz.Nq.Nw),(Vl true A6 c6 y.Nz.Nq.Nx),(Vl false A5 c5 r'.Np),(Vl false A4 c4 r'.Ng),(Vl false A3 c3 r'.Nz.Nk),(Vl false A2 c2 r'.Nz.Nq.Nw),(Vl false A c r'.Nz.Nq.Nx)] w→KK (λw=>Mem ⟨w0,[]⟩ S [⟨b',60,(Cn A c A2 c2 A3 c3 A4 c4 A5 c5 r')⟩] [] [] [(false,MP.cells ⟨p,o,none⟩ (Ci A11 c11 e))] w) 5 (Bt 18 20479) a w:=by
  intro b3 c6 c7 c8 c9 c10 c11 p o A6 A7 A8 A9 A10 A11 F2 F3 F4 F5 F6 a w V H
  refine hin _ _ _ _ _ (on2 (i:=12) (j:=13) (bi:=(Bt 18 24575)) (bj:=(Bt 18 28671)) Kk Z Z Z Z Z Z  ?_ ?_ )
  ·refine (uY V H zv60 Z Dd λb4 a w V H=>?_)
   have O:=H.lk 8 0 0 [1]
   refine aS O ?_
   have H:=(((H.fm 3).fm 3).fm 2).fm 3
   have V:=V.pn [1,2,4,6,8,16,22,23,26]
   have H:=H.lm 15 0 31 12 4095
   exact hout _ _ _ _ _ (kd4 b3 b4 c6 c7 c8 c9 c10 c11 p o A6 A7 A8 A9 A10 A11 F2 F3 F4 F5 F6 _ _ V H)
  ·refine (uY V H zv49 Z Dd λb4 a w V H=>?_)
   have O:=H.lk 8 0 0 [1]
   refine aS O ?_
   have H:=(((H.fm 3).fm 3).fm 2).fm 3
   have V:=V.pn [1,2,4,7,8,16,22,23,26]
   have H:=H.lm 15 0 31 12 4095
   exact hout _ _ _ _ _ (kd5 b3 b4 c6 c7 c8 c9 c10 c11 p o A6 A7 A8 A9 A10 A11 F2 F3 F4 F5 F6 _ _ V H)
 have kd9:∀(A6 A7 A8 A9 A10 A11:OA) (c6 c7 c8 c9 c10 c11 p o:Nat) (F2 F3 F4 F5 F6:LN) (a:Act) (w:World),Fr a 87 [(1,(Iv id)),(2,(Pv b')),(4,(Pv b2)),(16,(Cq A6 c6 A7 c7 A8 c8 A9 c9 A10 c10 y)),(22,(Pw p (o + 0))),(23,(Cl A11 c11 e)),(26,(Cu A c A2 c2 r'.Nz.Nq))]→Mem ⟨w0,[]⟩ S [⟨b2,60,Cm⟩,⟨b',60,(Cn A c A2 c2 A3 c3 A4 c4 A5 c5 r')⟩] [] [(Ow F2 A6 c6 y.Nz.Nq.Nx),(Ow F3 A7 c7 y.Nz.Nq.Nw),(Ow F4 A8 c8 y.Nz.Nk),(Ow F5 A9 c9 y.Ng),(Ow F6 A10 c10 y.Np)] [(Vl false A11 c11 e.Nv.Nw),(false,MP.cells ⟨p,o,none⟩ (Ci A11 c11 e)),(Vl true A10 c10 y.Np),(Vl true A9 c9 y.Ng),(Vl true A8 c8 y.Nz.Nk),(Vl true A7 c7 y.Nz.Nq.Nw),(Vl true A6 c6 y.Nz.Nq.Nx),(Vl false A5 c5 r'.Np),(Vl false A4 c4 r'.Ng),(Vl false A3 c3 r'.Nz.Nk),(Vl false A2 c2 r'.Nz.Nq.Nw),(Vl false A c r'.Nz.Nq.Nx)] w→KK (λw=>Mem ⟨w0,[]⟩ S [⟨b',60,(Cn A c A2 c2 A3 c3 A4 c4 A5 c5 r')⟩] [] [] [(false,MP.cells ⟨p,o,none⟩ (Ci A11 c11 e))] w) 6 (Bt 18 4095) a w:=by
  intro A6 A7 A8 A9 A10 A11 c6 c7 c8 c9 c10 c11 p o F2 F3 F4 F5 F6 a w V H
  refine hin _ _ _ _ _ (on3 (i:=12) (j:=13) (k:=14) (bi:=(Bt 18 8191)) (bj:=(Bt 18 12287)) (bk:=(Bt 18 20479)) Kk Z Z Z Z Z Z Z Z Z  ?_ ?_ ?_ )
  ·refine (uY V H zv60 Z Dd λb3 a w V H=>?_)
   have O:=H.lk 4 0 0 [1]
   refine aS O ?_
   have V:=V.pn [1,2,4,6,16,22,23,26]
   have H:=H.lm 7 0 31 12 4095
   exact hout _ _ _ _ _ (kd6 b3 c6 c7 c8 c9 c10 c11 p o A6 A7 A8 A9 A10 A11 F2 F3 F4 F5 F6 _ _ V H)
  ·refine (uY V H zv49 Z Dd λb3 a w V H=>?_)
   have O:=H.lk 4 0 0 [1]
   refine aS O ?_
   have V:=V.pn [1,2,4,7,16,22,23,26]
   have H:=H.lm 7 0 31 12 4095
   exact hout _ _ _ _ _ (kd7 b3 c6 c7 c8 c9 c10 c11 p o A6 A7 A8 A9 A10 A11 F2 F3 F4 F5 F6 _ _ V H)
  ·refine (uY V H zv27 Z Dd λb3 a w V H=>?_)
   have O:=H.lk 4 0 0 [1]
   refine aS O ?_
   have V:=V.pn [1,2,4,8,16,22,23,26]
   have H:=H.lm 7 0 31 12 4095
   exact hout _ _ _ _ _ (kd8 b3 c6 c7 c8 c9 c10 c11 p o A6 A7 A8 A9 A10 A11 F2 F3 F4 F5 F6 _ _ V H)
 have kd10:∀(b5 b4 b3 c6 c7 c8 c9 c10:Nat) (A6 A7 A8 A9 A10:OA) (F2 F3 F4 F5 F6:LN) (a:Act) (w:World),Fr a 87 [(1,(Iv id)),(2,(Pv b')),(4,(Pv b2)),(6,(Pv b3)),(7,(Pv b4)),(8,(Pv b5)),(16,(Cq A6 c6 A7 c7 A8 c8 A9 c9 A10 c10 y)),(18,(Sc A4 c4 r'.Ng)),(19,(Cq A c A2 c2 A3 c3 A4 c4 A5 c5 r')),(20,(Iv id)),(26,(Cu A c A2 c2 r'.Nz.Nq))]→Mem ⟨w0,[]⟩ S [⟨b5,27,Cb⟩,⟨b4,49,Cp⟩,⟨b3,60,Cm⟩,⟨b2,60,Cm⟩,⟨b',60,(Cn A c A2 c2 A3 c3 A4 c4 A5 c5 r')⟩] [] [(Ow F2 A6 c6 y.Nz.Nq.Nx),(Ow F3 A7 c7 y.Nz.Nq.Nw),(Ow F4 A8 c8 y.Nz.Nk),(Ow F5 A9 c9 y.Ng),(Ow F6 A10 c10 y.Np)] [(Vl true A10 c10 y.Np),(Vl true A9 c9 y.Ng),(Vl true A8 c8 y.Nz.Nk),(Vl true A7 c7 y.Nz.Nq.Nw),(Vl true A6 c6 y.Nz.Nq.Nx),(Vl false A5 c5 r'.Np),(Vl false A4 c4 r'.Ng),(Vl false A3 c3 r'.Nz.Nk),(Vl false A2 c2 r'.Nz.Nq.Nw),(Vl false A c r'.Nz.Nq.Nx)] w→KK (λw=>Mem ⟨w0,[]⟩ S [⟨b',60,(Cn A c A2 c2 A3 c3 A4 c4 A5 c5 r')⟩] [] [] [] w) 6 (Bt 18 32319) a w:=by
  intro b5 b4 b3 c6 c7 c8 c9 c10 A6 A7 A8 A9 A10 F2 F3 F4 F5 F6 a w V H
  refine hin _ _ _ _ _ (n1 6 Kk Z Z (oC V cl89 (xE (S:=TT) (ud (x:=r') (H.rt 9 Z) (H.rt 8 Z) (H.rt 7 Z) (H.rt 6 Z) (H.rt 5 Z)) uc hy2) λv2 w a hp3 V=>?_))
  obtain⟨hb2,hp3⟩:=hp3
  cases ui hp3
  have H:=H.kp hb2
  have O:=H.lk 16 0 0 []
  refine aS O ?_
  obtain⟨p,o,cs,hx,hr,H⟩:=uB H y28 sz49 6 rfl he
  refine zP 7 Z Z Z Z V O (λw=>ux V Z Z Z hx w) λa V=>?_
  obtain⟨A11,c11,rfl,hl11⟩:=uw hr
  have H:=H.pF hl11
  refine sT 16 0 0 [1] 1 0 0 [] H λO=>?_
  refine zSJ 8 [] V O la49 0 0 λa V=>?_
  have V:=V.pn [1,2,4,6,7,8,16,22,23,26]
  have H:=H.lm 31 0 31 12 4095
  exact hout _ _ _ _ _ (kd2 b5 b4 b3 c6 c7 c8 c9 c10 c11 p o A6 A7 A8 A9 A10 A11 F2 F3 F4 F5 F6 _ _ V H)
 have kd11:∀(b4 b3 c6 c7 c8 c9 c10:Nat) (A6 A7 A8 A9 A10:OA) (F2 F3 F4 F5 F6:LN) (a:Act) (w:World),Fr a 87 [(1,(Iv id)),(2,(Pv b')),(4,(Pv b2)),(6,(Pv b3)),(7,(Pv b4)),(16,(Cq A6 c6 A7 c7 A8 c8 A9 c9 A10 c10 y)),(18,(Sc A4 c4 r'.Ng)),(19,(Cq A c A2 c2 A3 c3 A4 c4 A5 c5 r')),(20,(Iv id)),(26,(Cu A c A2 c2 r'.Nz.Nq))]→Mem ⟨w0,[]⟩ S [⟨b4,49,Cp⟩,⟨b3,60,Cm⟩,⟨b2,60,Cm⟩,⟨b',60,(Cn A c A2 c2 A3 c3 A4 c4 A5 c5 r')⟩] [] [(Ow F2 A6 c6 y.Nz.Nq.Nx),(Ow F3 A7 c7 y.Nz.Nq.Nw),(Ow F4 A8 c8 y.Nz.Nk),(Ow F5 A9 c9 y.Ng),(Ow F6 A10 c10 y.Np)] [(Vl true A10 c10 y.Np),(Vl true A9 c9 y.Ng),(Vl true A8 c8 y.Nz.Nk),(Vl true A7 c7 y.Nz.Nq.Nw),(Vl true A6 c6 y.Nz.Nq.Nx),(Vl false A5 c5 r'.Np),(Vl false A4 c4 r'.Ng),(Vl false A3 c3 r'.Nz.Nk),(Vl false A2 c2 r'.Nz.Nq.Nw),(Vl false A c r'.Nz.Nq.Nx)] w→KK (λw=>Mem ⟨w0,[]⟩ S [⟨b',60,(Cn A c A2 c2 A3 c3 A4 c4 A5 c5 r')⟩] [] [] [] w) 7 (Bt 18 15935) a w:=by
  intro b4 b3 c6 c7 c8 c9 c10 A6 A7 A8 A9 A10 F2 F3 F4 F5 F6 a w V H
  refine hin _ _ _ _ _ (on2 (i:=6) (j:=14) (bi:=(Bt 18 15999)) (bj:=(Bt 18 32319)) Kk Z Z Z Z Z Z  ?_ ?_ )
  ·refine (oC V cl89 (xE (S:=TT) (ud (x:=r') (H.rt 9 Z) (H.rt 8 Z) (H.rt 7 Z) (H.rt 6 Z) (H.rt 5 Z)) uc hy2) λv2 w a hp3 V=>?_)
   obtain⟨hb2,hp3⟩:=hp3
   cases ui hp3
   have H:=H.kp hb2
   have O:=H.lk 8 0 0 []
   refine aS O ?_
   obtain⟨p,o,cs,hx,hr,H⟩:=uB H y28 sz49 6 rfl he
   refine zP 7 Z Z Z Z V O (λw=>ux V Z Z Z hx w) λa V=>?_
   obtain⟨A11,c11,rfl,hl11⟩:=uw hr
   have H:=H.pF hl11
   refine sT 8 0 0 [1] 1 0 0 [] H λO=>?_
   refine zSJ 8 [] V O la49 0 0 λa V=>?_
   have V:=V.pn [1,2,4,6,7,16,22,23,26]
   have H:=H.lm 15 0 31 12 4095
   exact hout _ _ _ _ _ (kd3 b4 b3 c6 c7 c8 c9 c10 c11 p o A6 A7 A8 A9 A10 A11 F2 F3 F4 F5 F6 _ _ V H)
  ·refine (uY V H zv27 Z Dd λb5 a w V H=>?_)
   have O:=H.lk 16 0 0 []
   refine aS O ?_
   have V:=V.pn [1,2,4,6,7,8,16,18,19,20,26]
   have H:=H.lm 31 0 31 10 1023
   exact hout _ _ _ _ _ (kd10 b5 b4 b3 c6 c7 c8 c9 c10 A6 A7 A8 A9 A10 F2 F3 F4 F5 F6 _ _ V H)
 have kd12:∀(b4 b3 c6 c7 c8 c9 c10:Nat) (A6 A7 A8 A9 A10:OA) (F2 F3 F4 F5 F6:LN) (a:Act) (w:World),Fr a 87 [(1,(Iv id)),(2,(Pv b')),(4,(Pv b2)),(6,(Pv b3)),(8,(Pv b4)),(16,(Cq A6 c6 A7 c7 A8 c8 A9 c9 A10 c10 y)),(18,(Sc A4 c4 r'.Ng)),(19,(Cq A c A2 c2 A3 c3 A4 c4 A5 c5 r')),(20,(Iv id)),(26,(Cu A c A2 c2 r'.Nz.Nq))]→Mem ⟨w0,[]⟩ S [⟨b4,27,Cb⟩,⟨b3,60,Cm⟩,⟨b2,60,Cm⟩,⟨b',60,(Cn A c A2 c2 A3 c3 A4 c4 A5 c5 r')⟩] [] [(Ow F2 A6 c6 y.Nz.Nq.Nx),(Ow F3 A7 c7 y.Nz.Nq.Nw),(Ow F4 A8 c8 y.Nz.Nk),(Ow F5 A9 c9 y.Ng),(Ow F6 A10 c10 y.Np)] [(Vl true A10 c10 y.Np),(Vl true A9 c9 y.Ng),(Vl true A8 c8 y.Nz.Nk),(Vl true A7 c7 y.Nz.Nq.Nw),(Vl true A6 c6 y.Nz.Nq.Nx),(Vl false A5 c5 r'.Np),(Vl false A4 c4 r'.Ng),(Vl false A3 c3 r'.Nz.Nk),(Vl false A2 c2 r'.Nz.Nq.Nw),(Vl false A c r'.Nz.Nq.Nx)] w→KK (λw=>Mem ⟨w0,[]⟩ S [⟨b',60,(Cn A c A2 c2 A3 c3 A4 c4 A5 c5 r')⟩] [] [] [] w) 7 (Bt 18 24127) a w:=by
  intro b4 b3 c6 c7 c8 c9 c10 A6 A7 A8 A9 A10 F2 F3 F4 F5 F6 a w V H
  refine hin _ _ _ _ _ (on2 (i:=6) (j:=13) (bi:=(Bt 18 24191)) (bj:=(Bt 18 32319)) Kk Z Z Z Z Z Z  ?_ ?_ )
  ·refine (oC V cl89 (xE (S:=TT) (ud (x:=r') (H.rt 9 Z) (H.rt 8 Z) (H.rt 7 Z) (H.rt 6 Z) (H.rt 5 Z)) uc hy2) λv2 w a hp3 V=>?_)
   obtain⟨hb2,hp3⟩:=hp3
   cases ui hp3
   have H:=H.kp hb2
   have O:=H.lk 8 0 0 []
   refine aS O ?_
   obtain⟨p,o,cs,hx,hr,H⟩:=uB H y28 sz49 6 rfl he
   refine zP 7 Z Z Z Z V O (λw=>ux V Z Z Z hx w) λa V=>?_
   obtain⟨A11,c11,rfl,hl11⟩:=uw hr
   have H:=H.pF hl11
   refine sT 8 0 0 [1] 1 0 0 [] H λO=>?_
   refine zSJ 8 [] V O la49 0 0 λa V=>?_
   have V:=V.pn [1,2,4,6,8,16,22,23,26]
   have H:=H.lm 15 0 31 12 4095
   exact hout _ _ _ _ _ (kd4 b4 b3 c6 c7 c8 c9 c10 c11 p o A6 A7 A8 A9 A10 A11 F2 F3 F4 F5 F6 _ _ V H)
  ·refine (uY V H zv49 Z Dd λb5 a w V H=>?_)
   have O:=H.lk 16 0 0 []
   refine aS O ?_
   have H:=((((H.fm 4).fm 4).fm 4).fm 3).fm 4
   have V:=V.pn [1,2,4,6,7,8,16,18,19,20,26]
   have H:=H.lm 31 0 31 10 1023
   exact hout _ _ _ _ _ (kd10 b4 b5 b3 c6 c7 c8 c9 c10 A6 A7 A8 A9 A10 F2 F3 F4 F5 F6 _ _ V H)
 have kd13:∀(b4 b3 c6 c7 c8 c9 c10:Nat) (A6 A7 A8 A9 A10:OA) (F2 F3 F4 F5 F6:LN) (a:Act) (w:World),Fr a 87 [(1,(Iv id)),(2,(Pv b')),(4,(Pv b2)),(7,(Pv b3)),(8,(Pv b4)),(16,(Cq A6 c6 A7 c7 A8 c8 A9 c9 A10 c10 y)),(18,(Sc A4 c4 r'.Ng)),(19,(Cq A c A2 c2 A3 c3 A4 c4 A5 c5 r')),(20,(Iv id)),(26,(Cu A c A2 c2 r'.Nz.Nq))]→Mem ⟨w0,[]⟩ S [⟨b4,27,Cb⟩,⟨b3,49,Cp⟩,⟨b2,60,Cm⟩,⟨b',60,(Cn A c A2 c2 A3 c3 A4 c4 A5 c5 r')⟩] [] [(Ow F2 A6 c6 y.Nz.Nq.Nx),(Ow F3 A7 c7 y.Nz.Nq.Nw),(Ow F4 A8 c8 y.Nz.Nk),(Ow F5 A9 c9 y.Ng),(Ow F6 A10 c10 y.Np)] [(Vl true A10 c10 y.Np),(Vl true A9 c9 y.Ng),(Vl true A8 c8 y.Nz.Nk),(Vl true A7 c7 y.Nz.Nq.Nw),(Vl true A6 c6 y.Nz.Nq.Nx),(Vl false A5 c5 r'.Np),(Vl false A4 c4 r'.Ng),(Vl false A3 c3 r'.Nz.Nk),(Vl false A2 c2 r'.Nz.Nq.Nw),(Vl false A c r'.Nz.Nq.Nx)] w→KK (λw=>Mem ⟨w0,[]⟩ S [⟨b',60,(Cn A c A2 c2 A3 c3 A4 c4 A5 c5 r')⟩] [] [] [] w) 7 (Bt 18 28223) a w:=by
  intro b4 b3 c6 c7 c8 c9 c10 A6 A7 A8 A9 A10 F2 F3 F4 F5 F6 a w V H
  refine hin _ _ _ _ _ (on2 (i:=6) (j:=12) (bi:=(Bt 18 28287)) (bj:=(Bt 18 32319)) Kk Z Z Z Z Z Z  ?_ ?_ )
  ·refine (oC V cl89 (xE (S:=TT) (ud (x:=r') (H.rt 9 Z) (H.rt 8 Z) (H.rt 7 Z) (H.rt 6 Z) (H.rt 5 Z)) uc hy2) λv2 w a hp3 V=>?_)
   obtain⟨hb2,hp3⟩:=hp3
   cases ui hp3
   have H:=H.kp hb2
   have O:=H.lk 8 0 0 []
   refine aS O ?_
   obtain⟨p,o,cs,hx,hr,H⟩:=uB H y28 sz49 6 rfl he
   refine zP 7 Z Z Z Z V O (λw=>ux V Z Z Z hx w) λa V=>?_
   obtain⟨A11,c11,rfl,hl11⟩:=uw hr
   have H:=H.pF hl11
   refine sT 8 0 0 [1] 1 0 0 [] H λO=>?_
   refine zSJ 8 [] V O la49 0 0 λa V=>?_
   have V:=V.pn [1,2,4,7,8,16,22,23,26]
   have H:=H.lm 15 0 31 12 4095
   exact hout _ _ _ _ _ (kd5 b4 b3 c6 c7 c8 c9 c10 c11 p o A6 A7 A8 A9 A10 A11 F2 F3 F4 F5 F6 _ _ V H)
  ·refine (uY V H zv60 Z Dd λb5 a w V H=>?_)
   have O:=H.lk 16 0 0 []
   refine aS O ?_
   have H:=((((H.fm 4).fm 4).fm 2).fm 4).fm 4
   have V:=V.pn [1,2,4,6,7,8,16,18,19,20,26]
   have H:=H.lm 31 0 31 10 1023
   exact hout _ _ _ _ _ (kd10 b4 b3 b5 c6 c7 c8 c9 c10 A6 A7 A8 A9 A10 F2 F3 F4 F5 F6 _ _ V H)
 have kd14:∀(b5 b4 b3:Nat) (a:Act) (w:World),Fr a 87 [(1,(Iv id)),(2,(Pv b')),(4,(Pv b2)),(6,(Pv b3)),(7,(Pv b4)),(8,(Pv b5)),(15,(Cq A c A2 c2 A3 c3 A4 c4 A5 c5 r')),(18,(Sc A4 c4 r'.Ng)),(19,(Cq A c A2 c2 A3 c3 A4 c4 A5 c5 r')),(20,(Iv id)),(26,(Cu A c A2 c2 r'.Nz.Nq))]→Mem ⟨w0,[]⟩ S [⟨b5,27,Cb⟩,⟨b4,49,Cp⟩,⟨b3,60,Cm⟩,⟨b2,60,Cm⟩,⟨b',60,(Cn A c A2 c2 A3 c3 A4 c4 A5 c5 r')⟩] [] [] [(Vl false A5 c5 r'.Np),(Vl false A4 c4 r'.Ng),(Vl false A3 c3 r'.Nz.Nk),(Vl false A2 c2 r'.Nz.Nq.Nw),(Vl false A c r'.Nz.Nq.Nx)] w→KK (λw=>Mem ⟨w0,[]⟩ S [⟨b',60,(Cn A c A2 c2 A3 c3 A4 c4 A5 c5 r')⟩] [] [] [] w) 7 (Bt 18 32317) a w:=by
  intro b5 b4 b3 a w V H
  refine hin _ _ _ _ _ (n1 1 Kk Z Z (oC V cl88 (uM (S:=TT) (ud (x:=r') (H.rt 4 Z) (H.rt 3 Z) (H.rt 2 Z) (H.rt 1 Z) (H.rt 0 Z)) hy) λv w a hp V=>?_))
  obtain⟨hb,F,hp2,hN⟩:=hp
  obtain⟨A6,c6,F2,A7,c7,F3,A8,c8,F4,A9,c9,F5,A10,c10,F6,rfl,rfl,hl6,hl7,hl8,hl9,hl10⟩:=uJ hp2
  have H:=H.addOwn hb (X:=[(Ow F2 A6 c6 y.Nz.Nq.Nx),(Ow F3 A7 c7 y.Nz.Nq.Nw),(Ow F4 A8 c8 y.Nz.Nk),(Ow F5 A9 c9 y.Ng),(Ow F6 A10 c10 y.Np)]) (by simpa using hN.1) (ps1 hl6 (ps1 hl7 (ps1 hl8 (ps1 hl9 (ps1 hl10 ps0))))) (by simpa using hN.2)
  have H:=((((H.ld 0).ld 1).ld 2).ld 3).ld 4
  have O:=H.lk 16 0 0 []
  refine aS O ?_
  have V:=V.pn [1,2,4,6,7,8,16,18,19,20,26]
  have H:=H.lm 31 0 31 10 1023
  exact hout _ _ _ _ _ (kd10 b5 b4 b3 c6 c7 c8 c9 c10 A6 A7 A8 A9 A10 F2 F3 F4 F5 F6 _ _ V H)
 have kd15:∀(b3 c6 c7 c8 c9 c10:Nat) (A6 A7 A8 A9 A10:OA) (F2 F3 F4 F5 F6:LN) (a:Act) (w:World),Fr a 87 [(1,(Iv id)),(2,(Pv b')),(4,(Pv b2)),(6,(Pv b3)),(16,(Cq A6 c6 A7 c7 A8 c8 A9 c9 A10 c10 y)),(18,(Sc A4 c4 r'.Ng)),(19,(Cq A c A2 c2 A3 c3 A4 c4 A5 c5 r')),(20,(Iv id)),(26,(Cu A c A2 c2 r'.Nz.Nq))]→Mem ⟨w0,[]⟩ S [⟨b3,60,Cm⟩,⟨b2,60,Cm⟩,⟨b',60,(Cn A c A2 c2 A3 c3 A4 c4 A5 c5 r')⟩] [] [(Ow F2 A6 c6 y.Nz.Nq.Nx),(Ow F3 A7 c7 y.Nz.Nq.Nw),(Ow F4 A8 c8 y.Nz.Nk),(Ow F5 A9 c9 y.Ng),(Ow F6 A10 c10 y.Np)] [(Vl true A10 c10 y.Np),(Vl true A9 c9 y.Ng),(Vl true A8 c8 y.Nz.Nk),(Vl true A7 c7 y.Nz.Nq.Nw),(Vl true A6 c6 y.Nz.Nq.Nx),(Vl false A5 c5 r'.Np),(Vl false A4 c4 r'.Ng),(Vl false A3 c3 r'.Nz.Nk),(Vl false A2 c2 r'.Nz.Nq.Nw),(Vl false A c r'.Nz.Nq.Nx)] w→KK (λw=>Mem ⟨w0,[]⟩ S [⟨b',60,(Cn A c A2 c2 A3 c3 A4 c4 A5 c5 r')⟩] [] [] [] w) 8 (Bt 18 7743) a w:=by
  intro b3 c6 c7 c8 c9 c10 A6 A7 A8 A9 A10 F2 F3 F4 F5 F6 a w V H
  refine hin _ _ _ _ _ (on3 (i:=6) (j:=13) (k:=14) (bi:=(Bt 18 7807)) (bj:=(Bt 18 15935)) (bk:=(Bt 18 24127)) Kk Z Z Z Z Z Z Z Z Z  ?_ ?_ ?_ )
  ·refine (oC V cl89 (xE (S:=TT) (ud (x:=r') (H.rt 9 Z) (H.rt 8 Z) (H.rt 7 Z) (H.rt 6 Z) (H.rt 5 Z)) uc hy2) λv2 w a hp3 V=>?_)
   obtain⟨hb2,hp3⟩:=hp3
   cases ui hp3
   have H:=H.kp hb2
   have O:=H.lk 4 0 0 []
   refine aS O ?_
   obtain⟨p,o,cs,hx,hr,H⟩:=uB H y28 sz49 6 rfl he
   refine zP 7 Z Z Z Z V O (λw=>ux V Z Z Z hx w) λa V=>?_
   obtain⟨A11,c11,rfl,hl11⟩:=uw hr
   have H:=H.pF hl11
   refine sT 4 0 0 [1] 1 0 0 [] H λO=>?_
   refine zSJ 8 [] V O la49 0 0 λa V=>?_
   have V:=V.pn [1,2,4,6,16,22,23,26]
   have H:=H.lm 7 0 31 12 4095
   exact hout _ _ _ _ _ (kd6 b3 c6 c7 c8 c9 c10 c11 p o A6 A7 A8 A9 A10 A11 F2 F3 F4 F5 F6 _ _ V H)
  ·refine (uY V H zv49 Z Dd λb4 a w V H=>?_)
   have O:=H.lk 8 0 0 []
   refine aS O ?_
   have V:=V.pn [1,2,4,6,7,16,18,19,20,26]
   have H:=H.lm 15 0 31 10 1023
   exact hout _ _ _ _ _ (kd11 b4 b3 c6 c7 c8 c9 c10 A6 A7 A8 A9 A10 F2 F3 F4 F5 F6 _ _ V H)
  ·refine (uY V H zv27 Z Dd λb4 a w V H=>?_)
   have O:=H.lk 8 0 0 []
   refine aS O ?_
   have V:=V.pn [1,2,4,6,8,16,18,19,20,26]
   have H:=H.lm 15 0 31 10 1023
   exact hout _ _ _ _ _ (kd12 b4 b3 c6 c7 c8 c9 c10 A6 A7 A8 A9 A10 F2 F3 F4 F5 F6 _ _ V H)
 have kd16:∀(b3 c6 c7 c8 c9 c10:Nat) (A6 A7 A8 A9 A10:OA) (F2 F3 F4 F5 F6:LN) (a:Act) (w:World),Fr a 87 [(1,(Iv id)),(2,(Pv b')),(4,(Pv b2)),(7,(Pv b3)),(16,(Cq A6 c6 A7 c7 A8 c8 A9 c9 A10 c10 y)),(18,(Sc A4 c4 r'.Ng)),(19,(Cq A c A2 c2 A3 c3 A4 c4 A5 c5 r')),(20,(Iv id)),(26,(Cu A c A2 c2 r'.Nz.Nq))]→Mem ⟨w0,[]⟩ S [⟨b3,49,Cp⟩,⟨b2,60,Cm⟩,⟨b',60,(Cn A c A2 c2 A3 c3 A4 c4 A5 c5 r')⟩] [] [(Ow F2 A6 c6 y.Nz.Nq.Nx),(Ow F3 A7 c7 y.Nz.Nq.Nw),(Ow F4 A8 c8 y.Nz.Nk),(Ow F5 A9 c9 y.Ng),(Ow F6 A10 c10 y.Np)] [(Vl true A10 c10 y.Np),(Vl true A9 c9 y.Ng),(Vl true A8 c8 y.Nz.Nk),(Vl true A7 c7 y.Nz.Nq.Nw),(Vl true A6 c6 y.Nz.Nq.Nx),(Vl false A5 c5 r'.Np),(Vl false A4 c4 r'.Ng),(Vl false A3 c3 r'.Nz.Nk),(Vl false A2 c2 r'.Nz.Nq.Nw),(Vl false A c r'.Nz.Nq.Nx)] w→KK (λw=>Mem ⟨w0,[]⟩ S [⟨b',60,(Cn A c A2 c2 A3 c3 A4 c4 A5 c5 r')⟩] [] [] [] w) 8 (Bt 18 11839) a w:=by
  intro b3 c6 c7 c8 c9 c10 A6 A7 A8 A9 A10 F2 F3 F4 F5 F6 a w V H
  refine hin _ _ _ _ _ (on3 (i:=6) (j:=12) (k:=14) (bi:=(Bt 18 11903)) (bj:=(Bt 18 15935)) (bk:=(Bt 18 28223)) Kk Z Z Z Z Z Z Z Z Z  ?_ ?_ ?_ )
  ·refine (oC V cl89 (xE (S:=TT) (ud (x:=r') (H.rt 9 Z) (H.rt 8 Z) (H.rt 7 Z) (H.rt 6 Z) (H.rt 5 Z)) uc hy2) λv2 w a hp3 V=>?_)
   obtain⟨hb2,hp3⟩:=hp3
   cases ui hp3
   have H:=H.kp hb2
   have O:=H.lk 4 0 0 []
   refine aS O ?_
   obtain⟨p,o,cs,hx,hr,H⟩:=uB H y28 sz49 6 rfl he
   refine zP 7 Z Z Z Z V O (λw=>ux V Z Z Z hx w) λa V=>?_
   obtain⟨A11,c11,rfl,hl11⟩:=uw hr
   have H:=H.pF hl11
   refine sT 4 0 0 [1] 1 0 0 [] H λO=>?_
   refine zSJ 8 [] V O la49 0 0 λa V=>?_
   have V:=V.pn [1,2,4,7,16,22,23,26]
   have H:=H.lm 7 0 31 12 4095
   exact hout _ _ _ _ _ (kd7 b3 c6 c7 c8 c9 c10 c11 p o A6 A7 A8 A9 A10 A11 F2 F3 F4 F5 F6 _ _ V H)
  ·refine (uY V H zv60 Z Dd λb4 a w V H=>?_)
   have O:=H.lk 8 0 0 []
   refine aS O ?_
   have H:=(((H.fm 3).fm 3).fm 2).fm 3
   have V:=V.pn [1,2,4,6,7,16,18,19,20,26]
   have H:=H.lm 15 0 31 10 1023
   exact hout _ _ _ _ _ (kd11 b3 b4 c6 c7 c8 c9 c10 A6 A7 A8 A9 A10 F2 F3 F4 F5 F6 _ _ V H)
  ·refine (uY V H zv27 Z Dd λb4 a w V H=>?_)
   have O:=H.lk 8 0 0 []
   refine aS O ?_
   have V:=V.pn [1,2,4,7,8,16,18,19,20,26]
   have H:=H.lm 15 0 31 10 1023
   exact hout _ _ _ _ _ (kd13 b4 b3 c6 c7 c8 c9 c10 A6 A7 A8 A9 A10 F2 F3 F4 F5 F6 _ _ V H)
 have kd17:∀(b3 c6 c7 c8 c9 c10:Nat) (A6 A7 A8 A9 A10:OA) (F2 F3 F4 F5 F6:LN) (a:Act) (w:World),Fr a 87 [(1,(Iv id)),(2,(Pv b')),(4,(Pv b2)),(8,(Pv b3)),(16,(Cq A6 c6 A7 c7 A8 c8 A9 c9 A10 c10 y)),(18,(Sc A4 c4 r'.Ng)),(19,(Cq A c A2 c2 A3 c3 A4 c4 A5 c5 r')),(20,(Iv id)),(26,(Cu A c A2 c2 r'.Nz.Nq))]→Mem ⟨w0,[]⟩ S [⟨b3,27,Cb⟩,⟨b2,60,Cm⟩,⟨b',60,(Cn A c A2 c2 A3 c3 A4 c4 A5 c5 r')⟩] [] [(Ow F2 A6 c6 y.Nz.Nq.Nx),(Ow F3 A7 c7 y.Nz.Nq.Nw),(Ow F4 A8 c8 y.Nz.Nk),(Ow F5 A9 c9 y.Ng),(Ow F6 A10 c10 y.Np)] [(Vl true A10 c10 y.Np),(Vl true A9 c9 y.Ng),(Vl true A8 c8 y.Nz.Nk),(Vl true A7 c7 y.Nz.Nq.Nw),(Vl true A6 c6 y.Nz.Nq.Nx),(Vl false A5 c5 r'.Np),(Vl false A4 c4 r'.Ng),(Vl false A3 c3 r'.Nz.Nk),(Vl false A2 c2 r'.Nz.Nq.Nw),(Vl false A c r'.Nz.Nq.Nx)] w→KK (λw=>Mem ⟨w0,[]⟩ S [⟨b',60,(Cn A c A2 c2 A3 c3 A4 c4 A5 c5 r')⟩] [] [] [] w) 8 (Bt 18 20031) a w:=by
  intro b3 c6 c7 c8 c9 c10 A6 A7 A8 A9 A10 F2 F3 F4 F5 F6 a w V H
  refine hin _ _ _ _ _ (on3 (i:=6) (j:=12) (k:=13) (bi:=(Bt 18 20095)) (bj:=(Bt 18 24127)) (bk:=(Bt 18 28223)) Kk Z Z Z Z Z Z Z Z Z  ?_ ?_ ?_ )
  ·refine (oC V cl89 (xE (S:=TT) (ud (x:=r') (H.rt 9 Z) (H.rt 8 Z) (H.rt 7 Z) (H.rt 6 Z) (H.rt 5 Z)) uc hy2) λv2 w a hp3 V=>?_)
   obtain⟨hb2,hp3⟩:=hp3
   cases ui hp3
   have H:=H.kp hb2
   have O:=H.lk 4 0 0 []
   refine aS O ?_
   obtain⟨p,o,cs,hx,hr,H⟩:=uB H y28 sz49 6 rfl he
   refine zP 7 Z Z Z Z V O (λw=>ux V Z Z Z hx w) λa V=>?_
   obtain⟨A11,c11,rfl,hl11⟩:=uw hr
   have H:=H.pF hl11
   refine sT 4 0 0 [1] 1 0 0 [] H λO=>?_
   refine zSJ 8 [] V O la49 0 0 λa V=>?_
   have V:=V.pn [1,2,4,8,16,22,23,26]
   have H:=H.lm 7 0 31 12 4095
   exact hout _ _ _ _ _ (kd8 b3 c6 c7 c8 c9 c10 c11 p o A6 A7 A8 A9 A10 A11 F2 F3 F4 F5 F6 _ _ V H)
  ·refine (uY V H zv60 Z Dd λb4 a w V H=>?_)
   have O:=H.lk 8 0 0 []
   refine aS O ?_
   have H:=(((H.fm 3).fm 3).fm 2).fm 3
   have V:=V.pn [1,2,4,6,8,16,18,19,20,26]
   have H:=H.lm 15 0 31 10 1023
   exact hout _ _ _ _ _ (kd12 b3 b4 c6 c7 c8 c9 c10 A6 A7 A8 A9 A10 F2 F3 F4 F5 F6 _ _ V H)
  ·refine (uY V H zv49 Z Dd λb4 a w V H=>?_)
   have O:=H.lk 8 0 0 []
   refine aS O ?_
   have H:=(((H.fm 3).fm 3).fm 2).fm 3
   have V:=V.pn [1,2,4,7,8,16,18,19,20,26]
   have H:=H.lm 15 0 31 10 1023
   exact hout _ _ _ _ _ (kd13 b3 b4 c6 c7 c8 c9 c10 A6 A7 A8 A9 A10 F2 F3 F4 F5 F6 _ _ V H)
 have kd18:∀(b4 b3:Nat) (a:Act) (w:World),Fr a 87 [(1,(Iv id)),(2,(Pv b')),(4,(Pv b2)),(6,(Pv b3)),(7,(Pv b4)),(15,(Cq A c A2 c2 A3 c3 A4 c4 A5 c5 r')),(18,(Sc A4 c4 r'.Ng)),(19,(Cq A c A2 c2 A3 c3 A4 c4 A5 c5 r')),(20,(Iv id)),(26,(Cu A c A2 c2 r'.Nz.Nq))]→Mem ⟨w0,[]⟩ S [⟨b4,49,Cp⟩,⟨b3,60,Cm⟩,⟨b2,60,Cm⟩,⟨b',60,(Cn A c A2 c2 A3 c3 A4 c4 A5 c5 r')⟩] [] [] [(Vl false A5 c5 r'.Np),(Vl false A4 c4 r'.Ng),(Vl false A3 c3 r'.Nz.Nk),(Vl false A2 c2 r'.Nz.Nq.Nw),(Vl false A c r'.Nz.Nq.Nx)] w→KK (λw=>Mem ⟨w0,[]⟩ S [⟨b',60,(Cn A c A2 c2 A3 c3 A4 c4 A5 c5 r')⟩] [] [] [] w) 8 (Bt 18 15933) a w:=by
  intro b4 b3 a w V H
  refine hin _ _ _ _ _ (on2 (i:=1) (j:=14) (bi:=(Bt 18 15935)) (bj:=(Bt 18 32317)) Kk Z Z Z Z Z Z  ?_ ?_ )
  ·refine (oC V cl88 (uM (S:=TT) (ud (x:=r') (H.rt 4 Z) (H.rt 3 Z) (H.rt 2 Z) (H.rt 1 Z) (H.rt 0 Z)) hy) λv w a hp V=>?_)
   obtain⟨hb,F,hp2,hN⟩:=hp
   obtain⟨A6,c6,F2,A7,c7,F3,A8,c8,F4,A9,c9,F5,A10,c10,F6,rfl,rfl,hl6,hl7,hl8,hl9,hl10⟩:=uJ hp2
   have H:=H.addOwn hb (X:=[(Ow F2 A6 c6 y.Nz.Nq.Nx),(Ow F3 A7 c7 y.Nz.Nq.Nw),(Ow F4 A8 c8 y.Nz.Nk),(Ow F5 A9 c9 y.Ng),(Ow F6 A10 c10 y.Np)]) (by simpa using hN.1) (ps1 hl6 (ps1 hl7 (ps1 hl8 (ps1 hl9 (ps1 hl10 ps0))))) (by simpa using hN.2)
   have H:=((((H.ld 0).ld 1).ld 2).ld 3).ld 4
   have O:=H.lk 8 0 0 []
   refine aS O ?_
   have V:=V.pn [1,2,4,6,7,16,18,19,20,26]
   have H:=H.lm 15 0 31 10 1023
   exact hout _ _ _ _ _ (kd11 b4 b3 c6 c7 c8 c9 c10 A6 A7 A8 A9 A10 F2 F3 F4 F5 F6 _ _ V H)
  ·refine (uY V H zv27 Z Dd λb5 a w V H=>?_)
   have O:=H.lk 16 0 0 []
   refine aS O ?_
   have V:=V.pn [1,2,4,6,7,8,15,18,19,20,26]
   have H:=H.lm 31 0 0 5 31
   exact hout _ _ _ _ _ (kd14 b5 b4 b3 _ _ V H)
 have kd19:∀(b4 b3:Nat) (a:Act) (w:World),Fr a 87 [(1,(Iv id)),(2,(Pv b')),(4,(Pv b2)),(6,(Pv b3)),(8,(Pv b4)),(15,(Cq A c A2 c2 A3 c3 A4 c4 A5 c5 r')),(18,(Sc A4 c4 r'.Ng)),(19,(Cq A c A2 c2 A3 c3 A4 c4 A5 c5 r')),(20,(Iv id)),(26,(Cu A c A2 c2 r'.Nz.Nq))]→Mem ⟨w0,[]⟩ S [⟨b4,27,Cb⟩,⟨b3,60,Cm⟩,⟨b2,60,Cm⟩,⟨b',60,(Cn A c A2 c2 A3 c3 A4 c4 A5 c5 r')⟩] [] [] [(Vl false A5 c5 r'.Np),(Vl false A4 c4 r'.Ng),(Vl false A3 c3 r'.Nz.Nk),(Vl false A2 c2 r'.Nz.Nq.Nw),(Vl false A c r'.Nz.Nq.Nx)] w→KK (λw=>Mem ⟨w0,[]⟩ S [⟨b',60,(Cn A c A2 c2 A3 c3 A4 c4 A5 c5 r')⟩] [] [] [] w) 8 (Bt 18 24125) a w:=by
  intro b4 b3 a w V H
  refine hin _ _ _ _ _ (on2 (i:=1) (j:=13) (bi:=(Bt 18 24127)) (bj:=(Bt 18 32317)) Kk Z Z Z Z Z Z  ?_ ?_ )
  ·refine (oC V cl88 (uM (S:=TT) (ud (x:=r') (H.rt 4 Z) (H.rt 3 Z) (H.rt 2 Z) (H.rt 1 Z) (H.rt 0 Z)) hy) λv w a hp V=>?_)
   obtain⟨hb,F,hp2,hN⟩:=hp
   obtain⟨A6,c6,F2,A7,c7,F3,A8,c8,F4,A9,c9,F5,A10,c10,F6,rfl,rfl,hl6,hl7,hl8,hl9,hl10⟩:=uJ hp2
   have H:=H.addOwn hb (X:=[(Ow F2 A6 c6 y.Nz.Nq.Nx),(Ow F3 A7 c7 y.Nz.Nq.Nw),(Ow F4 A8 c8 y.Nz.Nk),(Ow F5 A9 c9 y.Ng),(Ow F6 A10 c10 y.Np)]) (by simpa using hN.1) (ps1 hl6 (ps1 hl7 (ps1 hl8 (ps1 hl9 (ps1 hl10 ps0))))) (by simpa using hN.2)
   have H:=((((H.ld 0).ld 1).ld 2).ld 3).ld 4
   have O:=H.lk 8 0 0 []
   refine aS O ?_
   have V:=V.pn [1,2,4,6,8,16,18,19,20,26]
   have H:=H.lm 15 0 31 10 1023
   exact hout _ _ _ _ _ (kd12 b4 b3 c6 c7 c8 c9 c10 A6 A7 A8 A9 A10 F2 F3 F4 F5 F6 _ _ V H)
  ·refine (uY V H zv49 Z Dd λb5 a w V H=>?_)
   have O:=H.lk 16 0 0 []
   refine aS O ?_
   have H:=((((H.fm 4).fm 4).fm 4).fm 3).fm 4
   have V:=V.pn [1,2,4,6,7,8,15,18,19,20,26]
   have H:=H.lm 31 0 0 5 31
   exact hout _ _ _ _ _ (kd14 b4 b5 b3 _ _ V H)
 have kd20:∀(b4 b3:Nat) (a:Act) (w:World),Fr a 87 [(1,(Iv id)),(2,(Pv b')),(4,(Pv b2)),(7,(Pv b3)),(8,(Pv b4)),(15,(Cq A c A2 c2 A3 c3 A4 c4 A5 c5 r')),(18,(Sc A4 c4 r'.Ng)),(19,(Cq A c A2 c2 A3 c3 A4 c4 A5 c5 r')),(20,(Iv id)),(26,(Cu A c A2 c2 r'.Nz.Nq))]→Mem ⟨w0,[]⟩ S [⟨b4,27,Cb⟩,⟨b3,49,Cp⟩,⟨b2,60,Cm⟩,⟨b',60,(Cn A c A2 c2 A3 c3 A4 c4 A5 c5 r')⟩] [] [] [(Vl false A5 c5 r'.Np),(Vl false A4 c4 r'.Ng),(Vl false A3 c3 r'.Nz.Nk),(Vl false A2 c2 r'.Nz.Nq.Nw),(Vl false A c r'.Nz.Nq.Nx)] w→KK (λw=>Mem ⟨w0,[]⟩ S [⟨b',60,(Cn A c A2 c2 A3 c3 A4 c4 A5 c5 r')⟩] [] [] [] w) 8 (Bt 18 28221) a w:=by
  intro b4 b3 a w V H
  refine hin _ _ _ _ _ (on2 (i:=1) (j:=12) (bi:=(Bt 18 28223)) (bj:=(Bt 18 32317)) Kk Z Z Z Z Z Z  ?_ ?_ )
  ·refine (oC V cl88 (uM (S:=TT) (ud (x:=r') (H.rt 4 Z) (H.rt 3 Z) (H.rt 2 Z) (H.rt 1 Z) (H.rt 0 Z)) hy) λv w a hp V=>?_)
   obtain⟨hb,F,hp2,hN⟩:=hp
   obtain⟨A6,c6,F2,A7,c7,F3,A8,c8,F4,A9,c9,F5,A10,c10,F6,rfl,rfl,hl6,hl7,hl8,hl9,hl10⟩:=uJ hp2
   have H:=H.addOwn hb (X:=[(Ow F2 A6 c6 y.Nz.Nq.Nx),(Ow F3 A7 c7 y.Nz.Nq.Nw),(Ow F4 A8 c8 y.Nz.Nk),(Ow F5 A9 c9 y.Ng),(Ow F6 A10 c10 y.Np)]) (by simpa using hN.1) (ps1 hl6 (ps1 hl7 (ps1 hl8 (ps1 hl9 (ps1 hl10 ps0))))) (by simpa using hN.2)
   have H:=((((H.ld 0).ld 1).ld 2).ld 3).ld 4
   have O:=H.lk 8 0 0 []
   refine aS O ?_
   have V:=V.pn [1,2,4,7,8,16,18,19,20,26]
   have H:=H.lm 15 0 31 10 1023
   exact hout _ _ _ _ _ (kd13 b4 b3 c6 c7 c8 c9 c10 A6 A7 A8 A9 A10 F2 F3 F4 F5 F6 _ _ V H)
  ·refine (uY V H zv60 Z Dd λb5 a w V H=>?_)
   have O:=H.lk 16 0 0 []
   refine aS O ?_
   have H:=((((H.fm 4).fm 4).fm 2).fm 4).fm 4
   have V:=V.pn [1,2,4,6,7,8,15,18,19,20,26]
   have H:=H.lm 31 0 0 5 31
   exact hout _ _ _ _ _ (kd14 b4 b3 b5 _ _ V H)
 have kd21:∀(A6 A7 A8 A9 A10:OA) (c6 c7 c8 c9 c10:Nat) (F2 F3 F4 F5 F6:LN) (a:Act) (w:World),Fr a 87 [(1,(Iv id)),(2,(Pv b')),(4,(Pv b2)),(16,(Cq A6 c6 A7 c7 A8 c8 A9 c9 A10 c10 y)),(18,(Sc A4 c4 r'.Ng)),(19,(Cq A c A2 c2 A3 c3 A4 c4 A5 c5 r')),(20,(Iv id)),(26,(Cu A c A2 c2 r'.Nz.Nq))]→Mem ⟨w0,[]⟩ S [⟨b2,60,Cm⟩,⟨b',60,(Cn A c A2 c2 A3 c3 A4 c4 A5 c5 r')⟩] [] [(Ow F2 A6 c6 y.Nz.Nq.Nx),(Ow F3 A7 c7 y.Nz.Nq.Nw),(Ow F4 A8 c8 y.Nz.Nk),(Ow F5 A9 c9 y.Ng),(Ow F6 A10 c10 y.Np)] [(Vl true A10 c10 y.Np),(Vl true A9 c9 y.Ng),(Vl true A8 c8 y.Nz.Nk),(Vl true A7 c7 y.Nz.Nq.Nw),(Vl true A6 c6 y.Nz.Nq.Nx),(Vl false A5 c5 r'.Np),(Vl false A4 c4 r'.Ng),(Vl false A3 c3 r'.Nz.Nk),(Vl false A2 c2 r'.Nz.Nq.Nw),(Vl false A c r'.Nz.Nq.Nx)] w→KK (λw=>Mem ⟨w0,[]⟩ S [⟨b',60,(Cn A c A2 c2 A3 c3 A4 c4 A5 c5 r')⟩] [] [] [] w) 9 (Bt 18 3647) a w:=by
  intro A6 A7 A8 A9 A10 c6 c7 c8 c9 c10 F2 F3 F4 F5 F6 a w V H
  refine hin _ _ _ _ _ (on4 (i:=6) (j:=12) (k:=13) (m:=14) (bi:=(Bt 18 3711)) (bj:=(Bt 18 7743)) (bk:=(Bt 18 11839)) (bm:=(Bt 18 20031)) Kk Z Z Z Z Z Z Z Z Z Z Z Z  ?_ ?_ ?_ ?_ )
  ·refine (oC V cl89 (xE (S:=TT) (ud (x:=r') (H.rt 9 Z) (H.rt 8 Z) (H.rt 7 Z) (H.rt 6 Z) (H.rt 5 Z)) uc hy2) λv2 w a hp3 V=>?_)
   obtain⟨hb2,hp3⟩:=hp3
   cases ui hp3
   have H:=H.kp hb2
   have O:=H.lk 2 0 0 []
   refine aS O ?_
   obtain⟨p,o,cs,hx,hr,H⟩:=uB H y28 sz49 6 rfl he
   refine zP 7 Z Z Z Z V O (λw=>ux V Z Z Z hx w) λa V=>?_
   obtain⟨A11,c11,rfl,hl11⟩:=uw hr
   have H:=H.pF hl11
   refine sT 2 0 0 [1] 1 0 0 [] H λO=>?_
   refine zSJ 8 [] V O la49 0 0 λa V=>?_
   have V:=V.pn [1,2,4,16,22,23,26]
   have H:=H.lm 3 0 31 12 4095
   exact hout _ _ _ _ _ (kd9 A6 A7 A8 A9 A10 A11 c6 c7 c8 c9 c10 c11 p o F2 F3 F4 F5 F6 _ _ V H)
  ·refine (uY V H zv60 Z Dd λb3 a w V H=>?_)
   have O:=H.lk 4 0 0 []
   refine aS O ?_
   have V:=V.pn [1,2,4,6,16,18,19,20,26]
   have H:=H.lm 7 0 31 10 1023
   exact hout _ _ _ _ _ (kd15 b3 c6 c7 c8 c9 c10 A6 A7 A8 A9 A10 F2 F3 F4 F5 F6 _ _ V H)
  ·refine (uY V H zv49 Z Dd λb3 a w V H=>?_)
   have O:=H.lk 4 0 0 []
   refine aS O ?_
   have V:=V.pn [1,2,4,7,16,18,19,20,26]
   have H:=H.lm 7 0 31 10 1023
   exact hout _ _ _ _ _ (kd16 b3 c6 c7 c8 c9 c10 A6 A7 A8 A9 A10 F2 F3 F4 F5 F6 _ _ V H)
  ·refine (uY V H zv27 Z Dd λb3 a w V H=>?_)
   have O:=H.lk 4 0 0 []
   refine aS O ?_
   have V:=V.pn [1,2,4,8,16,18,19,20,26]
   have H:=H.lm 7 0 31 10 1023
   exact hout _ _ _ _ _ (kd17 b3 c6 c7 c8 c9 c10 A6 A7 A8 A9 A10 F2 F3 F4 F5 F6 _ _ V H)
 have kd22:∀(b3:Nat) (a:Act) (w:World),Fr a 87 [(1,(Iv id)),(2,(Pv b')),(4,(Pv b2)),(6,(Pv b3)),(15,(Cq A c A2 c2 A3 c3 A4 c4 A5 c5 r')),(18,(Sc A4 c4 r'.Ng)),(19,(Cq A c A2 c2 A3 c3 A4 c4 A5 c5 r')),(20,(Iv id)),(26,(Cu A c A2 c2 r'.Nz.Nq))]→Mem ⟨w0,[]⟩ S [⟨b3,60,Cm⟩,⟨b2,60,Cm⟩,⟨b',60,(Cn A c A2 c2 A3 c3 A4 c4 A5 c5 r')⟩] [] [] [(Vl false A5 c5 r'.Np),(Vl false A4 c4 r'.Ng),(Vl false A3 c3 r'.Nz.Nk),(Vl false A2 c2 r'.Nz.Nq.Nw),(Vl false A c r'.Nz.Nq.Nx)] w→KK (λw=>Mem ⟨w0,[]⟩ S [⟨b',60,(Cn A c A2 c2 A3 c3 A4 c4 A5 c5 r')⟩] [] [] [] w) 9 (Bt 18 7741) a w:=by
  intro b3 a w V H
  refine hin _ _ _ _ _ (on3 (i:=1) (j:=13) (k:=14) (bi:=(Bt 18 7743)) (bj:=(Bt 18 15933)) (bk:=(Bt 18 24125)) Kk Z Z Z Z Z Z Z Z Z  ?_ ?_ ?_ )
  ·refine (oC V cl88 (uM (S:=TT) (ud (x:=r') (H.rt 4 Z) (H.rt 3 Z) (H.rt 2 Z) (H.rt 1 Z) (H.rt 0 Z)) hy) λv w a hp V=>?_)
   obtain⟨hb,F,hp2,hN⟩:=hp
   obtain⟨A6,c6,F2,A7,c7,F3,A8,c8,F4,A9,c9,F5,A10,c10,F6,rfl,rfl,hl6,hl7,hl8,hl9,hl10⟩:=uJ hp2
   have H:=H.addOwn hb (X:=[(Ow F2 A6 c6 y.Nz.Nq.Nx),(Ow F3 A7 c7 y.Nz.Nq.Nw),(Ow F4 A8 c8 y.Nz.Nk),(Ow F5 A9 c9 y.Ng),(Ow F6 A10 c10 y.Np)]) (by simpa using hN.1) (ps1 hl6 (ps1 hl7 (ps1 hl8 (ps1 hl9 (ps1 hl10 ps0))))) (by simpa using hN.2)
   have H:=((((H.ld 0).ld 1).ld 2).ld 3).ld 4
   have O:=H.lk 4 0 0 []
   refine aS O ?_
   have V:=V.pn [1,2,4,6,16,18,19,20,26]
   have H:=H.lm 7 0 31 10 1023
   exact hout _ _ _ _ _ (kd15 b3 c6 c7 c8 c9 c10 A6 A7 A8 A9 A10 F2 F3 F4 F5 F6 _ _ V H)
  ·refine (uY V H zv49 Z Dd λb4 a w V H=>?_)
   have O:=H.lk 8 0 0 []
   refine aS O ?_
   have V:=V.pn [1,2,4,6,7,15,18,19,20,26]
   have H:=H.lm 15 0 0 5 31
   exact hout _ _ _ _ _ (kd18 b4 b3 _ _ V H)
  ·refine (uY V H zv27 Z Dd λb4 a w V H=>?_)
   have O:=H.lk 8 0 0 []
   refine aS O ?_
   have V:=V.pn [1,2,4,6,8,15,18,19,20,26]
   have H:=H.lm 15 0 0 5 31
   exact hout _ _ _ _ _ (kd19 b4 b3 _ _ V H)
 have kd23:∀(b3:Nat) (a:Act) (w:World),Fr a 87 [(1,(Iv id)),(2,(Pv b')),(4,(Pv b2)),(7,(Pv b3)),(15,(Cq A c A2 c2 A3 c3 A4 c4 A5 c5 r')),(18,(Sc A4 c4 r'.Ng)),(19,(Cq A c A2 c2 A3 c3 A4 c4 A5 c5 r')),(20,(Iv id)),(26,(Cu A c A2 c2 r'.Nz.Nq))]→Mem ⟨w0,[]⟩ S [⟨b3,49,Cp⟩,⟨b2,60,Cm⟩,⟨b',60,(Cn A c A2 c2 A3 c3 A4 c4 A5 c5 r')⟩] [] [] [(Vl false A5 c5 r'.Np),(Vl false A4 c4 r'.Ng),(Vl false A3 c3 r'.Nz.Nk),(Vl false A2 c2 r'.Nz.Nq.Nw),(Vl false A c r'.Nz.Nq.Nx)] w→KK (λw=>Mem ⟨w0,[]⟩ S [⟨b',60,(Cn A c A2 c2 A3 c3 A4 c4 A5 c5 r')⟩] [] [] [] w) 9 (Bt 18 11837) a w:=by
  intro b3 a w V H
  refine hin _ _ _ _ _ (on3 (i:=1) (j:=12) (k:=14) (bi:=(Bt 18 11839)) (bj:=(Bt 18 15933)) (bk:=(Bt 18 28221)) Kk Z Z Z Z Z Z Z Z Z  ?_ ?_ ?_ )
  ·refine (oC V cl88 (uM (S:=TT) (ud (x:=r') (H.rt 4 Z) (H.rt 3 Z) (H.rt 2 Z) (H.rt 1 Z) (H.rt 0 Z)) hy) λv w a hp V=>?_)
   obtain⟨hb,F,hp2,hN⟩:=hp
   obtain⟨A6,c6,F2,A7,c7,F3,A8,c8,F4,A9,c9,F5,A10,c10,F6,rfl,rfl,hl6,hl7,hl8,hl9,hl10⟩:=uJ hp2
   have H:=H.addOwn hb (X:=[(Ow F2 A6 c6 y.Nz.Nq.Nx),(Ow F3 A7 c7 y.Nz.Nq.Nw),(Ow F4 A8 c8 y.Nz.Nk),(Ow F5 A9 c9 y.Ng),(Ow F6 A10 c10 y.Np)]) (by simpa using hN.1) (ps1 hl6 (ps1 hl7 (ps1 hl8 (ps1 hl9 (ps1 hl10 ps0))))) (by simpa using hN.2)
   have H:=((((H.ld 0).ld 1).ld 2).ld 3).ld 4
   have O:=H.lk 4 0 0 []
   refine aS O ?_
   have V:=V.pn [1,2,4,7,16,18,19,20,26]
   have H:=H.lm 7 0 31 10 1023
   exact hout _ _ _ _ _ (kd16 b3 c6 c7 c8 c9 c10 A6 A7 A8 A9 A10 F2 F3 F4 F5 F6 _ _ V H)
  ·refine (uY V H zv60 Z Dd λb4 a w V H=>?_)
   have O:=H.lk 8 0 0 []
   refine aS O ?_
   have H:=(((H.fm 3).fm 3).fm 2).fm 3
   have V:=V.pn [1,2,4,6,7,15,18,19,20,26]
   have H:=H.lm 15 0 0 5 31
   exact hout _ _ _ _ _ (kd18 b3 b4 _ _ V H)
  ·refine (uY V H zv27 Z Dd λb4 a w V H=>?_)
   have O:=H.lk 8 0 0 []
   refine aS O ?_
   have V:=V.pn [1,2,4,7,8,15,18,19,20,26]
   have H:=H.lm 15 0 0 5 31
   exact hout _ _ _ _ _ (kd20 b4 b3 _ _ V H)
 have kd24:∀(b3:Nat) (a:Act) (w:World),Fr a 87 [(1,(Iv id)),(2,(Pv b')),(4,(Pv b2)),(8,(Pv b3)),(15,(Cq A c A2 c2 A3 c3 A4 c4 A5 c5 r')),(18,(Sc A4 c4 r'.Ng)),(19,(Cq A c A2 c2 A3 c3 A4 c4 A5 c5 r')),(20,(Iv id)),(26,(Cu A c A2 c2 r'.Nz.Nq))]→Mem ⟨w0,[]⟩ S [⟨b3,27,Cb⟩,⟨b2,60,Cm⟩,⟨b',60,(Cn A c A2 c2 A3 c3 A4 c4 A5 c5 r')⟩] [] [] [(Vl false A5 c5 r'.Np),(Vl false A4 c4 r'.Ng),(Vl false A3 c3 r'.Nz.Nk),(Vl false A2 c2 r'.Nz.Nq.Nw),(Vl false A c r'.Nz.Nq.Nx)] w→KK (λw=>Mem ⟨w0,[]⟩ S [⟨b',60,(Cn A c A2 c2 A3 c3 A4 c4 A5 c5 r')⟩] [] [] [] w) 9 (Bt 18 20029) a w:=by
  intro b3 a w V H
  refine hin _ _ _ _ _ (on3 (i:=1) (j:=12) (k:=13) (bi:=(Bt 18 20031)) (bj:=(Bt 18 24125)) (bk:=(Bt 18 28221)) Kk Z Z Z Z Z Z Z Z Z  ?_ ?_ ?_ )
  ·refine (oC V cl88 (uM (S:=TT) (ud (x:=r') (H.rt 4 Z) (H.rt 3 Z) (H.rt 2 Z) (H.rt 1 Z) (H.rt 0 Z)) hy) λv w a hp V=>?_)
   obtain⟨hb,F,hp2,hN⟩:=hp
   obtain⟨A6,c6,F2,A7,c7,F3,A8,c8,F4,A9,c9,F5,A10,c10,F6,rfl,rfl,hl6,hl7,hl8,hl9,hl10⟩:=uJ hp2
   have H:=H.addOwn hb (X:=[(Ow F2 A6 c6 y.Nz.Nq.Nx),(Ow F3 A7 c7 y.Nz.Nq.Nw),(Ow F4 A8 c8 y.Nz.Nk),(Ow F5 A9 c9 y.Ng),(Ow F6 A10 c10 y.Np)]) (by simpa using hN.1) (ps1 hl6 (ps1 hl7 (ps1 hl8 (ps1 hl9 (ps1 hl10 ps0))))) (by simpa using hN.2)
   have H:=((((H.ld 0).ld 1).ld 2).ld 3).ld 4
   have O:=H.lk 4 0 0 []
   refine aS O ?_
   have V:=V.pn [1,2,4,8,16,18,19,20,26]
   have H:=H.lm 7 0 31 10 1023
   exact hout _ _ _ _ _ (kd17 b3 c6 c7 c8 c9 c10 A6 A7 A8 A9 A10 F2 F3 F4 F5 F6 _ _ V H)
  ·refine (uY V H zv60 Z Dd λb4 a w V H=>?_)
   have O:=H.lk 8 0 0 []
   refine aS O ?_
   have H:=(((H.fm 3).fm 3).fm 2).fm 3
   have V:=V.pn [1,2,4,6,8,15,18,19,20,26]
   have H:=H.lm 15 0 0 5 31
   exact hout _ _ _ _ _ (kd19 b3 b4 _ _ V H)
  ·refine (uY V H zv49 Z Dd λb4 a w V H=>?_)
   have O:=H.lk 8 0 0 []
   refine aS O ?_
   have H:=(((H.fm 3).fm 3).fm 2).fm 3
   have V:=V.pn [1,2,4,7,8,15,18,19,20,26]
   have H:=H.lm 15 0 0 5 31
   exact hout _ _ _ _ _ (kd20 b3 b4 _ _ V H)
 have kd25:∀(a:Act) (w:World),Fr a 87 [(1,(Iv id)),(2,(Pv b')),(4,(Pv b2)),(15,(Cq A c A2 c2 A3 c3 A4 c4 A5 c5 r')),(18,(Sc A4 c4 r'.Ng)),(19,(Cq A c A2 c2 A3 c3 A4 c4 A5 c5 r')),(20,(Iv id)),(26,(Cu A c A2 c2 r'.Nz.Nq))]→Mem ⟨w0,[]⟩ S [⟨b2,60,Cm⟩,⟨b',60,(Cn A c A2 c2 A3 c3 A4 c4 A5 c5 r')⟩] [] [] [(Vl false A5 c5 r'.Np),(Vl false A4 c4 r'.Ng),(Vl false A3 c3 r'.Nz.Nk),(Vl false A2 c2 r'.Nz.Nq.Nw),(Vl false A c r'.Nz.Nq.Nx)] w→KK (λw=>Mem ⟨w0,[]⟩ S [⟨b',60,(Cn A c A2 c2 A3 c3 A4 c4 A5 c5 r')⟩] [] [] [] w) 10 (Bt 18 3645) a w:=by
  intro a w V H
  refine hin _ _ _ _ _ (on4 (i:=1) (j:=12) (k:=13) (m:=14) (bi:=(Bt 18 3647)) (bj:=(Bt 18 7741)) (bk:=(Bt 18 11837)) (bm:=(Bt 18 20029)) Kk Z Z Z Z Z Z Z Z Z Z Z Z  ?_ ?_ ?_ ?_ )
  ·refine (oC V cl88 (uM (S:=TT) (ud (x:=r') (H.rt 4 Z) (H.rt 3 Z) (H.rt 2 Z) (H.rt 1 Z) (H.rt 0 Z)) hy) λv w a hp V=>?_)
   obtain⟨hb,F,hp2,hN⟩:=hp
   obtain⟨A6,c6,F2,A7,c7,F3,A8,c8,F4,A9,c9,F5,A10,c10,F6,rfl,rfl,hl6,hl7,hl8,hl9,hl10⟩:=uJ hp2
   have H:=H.addOwn hb (X:=[(Ow F2 A6 c6 y.Nz.Nq.Nx),(Ow F3 A7 c7 y.Nz.Nq.Nw),(Ow F4 A8 c8 y.Nz.Nk),(Ow F5 A9 c9 y.Ng),(Ow F6 A10 c10 y.Np)]) (by simpa using hN.1) (ps1 hl6 (ps1 hl7 (ps1 hl8 (ps1 hl9 (ps1 hl10 ps0))))) (by simpa using hN.2)
   have H:=((((H.ld 0).ld 1).ld 2).ld 3).ld 4
   have O:=H.lk 2 0 0 []
   refine aS O ?_
   have V:=V.pn [1,2,4,16,18,19,20,26]
   have H:=H.lm 3 0 31 10 1023
   exact hout _ _ _ _ _ (kd21 A6 A7 A8 A9 A10 c6 c7 c8 c9 c10 F2 F3 F4 F5 F6 _ _ V H)
  ·refine (uY V H zv60 Z Dd λb3 a w V H=>?_)
   have O:=H.lk 4 0 0 []
   refine aS O ?_
   have V:=V.pn [1,2,4,6,15,18,19,20,26]
   have H:=H.lm 7 0 0 5 31
   exact hout _ _ _ _ _ (kd22 b3 _ _ V H)
  ·refine (uY V H zv49 Z Dd λb3 a w V H=>?_)
   have O:=H.lk 4 0 0 []
   refine aS O ?_
   have V:=V.pn [1,2,4,7,15,18,19,20,26]
   have H:=H.lm 7 0 0 5 31
   exact hout _ _ _ _ _ (kd23 b3 _ _ V H)
  ·refine (uY V H zv27 Z Dd λb3 a w V H=>?_)
   have O:=H.lk 4 0 0 []
   refine aS O ?_
   have V:=V.pn [1,2,4,8,15,18,19,20,26]
   have H:=H.lm 7 0 0 5 31
   exact hout _ _ _ _ _ (kd24 b3 _ _ V H)
 have V:=V.pn [1,2,4,15,18,19,20,26];have H:=H.lm 3 0 0 5 31;exact kd25 _ _ V H;rintro a w ⟨b5,b4,A11,c11,b3,A6,c6,F2,A7,c7,F3,A8,c8,F4,A9,c9,F5,A10,c10,F6,V,H⟩;refine ua (sq (sq (reg (lN 4 V H la60 λa V=>?_))));refine lN 1 V H la49 λa V=>?_;obtain⟨y3,hy3,W⟩:=bs_ W;refine oc V cl91 (gG (S:=TT) (ud (x:=r') (H.rt 10 Z) (H.rt 9 Z) (H.rt 8 Z) (H.rt 7 Z) (H.rt 6 Z)) (vo (x:=e) (H.rt 0 Z)) hy3) λv3 w a hp4 V=>?_;obtain⟨hb3,hp4⟩:=hp4;cases ul hp4
 have H:=H.kp hb3;refine ob (ib W V (λhc W=>?_) λhc W=>?_);refine sqz (pz 1 V λa V=>?_);refine lN 4 V H la30 λa V=>?_;refine lN 1 V H la49 λa V=>?_;obtain⟨y4,hy4,W⟩:=bs_ W;refine oc V Bv (eP (S:=TT) (vq (x:=r'.Nz) (H.rt 10 Z) (H.rt 9 Z) (H.rt 8 Z)) (vo (x:=e) (H.rt 0 Z)) hy4) λv4 w a hp5 V=>?_;obtain⟨hb4,F7,hp6,hN2⟩:=hp5;obtain⟨A12,c12,F8,A13,c13,F9,A14,c14,F10,rfl,rfl,hl12,hl13,hl14⟩:=eC hp6;have H:=H.aO3 hb4 (by first | exact hN2 | simpa using hN2) hl12 hl13 hl14
 have H:=((H.ld 0).ld 1).ld 2;refine pz 1 V λa V=>?_;refine sB 2 V H sz30 λw H=>?_;refine wr (lN 2 V H la60 λa V=>?_);refine sB 3 V H sz60 λw H=>?_;refine pz 1 V λa V=>?_;have V:=V.pn [4,5];refine ob (wp_ret (uf (?_)));have H:=((((H.fd 7).fd 7).fd 4).fd 4).fd 4;obtain rfl:=oi W;refine aC V Z (uy V H 3 la60 Z Z Z) (uL V Z) ?_;have hN:=H.ends (X:=[(Ow F8 A12 c12 y4.Nq.Nx),(Ow F9 A13 c13 y4.Nq.Nw),(Ow F10 A14 c14 y4.Nk),(Ow F5 A9 c9 y.Ng),(Ow F6 A10 c10 y.Np)]);simp only[Ef,Ex,D1,DD]at hN;exact⟨_,Z,H.bel,(F8++(F9++(F10++(F5++F6)))),_,_,Z,⟨_,uR (x:=({ Nz:=y4,Ng:=y.Ng,Np:=y.Np }:Nj)) (H.ownAt 0 Z) (H.ownAt 1 Z) (H.ownAt 2 Z) (H.ownAt 3 Z) (H.ownAt 4 Z),Z⟩,um,by first | exact hN | simpa using hN⟩
 refine kr (ua (sq (dw [] 14 λw hb=>?_)));have H:=H.kp hb;refine sU 1 0 0 [] H λO=>?_;refine zSN 0 [] V O la27 0 λa V=>?_;refine zq [1,2] V O λa V=>?_;refine sT 3 0 0 [] 1 0 0 [] H λO=>?_;refine zSB 3 [] V O ls3 1 λa V=>?_;refine zSN 4 [] V O la27 0 λa V=>?_;refine zp 5 V O λa V=>?_;refine zSN 6 [] V O la45 1 λa V=>?_;obtain⟨y5,hy5,W⟩:=bs_ W;refine nn 7 Z (oC V cl97 (fi (S:=TT) (uE (x:=r'.Nz.Nq) (H.rt 10 Z) (H.rt 9 Z)) (uK (x:=e.Nv) (H.rt 0 Z)) hy5) λv5 w a hp7 V=>?_);obtain⟨hb5,hp7⟩:=hp7;cases ui hp7
 have H:=H.kp hb5;have O:=H.lk 3 0 0 [];refine aS O ?_;obtain⟨y6,hy6,W⟩:=bs_ W;refine nn 8 Z (oC V CY (i6 (S:=TT) (uE (x:=r'.Nz.Nq) (H.rt 10 Z) (H.rt 9 Z)) uc uc hy6) λv6 w a hp8 V=>?_);obtain⟨hb6,F11,v7,v8,rfl,hp9,hp10,hN3⟩:=hp8;obtain⟨A15,c15,rfl,hl15⟩:=uT hp9;cases ul hp10
 have H:=H.aO1 hb6 hN3 hl15;have H:=H.ld 0;have O:=H.lk 3 0 0 [];refine aS O ?_;refine zq [9,10,11,12,13] V O λa V=>?_;refine dk ?_;have V:=V.pn [1,2,4,6,7,9,10];refine ua (sq (sqz (pz 2 V λa V=>?_)));refine ob (ib W V (λhc2 W=>?_) λhc2 W=>?_);refine sq (reg (lN 2 V H la60 λa V=>?_));refine sB 3 V H sz60 λw H=>?_;refine pz 1 V λa V=>?_;refine ob (wp_ret (uf (?_)));have H:=((((H.fd 5).fd 5).fd 5).fd 5).fd 5;obtain rfl:=oi W;refine aC V Z (uy V H 3 la60 Z Z Z) (uL V Z) ?_;have hN:=H.ends (X:=[(Ow F2 A6 c6 y.Nz.Nq.Nx),(Ow F3 A7 c7 y.Nz.Nq.Nw),(Ow F4 A8 c8 y.Nz.Nk),(Ow F5 A9 c9 y.Ng),(Ow F6 A10 c10 y.Np)]);simp only[Ef,Ex,D1,DD]at hN;exact⟨_,Z,H.bel,(F2++(F3++(F4++(F5++F6)))),_,_,Z,⟨_,uR (x:=y) (H.ownAt 0 Z) (H.ownAt 1 Z) (H.ownAt 2 Z) (H.ownAt 3 Z) (H.ownAt 4 Z),Z⟩,um,by first | exact hN | simpa using hN⟩
 refine kr (ua (sq (sqz (pz 3 V λa V=>?_))));refine ub (ua ?_);obtain⟨out',hB1,W⟩:=bs_ W;have V:=V.pn [1,2,4,6,7,51,52,53];have H:=H.lm 30 0 63 12 4095;refine vW (λ(s:Int) (a:Act) (w:World)=>match s with | i=>Fr a 87 [(1,(Iv id)),(2,(Pv b')),(4,(Pv b2)),(6,(Pv b3)),(7,(Pv b4)),(51,(Sc A15 c15 y6.1)),(52,(Iv (y6.1.length:Int))),(53,(Iv i))]∧Mem ⟨w0,[]⟩ S [⟨b4,49,(Ci A11 c11 e)⟩,⟨b3,60,(Cn A6 c6 A7 c7 A8 c8 A9 c9 A10 c10 y)⟩,⟨b2,60,Cm⟩,⟨b',60,(Cn A c A2 c2 A3 c3 A4 c4 A5 c5 r')⟩] [] [(Ow F11 A15 c15 y6.1),(Ow F2 A6 c6 y.Nz.Nq.Nx),(Ow F3 A7 c7 y.Nz.Nq.Nw),(Ow F4 A8 c8 y.Nz.Nk),(Ow F5 A9 c9 y.Ng),(Ow F6 A10 c10 y.Np)] [(Vl true A15 c15 y6.1),(Vl false A11 c11 e.Nv.Nw),(Vl true A10 c10 y.Np),(Vl true A9 c9 y.Ng),(Vl true A8 c8 y.Nz.Nk),(Vl true A7 c7 y.Nz.Nq.Nw),(Vl true A6 c6 y.Nz.Nq.Nx),(Vl false A5 c5 r'.Np),(Vl false A4 c4 r'.Ng),(Vl false A3 c3 r'.Nz.Nk),(Vl false A2 c2 r'.Nz.Nq.Nw),(Vl false A c r'.Nz.Nq.Nx)] w) (λk (s:Int)=>x4 fu r' id y e y6 k s=some out') (λs=>out'=Out.next s) 0 fu hB1 ⟨V,H⟩ (λs h=>by cases h) ?_ ?_
 rintro fk i a w J hI;replace J:x4 fu r' id y e y6 (fk + 1) i=some out':=J;rw[x4]at J;obtain⟨V,H⟩:=hI;refine sqz (pz 1 V λa V=>?_);refine ob (sq (ib J V (λhc3 J=>?_) λhc3 J=>?_));refine kr (ua (sq (kb (sq (reg ?_)))));obtain⟨e2,he2,J⟩:=bs_ J;refine wl0 Z (uH V H y230 sz45 0 Z Z Z he2 Dd λp2 o2 cs2 a V hr2 H=>?_);obtain⟨A16,c16,rfl,hl16⟩:=bZ hr2;have H:=H.pT hl16;refine lJ_ 1 0 V H la45 λa V=>?_;refine aL V H zv45 λb6 a w V H=>?_;refine sB 0 V H sz45 λw H=>?_;refine we (sqz (pz 1 V λa V=>?_));refine lB 0 V H ls35 λa V=>?_;refine pz 1 V λa V=>?_;refine lB 4 V H ls35 λa V=>?_;obtain⟨y7,hy7,J⟩:=bs_ J;refine oc V cl96 (bQ (S:=TT) (uk (H.rt 0 Z)) (uk (H.rt 9 Z)) hy7) λv9 w a hp11 V=>?_;obtain⟨hb7,F13,hp12,hN4⟩:=hp11;obtain⟨A17,c17,rfl,hl17⟩:=uT hp12;have H:=H.aO1 hb7 hN4 hl17;have H:=H.ld 0;refine pz 2 V λa V=>?_;refine ob (ib J V (λhc4 J=>?_) λhc4 J=>?_);refine kx (cH (kq (?_)));refine ua (reg (pz 2 V λa V=>?_));refine ub ?_;have V:=V.pn [1,2,4,6,7,51,52,53];have H:=H.lm 30 0 126 15 32760;exact ua ⟨w64 (i + 1),J,V,H⟩;refine kr (ua (sq ?_));obtain⟨y8,hy8,J⟩:=bs_ J;obtain⟨y9,hy9,J⟩:=bs_ J;refine mid (λa w=>∃(b7:Nat),Fr a 87 [(1,(Iv id)),(2,(Pv b')),(4,(Pv b2)),(6,(Pv b3)),(7,(Pv b4)),(12,(Pv b6)),(13,(Pv b7)),(14,(.bool y9.2)),(51,(Sc A15 c15 y6.1)),(52,(Iv (y6.1.length:Int))),(53,(Iv i))]∧Mem ⟨w0,[]⟩ S [⟨b7,47,(Cv y9.1)⟩,⟨b6,45,(Cg A16 c16 e2)⟩,⟨b4,49,(Ci A11 c11 e)⟩,⟨b3,60,(Cn A6 c6 A7 c7 A8 c8 A9 c9 A10 c10 y)⟩,⟨b2,60,Cm⟩,⟨b',60,(Cn A c A2 c2 A3 c3 A4 c4 A5 c5 r')⟩] [] [(Ow F11 A15 c15 y6.1),(Ow F2 A6 c6 y.Nz.Nq.Nx),(Ow F3 A7 c7 y.Nz.Nq.Nw),(Ow F4 A8 c8 y.Nz.Nk),(Ow F5 A9 c9 y.Ng),(Ow F6 A10 c10 y.Np)] [(Vl true A16 c16 e2.Nw),(Vl true A15 c15 y6.1),(Vl false A11 c11 e.Nv.Nw),(Vl true A10 c10 y.Np),(Vl true A9 c9 y.Ng),(Vl true A8 c8 y.Nz.Nk),(Vl true A7 c7 y.Nz.Nq.Nw),(Vl true A6 c6 y.Nz.Nq.Nx),(Vl false A5 c5 r'.Np),(Vl false A4 c4 r'.Ng),(Vl false A3 c3 r'.Nz.Nk),(Vl false A2 c2 r'.Nz.Nq.Nw),(Vl false A c r'.Nz.Nq.Nx)] w) ?_ ?_;refine dw [12] 14 λw hb=>?_;have H:=H.kp hb;refine zp 0 V kt λa V=>?_;refine sU 16 0 0 [] H λO=>?_;refine zSN 1 [1,3,7,8,9,10,12,13] V O la30 0 λa V=>?_;refine sT 17 0 0 [] 2 0 0 [] H λO=>?_;refine zSN 2 [2,3,7,8,9,10,12,13] V O la45 0 λa V=>?_;refine zq [4,5] V O λa V=>?_;refine sT 19 0 0 [] 5 0 0 [] H λO=>?_;refine zSB 6 [6,7,8,9,10,12,13] V O ls3 1 λa V=>?_;refine on2 (i:=3) (j:=11) (bi:=(Bt 14 127)) (bj:=(Bt 14 2167)) Kk Z Z Z Z Z Z ?_ ?_;refine (oC V Bu (eS (S:=TT) (vq (x:=r'.Nz) (H.rt 14 Z) (H.rt 13 Z) (H.rt 12 Z)) (uK (x:=e2) (H.rt 1 Z)) hy8) λv10 w a hp13 V=>?_)
 obtain⟨hb8,hp13⟩:=hp13;cases ui hp13
 have H:=H.kp hb8;have O:=H.lk 19 0 0 [];refine aS O ?_;refine on2 (i:=7) (j:=11) (bi:=(Bt 14 255)) (bj:=(Bt 14 2175)) Kk Z Z Z Z Z Z ?_ ?_;refine (oC V Ap (dy (S:=TT) uc uc hy9) λv11 w a hp14 V=>?_);obtain⟨hb9,v12,v13,rfl,hp15,hp16⟩:=hp14;cases cn hp15
 cases ul hp16;have H:=H.kp hb9;have O:=H.lk 19 0 0 [];refine aS O ?_;refine zq [8,9,10] V O λa V=>?_;refine nn 11 Z (uY V H zv47 Z Dd λb7 a w V H=>?_);have O:=H.lk 38 0 0 [];refine aS O ?_;refine nSB 12 V H 0 sz47 λw H=>?_;refine aN ?_;refine tp 13 Z Z V Kk (λh=>absurd h Dd) Z λa V=>?_;refine dk ?_;have V:=V.pn [1,2,4,6,7,12,13,14,51,52,53];have H:=H.lm 63 0 126 15 32762;exact⟨b7,V,H⟩;refine (uY V H zv47 Z Dd λb7 a w V H=>?_);have O:=H.lk 38 0 0 [];refine aS O ?_;refine nn 7 Z (oC V Ap (dy (S:=TT) uc uc hy9) λv11 w a hp14 V=>?_);obtain⟨hb9,v12,v13,rfl,hp15,hp16⟩:=hp14;cases cn hp15;cases ul hp16;have H:=H.kp hb9;have O:=H.lk 38 0 0 [];refine aS O ?_;refine zq [8,9,10] V O λa V=>?_;refine nSB 12 V H 0 sz47 λw H=>?_;refine aN ?_;refine tp 13 Z Z V Kk (λh=>absurd h Dd) Z λa V=>?_;refine dk ?_;have V:=V.pn [1,2,4,6,7,12,13,14,51,52,53];have H:=H.lm 63 0 126 15 32762;exact⟨b7,V,H⟩;refine (uY V H zv47 Z Dd λb7 a w V H=>?_);have O:=H.lk 38 0 0 [];refine aS O ?_;refine nn 3 Z (oC V Bu (eS (S:=TT) (vq (x:=r'.Nz) (H.rt 14 Z) (H.rt 13 Z) (H.rt 12 Z)) (uK (x:=e2) (H.rt 1 Z)) hy8) λv10 w a hp13 V=>?_);obtain⟨hb8,hp13⟩:=hp13;cases ui hp13;have H:=H.kp hb8;have O:=H.lk 38 0 0 [];refine aS O ?_;refine nn 7 Z (oC V Ap (dy (S:=TT) uc uc hy9) λv11 w a hp14 V=>?_);obtain⟨hb9,v12,v13,rfl,hp15,hp16⟩:=hp14;cases cn hp15;cases ul hp16;have H:=H.kp hb9;have O:=H.lk 38 0 0 [];refine aS O ?_;refine zq [8,9,10] V O λa V=>?_;refine nSB 12 V H 0 sz47 λw H=>?_;refine aN ?_;refine tp 13 Z Z V Kk (λh=>absurd h Dd) Z λa V=>?_;refine dk ?_;have V:=V.pn [1,2,4,6,7,12,13,14,51,52,53];have H:=H.lm 63 0 126 15 32762;exact⟨b7,V,H⟩;rintro a w ⟨b7,V,H⟩;refine ua (sqz (pz 1 V λa V=>?_));refine ob (ib J V (λhc5 J=>?_) λhc5 J=>?_);refine sqz (pz 1 V λa V=>?_);refine lN 5 V H la30 λa V=>?_;refine pz 1 V λa V=>?_;refine lN 1 V H la45 λa V=>?_;refine lN 0 V H la47 λa V=>?_;refine oq V (uA V (cs:=[(Iv id),(Iv e2.Pq),(Sc A16 c16 e2.Nw),(Iv y9.1.Pj),(Iv y9.1.Px)]) Z (λw=>by kernel_rfl)) λa V=>?_;obtain⟨y10,hy10,J⟩:=bs_ J;refine oc V Bv (eP (S:=TT) (vq (x:=r'.Nz) (H.rt 12 Z) (H.rt 11 Z) (H.rt 10 Z)) (vo (x:=({ Id:=id,Nv:=e2,Nd:=y9.1 }:Nh)) (H.rt 0 Z)) hy10) λv14 w a hp17 V=>?_;obtain⟨hb10,F15,hp18,hN5⟩:=hp17;obtain⟨A18,c18,F16,A19,c19,F17,A20,c20,F18,rfl,rfl,hl18,hl19,hl20⟩:=eC hp18;have H:=H.aO3 hb10 (by first | exact hN5 | simpa using hN5) hl18 hl19 hl20
 have H:=((H.ld 0).ld 1).ld 2;refine pz 1 V λa V=>?_;refine sB 3 V H sz30 λw H=>?_;have V:=V.pn [4,6];refine wr (lN 3 V H la60 λa V=>?_);refine sB 4 V H sz60 λw H=>?_;refine pz 1 V λa V=>?_;refine ob (wp_ret (vh (uf (uf (vh (uf (uf (?_))))))));have H:=((((H.fd 8).fd 8).fd 4).fd 4).fd 4;obtain rfl:=oi J;replace W:=xG W;obtain rfl:=oi W;refine aC V Z (uy V H 4 la60 Z Z Z) (uL V Z) ?_;have hN:=H.ends (X:=[(Ow F16 A18 c18 y10.Nq.Nx),(Ow F17 A19 c19 y10.Nq.Nw),(Ow F18 A20 c20 y10.Nk),(Ow F5 A9 c9 y.Ng),(Ow F6 A10 c10 y.Np)]);simp only[Ef,Ex,D1,DD]at hN;exact⟨_,Z,H.bel,(F16++(F17++(F18++(F5++F6)))),_,_,Z,⟨_,uR (x:=({ Nz:=y10,Ng:=y.Ng,Np:=y.Np }:Nj)) (H.ownAt 0 Z) (H.ownAt 1 Z) (H.ownAt 2 Z) (H.ownAt 3 Z) (H.ownAt 4 Z),Z⟩,um,by first | exact hN | simpa using hN⟩
 refine kr (uP (ua (reg (pz 2 V λa V=>?_))));refine ub ?_;have V:=V.pn [1,2,4,6,7,51,52,53];have H:=H.lm 60 0 63 13 8190;exact ua ⟨w64 (i + 1),J,V,H⟩;refine xb ?_;have V:=V.pn [1,2,4,6,7,51,52,53];have H:=H.lm 15 0 63 12 4095;exact⟨i,(Dz J).symm,V,H⟩;rintro a w ⟨i2,rfl,V,H⟩;replace W:=xk W;refine ua (sq (reg (lN 1 V H la60 λa V=>?_)));refine sB 2 V H sz60 λw H=>?_;refine pz 1 V λa V=>?_;refine wer ?_;have H:=((((H.fd 5).fd 5).fd 5).fd 5).fd 5;obtain rfl:=oi W;refine aC V Z (uy V H 2 la60 Z Z Z) (uL V Z) ?_;have hN:=H.ends (X:=[(Ow F2 A6 c6 y.Nz.Nq.Nx),(Ow F3 A7 c7 y.Nz.Nq.Nw),(Ow F4 A8 c8 y.Nz.Nk),(Ow F5 A9 c9 y.Ng),(Ow F6 A10 c10 y.Np)]);simp only[Ef,Ex,D1,DD]at hN;exact⟨_,Z,H.bel,(F2++(F3++(F4++(F5++F6)))),_,_,Z,⟨_,uR (x:=y) (H.ownAt 0 Z) (H.ownAt 1 Z) (H.ownAt 2 Z) (H.ownAt 3 Z) (H.ownAt 4 Z),Z⟩,um,by first | exact hN | simpa using hN⟩
theorem eo {r:Nj×List Int×Bool} (h0:VR w0 S v0_ r') (W:zn fu r'=some r) :
    CA 48 [v0_] w0 λv w'=>(Below w0.heap.size w0 w'∧∃F0 F1,∃u0 u1 u2,v=.tuple #[u0,u1,u2]∧VO w' F0 u0 r.1∧VO w' F1 u1 r.2.1∧VX w0 w' S u2 r.2.2∧New w0 w' (F0++F1)):=by
 obtain⟨A,c,A2,c2,A3,c3,A4,c4,A5,c5,rfl,hl,hl2,hl3,hl4,hl5⟩:=uF h0;have H:=(((((Ms w0 S).pA hl).pA hl2).pA hl3).pA hl4).pA hl5;refine en func48 λa V=>?_;rw[zn]at W;refine bx V H λb' a w V H=>?_;refine aL V H zv60 λb2 a w V H=>?_;refine pz 2 V λa V=>?_;refine ob (sq (sq (reg (lN 1 V H la60 λa V=>?_))));obtain⟨y,hy,W⟩:=bs_ W;refine oc V cl25 (x6 (S:=TT) (ud (x:=r') (H.rt 4 Z) (H.rt 3 Z) (H.rt 2 Z) (H.rt 1 Z) (H.rt 0 Z)) hy) λv w a hp V=>?_;obtain⟨hb,hp⟩:=hp;cases ul hp
 have H:=H.kp hb;refine pz 1 V λa V=>?_;refine ob (ib W V (λhc W=>?_) λhc W=>?_);refine sq (reg (oq V (uA V (cs:=Cm) Z (λw=>by kernel_rfl)) λa V=>?_));refine sB 0 V H sz60 λw H=>?_;refine pz 2 V λa V=>?_;refine ob (wp_ret (uf (?_)));have H:=H.ownNil (ByteArray);have H:=H.ld 0;have H:=H.ownNil (Nt);have H:=H.ld 0;have H:=H.ownNil (Nh);have H:=H.ld 0;have H:=H.ownNil (Nh);have H:=H.ld 0;have H:=H.ownNil (Int);have H:=H.ld 0;have H:=H.ownNil (Int);have H:=(((((H.ld 0).fd 1).fd 2).fd 3).fd 4).fd 5;obtain rfl:=oi W;refine js V Z (uy V H 0 la60 Z Z Z) (uL V Z) (uL V Z) ?_;have hN:=H.ends (X:=[(⟨[],MP.own [] [(.slice none 0 0)] ([]:List ByteArray)⟩:DI),(⟨[],MP.own [] [(.slice none 0 0)] ([]:List Nt)⟩:DI),(⟨[],MP.own [] [(.slice none 0 0)] ([]:List Nh)⟩:DI),(⟨[],MP.own [] [(.slice none 0 0)] ([]:List Nh)⟩:DI),(⟨[],MP.own [] [(.slice none 0 0)] ([]:List Int)⟩:DI),(⟨[],MP.own [] [(.slice none 0 0)] ([]:List Int)⟩:DI)]);simp only[Ef,Ex,D1,DD]at hN;exact⟨_,Z,H.bel,([]++([]++([]++([]++[])))),[],_,_,_,Z,⟨_,uR (x:=({ Nz:=({ Nq:=({ Nx:=[],Nw:=[] }:Nq),Nk:=[] }:Nz),Ng:=[],Np:=[] }:Nj)) (H.ownAt 0 Z) (H.ownAt 1 Z) (H.ownAt 2 Z) (H.ownAt 3 Z) (H.ownAt 4 Z),Z⟩,(vp (H.ownAt 5 Z)),um,by first | exact hN | simpa using hN⟩
 refine kr (ua (sq (reg (lN 1 V H la60 λa V=>?_))));obtain⟨y2,hy2,W⟩:=bs_ W;refine oc V cl88 (uM (S:=TT) (ud (x:=r') (H.rt 4 Z) (H.rt 3 Z) (H.rt 2 Z) (H.rt 1 Z) (H.rt 0 Z)) hy2) λv2 w a hp2 V=>?_;obtain⟨hb2,F,hp3,hN⟩:=hp2;obtain⟨A6,c6,F2,A7,c7,F3,A8,c8,F4,A9,c9,F5,A10,c10,F6,rfl,rfl,hl6,hl7,hl8,hl9,hl10⟩:=uJ hp3;have H:=H.addOwn hb2 (X:=[(Ow F2 A6 c6 y2.Nz.Nq.Nx),(Ow F3 A7 c7 y2.Nz.Nq.Nw),(Ow F4 A8 c8 y2.Nz.Nk),(Ow F5 A9 c9 y2.Ng),(Ow F6 A10 c10 y2.Np)]) (by simpa using hN.1) (ps1 hl6 (ps1 hl7 (ps1 hl8 (ps1 hl9 (ps1 hl10 ps0))))) (by simpa using hN.2);have H:=((((H.ld 0).ld 1).ld 2).ld 3).ld 4;refine wl0 Z (bl V H 3 ([]:List Int) [] el0 λA11 a w V H=>?_);refine aL V H zv60 λb3 a w V H=>?_;refine sB 0 V H sz60 λw H=>?_;refine pz 1 V λa V=>?_;refine ob (sq (sq (reg (lN 2 V H la60 λa V=>?_))));obtain⟨y3,hy3,W⟩:=bs_ W;refine oc V wa (cA (S:=TT) (ud (x:=r') (H.rt 9 Z) (H.rt 8 Z) (H.rt 7 Z) (H.rt 6 Z) (H.rt 5 Z)) hy3) λv3 w a hp4 V=>?_;obtain⟨hb3,F7,hp5,hN2⟩:=hp4;obtain⟨A12,c11,rfl,hl11⟩:=uT hp5;obtain⟨Fs,E,H⟩:=H.addRow hb3 hl11 hN2;have H:=H.sh 0;refine pz 2 V λa V=>?_;refine ub (ua ?_);obtain⟨out',hB1,W⟩:=bs_ W;have V:=V.pn [2,5,6,19,20,21];have H:=((((H.fr 1).fd 1).fd 2).fd 3).fd 4;have H:=H.lm 3 3 31 5 31;refine vW (λ(s:List Int×Int×List ByteArray×List Nt×List Nh×List Nh×List Int) (a:Act) (w:World)=>match s with | (ids,i,m,m2,m3,m4,m5)=>∃(A13:OA) (c12:Nat) (E2:Go.TypeId) (A14:OA) (c13:Nat) (F9:LN) (A15:OA) (c14:Nat) (F10:LN) (A16:OA) (c15:Nat) (F11:LN) (A17:OA) (c16:Nat) (F12:LN) (A18:OA) (c17:Nat) (F13:LN),Fr a 40 [(2,(Pv b2)),(5,(Pv b3)),(6,(Sc A13 c12 ids)),(19,(Sc A12 c11 y3)),(20,(Iv (y3.length:Int))),(21,(Iv i))]∧Mem ⟨w0,[]⟩ S [⟨b3,60,[(Sc A14 c13 m),(Sc A15 c14 m2),(Sc A16 c15 m3),(Sc A17 c16 m4),(Sc A18 c17 m5)]⟩,⟨b2,60,Cm⟩] [⟨.sh true,E2,A13,c12,(ids:List Int)⟩,⟨.sh true,E,A12,c11,(y3:List Int)⟩] [(Ow F13 A18 c17 m5),(Ow F12 A17 c16 m4),(Ow F11 A16 c15 m3),(Ow F10 A15 c14 m2),(Ow F9 A14 c13 m)] [(Vl true A18 c17 m5),(Vl true A17 c16 m4),(Vl true A16 c15 m3),(Vl true A15 c14 m2),(Vl true A14 c13 m)] w) (λk (s:List Int×Int×List ByteArray×List Nt×List Nh×List Nh×List Int)=>xz fu y3 k s.1 s.2.1 s.2.2.1 s.2.2.2.1 s.2.2.2.2.1 s.2.2.2.2.2.1 s.2.2.2.2.2.2=some out') (λs=>out'=s) (([]:List Int),0,y2.Nz.Nq.Nx,y2.Nz.Nq.Nw,y2.Nz.Nk,y2.Ng,y2.Np) fu hB1 ⟨A11,0,3,A6,c6,F2,A7,c7,F3,A8,c8,F4,A9,c9,F5,A10,c10,F6,V,H⟩ (λs h=>by cases h) ?_ ?_
 rintro fk ⟨ids,i,m,m2,m3,m4,m5⟩ a w J hI;replace J:xz fu y3 (fk + 1) ids i m m2 m3 m4 m5=some out':=J;rw[xz]at J;obtain⟨A13,c12,E2,A14,c13,F9,A15,c14,F10,A16,c15,F11,A17,c16,F12,A18,c17,F13,V,H⟩:=hI;refine sqz (pz 1 V λa V=>?_);refine ob (sq (ib J V (λhc2 J=>?_) λhc2 J=>?_));refine kr (ua (sq (kb (sq (reg ?_)))));obtain⟨e,he,J⟩:=bs_ J;refine wl0 Z (vV V H y35 sz3 1 Z Z Z he Dd λp o cs a V hA hr hk=>?_);obtain rfl:=hr;refine oq V (eZ V ls3 Z (hk 0 _ Z)) λa V=>?_;refine pz 1 V λa V=>?_;refine wr (lN 0 V H la60 λa V=>?_);refine pz 1 V λa V=>?_;obtain⟨y4,hy4,J⟩:=bs_ J;refine oc V Dm (ju (S:=TT) (ud (x:=({ Nz:=({ Nq:=({ Nx:=m,Nw:=m2 }:Nq),Nk:=m3 }:Nz),Ng:=m4,Np:=m5 }:Nj)) (H.rt 4 Z) (H.rt 3 Z) (H.rt 2 Z) (H.rt 1 Z) (H.rt 0 Z)) uc hy4) λv4 w a hp6 V=>?_;obtain⟨hb4,F14,v5,v6,rfl,hp7,hp8,hN3⟩:=hp6;obtain⟨A19,c18,F15,A20,c19,F16,A21,c20,F17,A22,c21,F18,A23,c22,F19,rfl,rfl,hl12,hl13,hl14,hl15,hl16⟩:=uJ hp7;cases ul hp8
 have H:=H.addOwn hb4 (X:=[(Ow F15 A19 c18 y4.1.Nz.Nq.Nx),(Ow F16 A20 c19 y4.1.Nz.Nq.Nw),(Ow F17 A21 c20 y4.1.Nz.Nk),(Ow F18 A22 c21 y4.1.Ng),(Ow F19 A23 c22 y4.1.Np)]) (by simpa using hN3.1) (ps1 hl12 (ps1 hl13 (ps1 hl14 (ps1 hl15 (ps1 hl16 ps0))))) (by simpa using hN3.2);have H:=((((H.ld 0).ld 1).ld 2).ld 3).ld 4;refine pz 3 V λa V=>?_;refine aL V H zv60 λb4 a w V H=>?_;refine sB 0 V H sz60 λw H=>?_;refine pz 1 V λa V=>?_;refine we (sqz (pz 1 V λa V=>?_));refine ob (ib J V (λhc3 J=>?_) λhc3 J=>?_);refine reg (pz 2 V λa V=>?_);refine wl0 Z (bl V H 3 ([e]:List Int) [(Iv e)] (el1 (y:=e) (Z)) λA24 a w V H=>?_);obtain⟨l,hl_,J⟩:=bs_ J;refine wl0 Z (uV V H y35 ai3 Z Dd 1 0 Z Z Z Z (.inr Z) hl_ Dd λE3 A25 c23 a w V H=>?_);refine pz 1 V λa V=>?_;have V:=V.pn [2,5,6,9,19,20,21];refine ob (reg (lN 0 V H la60 λa V=>?_));refine sB 1 V H sz60 λw H=>?_;refine ub (uP (ua (reg (pz 2 V λa V=>?_))));refine ub ?_;have V:=V.pn [2,5,6,19,20,21];have H:=(((H.fd 1).fd 2).fd 3).fd 4;have H:=H.lm 6 6 31 5 31;exact ua ⟨(l,w64 (i + 1),y4.1.Nz.Nq.Nx,y4.1.Nz.Nq.Nw,y4.1.Nz.Nk,y4.1.Ng,y4.1.Np),J,A25,c23,E3,A19,c18,F15,A20,c19,F16,A21,c20,F17,A22,c21,F18,A23,c22,F19,V,H⟩;refine kr (ua (reg (lN 0 V H la60 λa V=>?_)));refine sB 1 V H sz60 λw H=>?_;have V:=V.pn [2,5,6,19,20,21];refine ub (uP (ua (reg (pz 2 V λa V=>?_))));refine ub ?_;have V:=V.pn [2,5,6,19,20,21];have H:=(((H.fd 1).fd 2).fd 3).fd 4;have H:=H.lm 6 3 31 5 31;exact ua ⟨(ids,w64 (i + 1),y4.1.Nz.Nq.Nx,y4.1.Nz.Nq.Nw,y4.1.Nz.Nk,y4.1.Ng,y4.1.Np),J,A13,c12,E2,A19,c18,F15,A20,c19,F16,A21,c20,F17,A22,c21,F18,A23,c22,F19,V,H⟩;refine xb ?_;have V:=V.pn [2,5,6,19,20,21];have H:=H.lm 3 3 31 5 31;exact⟨(ids,i,m,m2,m3,m4,m5),(Dz J).symm,A13,c12,E2,A14,c13,F9,A15,c14,F10,A16,c15,F11,A17,c16,F12,A18,c17,F13,V,H⟩;rintro a w ⟨⟨ids2,i2,m6,m7,m8,m9,m10⟩,rfl,A26,c24,E4,A27,c25,F20,A28,c26,F21,A29,c27,F22,A30,c28,F23,A31,c29,F24,V,H⟩;try dsimp only at W
 refine ua (sq (reg (lN 0 V H la60 λa V=>?_)));refine pz 1 V λa V=>?_;refine sB 1 V H sz60 λw H=>?_;refine pz 2 V λa V=>?_;refine wer ?_;have H:=H.ow 0;obtain⟨F25,H⟩:=H.freezeOwn 0 rfl;have H:=(((((H.ld 0).fd 1).fd 2).fd 3).fd 4).fd 5;obtain rfl:=oi W;refine js V Z (uy V H 1 la60 Z Z Z) (uL V Z) (uL V Z) ?_;have hN:=H.ends (X:=[(Ow F20 A27 c25 m6),(Ow F21 A28 c26 m7),(Ow F22 A29 c27 m8),(Ow F23 A30 c28 m9),(Ow F24 A31 c29 m10),(Ow F25 A26 c24 ids2)]);simp only[Ef,Ex,D1,DD]at hN;exact⟨_,Z,H.bel,(F20++(F21++(F22++(F23++F24)))),F25,_,_,_,Z,⟨_,uR (x:=({ Nz:=({ Nq:=({ Nx:=m6,Nw:=m7 }:Nq),Nk:=m8 }:Nz),Ng:=m9,Np:=m10 }:Nj)) (H.ownAt 0 Z) (H.ownAt 1 Z) (H.ownAt 2 Z) (H.ownAt 3 Z) (H.ownAt 4 Z),Z⟩,(vp (H.ownAt 5 Z)),um,by first | exact hN | simpa using hN⟩
theorem fj {b1 o1:Nat} {cs1:List Value} {i:Int} {cap:List Int} {r:Bool} (h0:VR w0 S v0_ i) (hp1:(MP.cells ⟨b1,o1,none⟩ cs1).pred w0 S) (hr1:GoTy.rep w0 S cs1 cap) (W:xZ fu i cap=some r) :
    CV 136 [v0_,(Pw b1 o1)] w0 S r:=by
 cases ui h0;obtain⟨A,c,rfl,hl⟩:=zd hr1;have H:=(Ms w0 S).pA hl;have H:=H.pushArg (MP.cells ⟨b1,o1,none⟩ [(Sc A c cap)]) hp1;refine en func136 λa V=>?_;rw[xZ]at W;refine sqz (pz 1 V λa V=>?_);refine wr (lI 0 0 V H ls35 λa V=>?_);refine pz 1 V λa V=>?_;obtain⟨y,hy,W⟩:=bs_ W;refine oc V cl72 (zu (S:=TT) (uk (H.rt 1 Z)) uc hy) λv w a hp3 V=>?_;obtain⟨hb,hp3⟩:=hp3;cases ul hp3;have H:=H.kp hb;refine pz 1 V λa V=>?_;refine wer ?_;obtain rfl:=oi W;exact rV V H um
theorem zZ {F:List Nat} {A:Option Addr} {cap:Nat} {b1_0 o1_0:Nat} {cs1_0:List Value} {cap0:List Int} {x r:List Int} (hO:lown w0 F [.slice A x.length cap] x) (hn:F.Nodup) (hSm:∀c∈F,¬S c) (hp1_0:(MP.cells ⟨b1_0,o1_0,none⟩ cs1_0).pred w0 S) (hr1_0:GoTy.rep w0 S cs1_0 cap0) (W:vS fu x cap0=some r) :
    Calls Tryz.prog 135 [.slice A x.length cap,(.func (.func 136) #[] #[(Pw b1_0 o1_0)])].toArray w0 λe w'=>∃v,e=.returned v∧(Chg w0 w' F∧v=.slice A r.length cap∧∃F',lown w' F' [.slice A r.length cap] r∧Back w0 w' F F'):=by
 refine tQ (cb:=[(Pw b1_0 o1_0)]) my Dk hO hn W λw c a q hm hrp hq=>?_;have hM:Moves w0 w S (λ_=>True):=λd hd hl=>⟨kt,(hm d (λh=>hSm d h hd) hl).2⟩;exact (fj (S:=TT) ⟨c,hrp,Z⟩ (MP.mono _ hp1_0 hM) (GoTy.mono hr1_0 hM) hq).mono λe w' ⟨u,he,hb,hv⟩=>⟨u,he,hb,ul hv⟩
theorem gA {fibers:List Int} (h0:VR w0 S v0_ r') (h1:VR w0 S v1_ fibers) (W:ze fu r' fibers=some r) :
    CA 50 [v0_,v1_] w0 λv w'=>(Below w0.heap.size w0 w'∧∃F0,∃u0 u1,v=.tuple #[u0,u1]∧VO w' F0 u0 r.1∧VX w0 w' S u1 r.2∧New w0 w' F0):=by
 obtain⟨A,c,A2,c2,A3,c3,A4,c4,A5,c5,rfl,hl,hl2,hl3,hl4,hl5⟩:=uF h0;obtain⟨A6,c6,rfl,hl6⟩:=u7 h1;have H:=((((((Ms w0 S).pA hl).pA hl2).pA hl3).pA hl4).pA hl5).pA hl6;refine en func50 λa V=>?_;rw[ze]at W;refine bx V H λb' a w V H=>?_;refine wl0 Z (yj V H Z Z Dd λb2 a w V H=>?_);refine aL V H zv60 λb3 a w V H=>?_;refine pz 1 V λa V=>?_;refine ob (sq (sq (reg (lN 2 V H la60 λa V=>?_))));refine lB 1 V H ls35 λa V=>?_;obtain⟨y,hy,W⟩:=bs_ W;refine oc V Au (du (S:=TT) (ud (x:=r') (H.rt 5 Z) (H.rt 4 Z) (H.rt 3 Z) (H.rt 2 Z) (H.rt 1 Z)) (uk (H.rt 0 Z)) hy) λv w a hp V=>?_;obtain⟨hb,hp⟩:=hp;cases ul hp
 have H:=H.kp hb;refine pz 1 V λa V=>?_;refine ob (ib W V (λhc W=>?_) λhc W=>?_);refine sq (reg (oq V (uA V (cs:=Cm) Z (λw=>by kernel_rfl)) λa V=>?_));refine sB 0 V H sz60 λw H=>?_;refine pz 1 V λa V=>?_;refine ob (wp_ret (uf (?_)));have H:=H.ownNil (ByteArray);have H:=H.ld 0;have H:=H.ownNil (Nt);have H:=H.ld 0;have H:=H.ownNil (Nh);have H:=H.ld 0;have H:=H.ownNil (Nh);have H:=H.ld 0;have H:=H.ownNil (Int);have H:=((((H.ld 0).fd 1).fd 2).fd 3).fd 4;obtain rfl:=oi W;refine aC V Z (uy V H 0 la60 Z Z Z) (uL V Z) ?_;have hN:=H.ends (X:=[(⟨[],MP.own [] [(.slice none 0 0)] ([]:List ByteArray)⟩:DI),(⟨[],MP.own [] [(.slice none 0 0)] ([]:List Nt)⟩:DI),(⟨[],MP.own [] [(.slice none 0 0)] ([]:List Nh)⟩:DI),(⟨[],MP.own [] [(.slice none 0 0)] ([]:List Nh)⟩:DI),(⟨[],MP.own [] [(.slice none 0 0)] ([]:List Int)⟩:DI)]);simp only[Ef,Ex,D1,DD]at hN;exact⟨_,Z,H.bel,([]++([]++([]++([]++[])))),_,_,Z,⟨_,uR (x:=({ Nz:=({ Nq:=({ Nx:=[],Nw:=[] }:Nq),Nk:=[] }:Nz),Ng:=[],Np:=[] }:Nj)) (H.ownAt 0 Z) (H.ownAt 1 Z) (H.ownAt 2 Z) (H.ownAt 3 Z) (H.ownAt 4 Z),Z⟩,um,by first | exact hN | simpa using hN⟩
 refine kr (ua (sq (reg (lN 2 V H la60 λa V=>?_))));obtain⟨y2,hy2,W⟩:=bs_ W;refine oc V cl88 (uM (S:=TT) (ud (x:=r') (H.rt 5 Z) (H.rt 4 Z) (H.rt 3 Z) (H.rt 2 Z) (H.rt 1 Z)) hy2) λv2 w a hp2 V=>?_;obtain⟨hb2,F,hp3,hN⟩:=hp2;obtain⟨A7,c7,F2,A8,c8,F3,A9,c9,F4,A10,c10,F5,A11,c11,F6,rfl,rfl,hl7,hl8,hl9,hl10,hl11⟩:=uJ hp3;have H:=H.addOwn hb2 (X:=[(Ow F2 A7 c7 y2.Nz.Nq.Nx),(Ow F3 A8 c8 y2.Nz.Nq.Nw),(Ow F4 A9 c9 y2.Nz.Nk),(Ow F5 A10 c10 y2.Ng),(Ow F6 A11 c11 y2.Np)]) (by simpa using hN.1) (ps1 hl7 (ps1 hl8 (ps1 hl9 (ps1 hl10 (ps1 hl11 ps0))))) (by simpa using hN.2);have H:=((((H.ld 0).ld 1).ld 2).ld 3).ld 4;refine aL V H zv60 λb4 a w V H=>?_;refine sB 0 V H sz60 λw H=>?_;refine wr (pz 1 V λa V=>?_);refine lB 0 V H ls35 λa V=>?_;refine oq V (yE V Z) λa V=>?_;have H:=H.fd 4;obtain⟨Fs,E,H,-⟩:=H.thaw rfl;have H:=(((((((((((H.sh 0).pA hl).pA hl2).pA hl3).pA hl4).pA hl5).pA hl6).ld 0).ld 1).ld 2).ld 3).ow 0;obtain⟨F7,H⟩:=H.freezeOwn 0 rfl;have H:=H.ld 0;obtain⟨y3,hy3,W⟩:=bs_ W;refine oc V Dl (zZ (S:=NO F7) (H.ownAt 0 Z) H.diNd.1 (λ_ h1 h2=>h2 h1) (H.boxO 2 Z) (H.argO (λ_ h=>by cases h) (α:=List Int) hl6) hy3) λv3 w a hp4 V=>?_
 obtain⟨hch,rfl,F8,ho,hbk⟩:=hp4;have H:=H.wroteC Z hch ho hbk;have H:=((((((((((H.pA hl).pA hl2).pA hl3).pA hl4).pA hl5).pA hl6).ld 0).ld 1).ld 2).ld 3).ld 4;refine pz 1 V λa V=>?_;refine sB 0 V H sz35 λw H=>?_;have V:=V.pn [4,6];refine wr (lN 0 V H la60 λa V=>?_);refine sB 1 V H sz60 λw H=>?_;refine pz 1 V λa V=>?_;refine wer ?_;have H:=(((H.fd 4).fd 4).fd 4).fd 4;obtain rfl:=oi W;refine aC V Z (uy V H 1 la60 Z Z Z) (uL V Z) ?_;have hN:=H.ends (X:=[(Ow F2 A7 c7 y2.Nz.Nq.Nx),(Ow F3 A8 c8 y2.Nz.Nq.Nw),(Ow F4 A9 c9 y2.Nz.Nk),(Ow F5 A10 c10 y2.Ng),(Ow F8 A11 c11 y3)]);simp only[Ef,Ex,D1,DD]at hN;exact⟨_,Z,H.bel,(F2++(F3++(F4++(F5++F8)))),_,_,Z,⟨_,uR (x:=({ Nz:=y2.Nz,Ng:=y2.Ng,Np:=y3 }:Nj)) (H.ownAt 0 Z) (H.ownAt 1 Z) (H.ownAt 2 Z) (H.ownAt 3 Z) (H.ownAt 4 Z),Z⟩,um,by first | exact hN | simpa using hN⟩
end AT
