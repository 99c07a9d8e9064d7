/- The Go functions do what is told of them, by program (gen.py). -/
import Derived.Test.YtiedecncmihbeaaGreatWC1
set_option linter.unusedVariables false
set_option linter.unusedSimpArgs false
set_option maxRecDepth 100000
set_option maxHeartbeats 1000000
namespace AT
open Go Go.RowKit Go.Proofs
variable {fu : Nat} {w0 : World}
theorem impl_withoutLight_ok {S : Nat → Prop} {v0_ : Value} {v1_ : Value} {p : Plan} {i : Int} {r : Plan} (h0 : VR w0 S v0_ p) (h1 : VR w0 S v1_ i) (hF : impl_withoutLight fu p i = some r) :
    Calls Tryz.prog 111 [v0_, v1_].toArray w0 fun e w' => ∃ v, e = .returned v ∧ (Below w0.heap.size w0 w' ∧ ∃ F0, VO w' F0 v r ∧ New w0 w' F0) := by
 obtain ⟨A, c, A2, c2, A3, c3, rfl, hl, hl2, hl3⟩ := Plan_open h0
 obtain rfl := VR_int h1
 have H := Mem.start ⟨w0, []⟩ S
 have H := H.pA hl
 have H := H.pA hl2
 have H := H.pA hl3
 refine en Tryz.func111 fun a hf => ?_
 rw [impl_withoutLight] at hF
 refine bx hf H fun b' a w hf H => ?_
 refine aL hf H TF.zv45 fun b2 a w hf H => ?_
 refine wr (lN 1 hf H TF.la45 fun a hf => ?_)
 obtain ⟨y, hy, hF⟩ := bs_ hF
 refine oc hf TF.cl83 (impl_copyPlan_ok (S := TT) (Plan_mkv (x := p) (H.rt 2 rfl) (H.rt 1 rfl) (H.rt 0 rfl)) hy) fun v w a hp hf => ?_
 obtain ⟨hb, F, hp2, hN⟩ := hp
 obtain ⟨A4, c4, F2, A5, c5, F3, A6, c6, F4, rfl, rfl, hl4, hl5, hl6⟩ := Plan_vo hp2
 have H := H.aO3 hb hN hl4 hl5 hl6
 have H := H.lend 0 rfl
 have H := H.lend 1 rfl
 have H := H.lend 2 rfl
 refine aL hf H TF.zv45 fun b3 a w hf H => ?_
 refine sB 0 hf H TF.sz45 fun w H => ?_
 refine wr (pz 1 hf fun a hf => ?_)
 refine lB 0 hf H TF.ls43 fun a hf => ?_
 refine pz 3 hf fun a hf => ?_
 have H := H.frontD 2 rfl
 obtain ⟨Fs, E, H, -⟩ := H.thaw rfl
 have H := H.pA hl
 have H := H.pA hl2
 have H := H.pA hl3
 have H := H.lend 0 rfl
 have H := H.lend 1 rfl
 obtain ⟨l, hl, hF⟩ := bs_ hF
 refine wl0 rfl (op_delR hf H TF.cl160 del_spec_160 rfl hl (by decide) fun Fs2 a w hf H => ?_)
 refine pz 1 hf fun a hf => ?_
 refine sB 0 hf H TF.sz43 fun w H => ?_
 refine wr (lN 0 hf H TF.la45 fun a hf => ?_)
 refine sB 1 hf H TF.sz45 fun w H => ?_
 have hf := hf.pn [4]
 refine wer ?_
 obtain ⟨F5, H⟩ := H.freezeOwn 0 rfl
 have H := H.lend 0 rfl
 have H := H.frontD 2 rfl
 have H := H.frontD 2 rfl
 obtain rfl := oi hF
 refine ret_1 hf rfl (rv_cellN hf H 1 TF.la45 rfl rfl rfl) ?_
 have hN := H.ends3
 exact ⟨_, rfl, H.bel, (F2 ++ (F3 ++ F5)), ⟨_, Plan_ownmk (x := ({ Network := y.Network, Lights := l } : Plan)) (H.ownAt 0 rfl) (H.ownAt 1 rfl) (H.ownAt 2 rfl), rfl⟩, hN⟩
theorem impl_RemoveLight_ok {S : Nat → Prop} {v0_ : Value} {v1_ : Value} {p : Plan} {id : Int} {r : Plan × Bool} (h0 : VR w0 S v0_ p) (h1 : VR w0 S v1_ id) (hF : impl_RemoveLight fu p id = some r) :
    Calls Tryz.prog 55 [v0_, v1_].toArray w0 fun e w' => ∃ v, e = .returned v ∧ (Below w0.heap.size w0 w' ∧ ∃ F0, ∃ u0 u1, v = .tuple #[u0, u1] ∧ VO w' F0 u0 r.1 ∧ VR w' (St ⟨w0, []⟩ S [] [] [] true) u1 r.2 ∧ New w0 w' F0) := by
 obtain ⟨A, c, A2, c2, A3, c3, rfl, hl, hl2, hl3⟩ := Plan_open h0
 obtain rfl := VR_int h1
 have H := Mem.start ⟨w0, []⟩ S
 have H := H.pA hl
 have H := H.pA hl2
 have H := H.pA hl3
 refine en Tryz.func55 fun a hf => ?_
 rw [impl_RemoveLight] at hF
 refine bx hf H fun b' a w hf H => ?_
 refine aL hf H TF.zv45 fun b2 a w hf H => ?_
 refine pz 1 hf fun a hf => ?_
 refine wr (lN 1 hf H TF.la45 fun a hf => ?_)
 refine pz 1 hf fun a hf => ?_
 obtain ⟨y, hy, hF⟩ := bs_ hF
 refine oc hf TF.cl110 (impl_LightNumber_ok (S := TT) (Plan_mkv (x := p) (H.rt 2 rfl) (H.rt 1 rfl) (H.rt 0 rfl)) mk_int hy) fun v w a hp hf => ?_
 obtain ⟨hb, v2, v3, rfl, hp2, hp3⟩ := hp
 obtain rfl := VR_int hp2
 obtain rfl := VR_bool hp3
 have H := H.keep hb
 refine pz 5 hf fun a hf => ?_
 refine we (sqz (pz 2 hf fun a hf => ?_))
 refine wl_end (then_n (ib hF hf (fun hc hF => ?_) fun hc hF => ?_))
 ·refine sq (reg (oq hf (rq_build hf (cs := [(.slice none 0 0), (.slice none 0 0), (.slice none 0 0)]) rfl (fun w => by kernel_rfl)) fun a hf => ?_))
  refine sB 0 hf H TF.sz45 fun w H => ?_
  refine pz 1 hf fun a hf => ?_
  have hf := hf.pn [4, 5]
  refine wl_end (then_n (wp_ret (then_r (?_))))
  have H := H.ownNil (ByteArray)
  have H := H.lend 0 rfl
  have H := H.ownNil (Fiber)
  have H := H.lend 0 rfl
  have H := H.ownNil (Light)
  have H := H.lend 0 rfl
  have H := H.frontD 1 rfl
  have H := H.frontD 2 rfl
  obtain rfl := oi hF
  refine ret_2 hf rfl (rv_cellN hf H 0 TF.la45 rfl rfl rfl) (rv_tmp hf rfl) ?_
  have hN := H.ends3
  exact ⟨_, rfl, H.bel, ([] ++ ([] ++ [])), _, _, rfl, ⟨_, Plan_ownmk (x := ({ Network := ({ Nodes := [], Fibers := [] } : Network), Lights := [] } : Plan)) (H.ownAt 0 rfl) (H.ownAt 1 rfl) (H.ownAt 2 rfl), rfl⟩, mk_bool, hN⟩
 ·refine wp_skip (then_n (sq (reg (lN 1 hf H TF.la45 fun a hf => ?_))))
  refine pz 1 hf fun a hf => ?_
  obtain ⟨y2, hy2, hF⟩ := bs_ hF
  refine oc hf TF.cl111 (impl_withoutLight_ok (S := TT) (Plan_mkv (x := p) (H.rt 2 rfl) (H.rt 1 rfl) (H.rt 0 rfl)) mk_int hy2) fun v4 w a hp4 hf => ?_
  obtain ⟨hb2, F, hp5, hN⟩ := hp4
  obtain ⟨A4, c4, F2, A5, c5, F3, A6, c6, F4, rfl, rfl, hl4, hl5, hl6⟩ := Plan_vo hp5
  have H := H.aO3 hb2 hN hl4 hl5 hl6
  have H := H.lend 0 rfl
  have H := H.lend 1 rfl
  have H := H.lend 2 rfl
  refine sB 0 hf H TF.sz45 fun w H => ?_
  refine pz 1 hf fun a hf => ?_
  have hf := hf.pn [4, 5]
  refine wer ?_
  have H := H.frontD 2 rfl
  have H := H.frontD 2 rfl
  have H := H.frontD 2 rfl
  obtain rfl := oi hF
  refine ret_2 hf rfl (rv_cellN hf H 0 TF.la45 rfl rfl rfl) (rv_tmp hf rfl) ?_
  have hN := H.ends3
  exact ⟨_, rfl, H.bel, (F2 ++ (F3 ++ F4)), _, _, rfl, ⟨_, Plan_ownmk (x := y2) (H.ownAt 0 rfl) (H.ownAt 1 rfl) (H.ownAt 2 rfl), rfl⟩, mk_bool, hN⟩
end AT
