/- FnTexts answers true for every input, and the input reads as it did. Condition: the library's variables that the row lists hold what the program's text lays (the card ties them to that text). The walk (by program), the plain law, the row and the card, joined. -/
import Derived.Test.YtlemonjnolciiaaGreatDoorRd
import Derived.Test.YtlemonjnolciiaaGreatDoorWFnTexts
import Derived.Test.YtlemonjnolciiaaGreatDoorPFnTexts
import Derived.Test.YtlemonjnolciiaaGreatDoorTie
import Derived.Test.YtlemonjnolciiaaGreatDoorCards
import Derived.LaidMore
import Derived.Lay
import Derived.SevenTiedAt
import Derived.Stop.Joined
import Derived.Stop.LaidErr
import Derived.Lib.LaidTab
import Derived.Shelf.Vars
set_option linter.unusedVariables false
set_option maxRecDepth 100000
namespace Go.Proofs.YtlemonjnolciiaaGreatDoor.fnTexts
open Go.ChangeShapes Go.WideShapes Go.ChangeAt Go.RowKit

theorem heap_of_var {P : Program} {W : World} {n : String} {g : Nat} {cs : Array Value} (hg : P.globalNamed n = some g) (h : W.var? P n = some cs) : ∃ E f, W.heap[g]? = some (.cells cs E f) := by
  unfold World.var? at h
  rw [hg, Option.bind_some] at h
  split at h
  · rename_i cs' E f e
    obtain rfl := Option.some.inj h
    exact ⟨E, f, e⟩
  · cases h
def errName : String := match (Rows.laid_strconv_ErrSyntax : DataW Unit) with
  | .iface n _ => n
  | _ => ""
theorem star {s : String} (h : s = errName) : s = errName := h
theorem errRow (u : TypeId) (h : Tryz.prog.typeName? 3 u = some errName) : u = 189 := by
  refine typeName_ptr_named (nm := "errors.errorString") ?_ ?_ ?_ u (h.trans (congrArg some (Eq.symm (star ?_))))
  · rw [star (s := _ ++ "errors.errorString") (by decide)]; kernel_rfl
  · kernel_rfl
  · decide
  · decide
theorem tells {W : World} (hS : W.ShapedOpen Tryz.prog) (hL : laidMetH Tryz.prog Rows.fnTextsRow.laid W) : (AT.GLm 0 1 2).pred W (fun _ => True) := by
  rw [MakeChecks.laidMetH_plain _ _ _ (by kernel_rfl)] at hL
  refine ⟨⟨trivial, trivial, trivial⟩, ?_, ?_, ?_⟩
  · have h0 : ((begin Tryz.prog (fun _ _ => 0) default).world.heap[0]?).bind Obj.row? = some (#[.int .i64 0], 3) := by kernel_rfl
    obtain ⟨m, hm⟩ := cell_of_shapedOpen_int hS (g := 0) (of_decide_eq_true (by kernel_rfl)) h0 (by rfl) (by kernel_rfl) (by kernel_rfl) Tryz.underlying3
    obtain ⟨cs, hh, hs, -⟩ := hS.1 0 _ _ (of_decide_eq_true (by kernel_rfl)) h0
    have hs1 : cs.size = 1 := hs
    have hc : cs[0]? = some (.int .i64 m) := by simpa [World.cell?, hh] using hm
    obtain ⟨l⟩ := cs
    have : l = [.int .i64 m] := by
      match l, hs1, hc with
      | [x], _, hc => simpa using hc
    subst this
    exact ⟨m, _, _, hh⟩
  · have ht := Lib.tabIs_of_head (name := AT.pwName) (show Tryz.prog.globalNamed AT.pwName = some 1 by kernel_rfl) (show (Tryz.prog.globals[1]?).map (·.type) = some 170 by kernel_rfl) Tryz.underlying170 Tryz.underlying85 (by kernel_rfl) (by kernel_rfl) (show laidMet Tryz.prog ((AT.pwName, Lib.tabData .u64 Lib.pow10Tab) :: _) W from hL.tail.tail)
    exact heap_of_var (by kernel_rfl) ht
  · obtain ⟨a, s, hv, -⟩ := laid_sentinel hL.tail.tail.tail.tail.tail (show Tryz.prog.globalNamed "strconv.ErrSyntax" = some 2 by kernel_rfl) (show (Tryz.prog.globals[2]?).map (·.type) = some 103 by kernel_rfl) Tryz.underlying103 errRow Tryz.underlying189 Tryz.underlying191 rfl rfl Tryz.underlying9 (by kernel_rfl) (by kernel_rfl)
    obtain ⟨E, f, hh⟩ := heap_of_var (by kernel_rfl) hv
    exact ⟨_, _, E, f, hh⟩

theorem contract {H : Type} {enc : TypeId × Value → H} (W : World) (base : Nat) (args : Array Value) (ds gs : List (DataW H)) (before : List MemPlace)
    (hval : ∀ (j : Nat) t v, Tryz.f3.params[j]? = some t → args[j]? = some v → Value.okWide Tryz.prog W .any base t v)
    (hW : DataW.Whole enc Tryz.prog Tryz.f3.params.toList Rows.fnTextsSpec.vars false W args.toList ds gs before)
    (hG : (AT.GLm 0 1 2).pred W (fun _ => True)) :
    Calls Tryz.prog 3 args W fun e W' => ∃ v, e = .returned v ∧ Rows.fnTextsSpec.post enc Tryz.prog Tryz.f3 false true false false W args v W' := by
  have hW' := hW
  obtain ⟨p, q, hA0, hV, rfl, hfz, hnd⟩ := hW
  have hA : DataW.TrodAll enc Tryz.prog W 0 (fun _ => true) true Tryz.f3.params.toList args.toList ds p := hA0
  rw [Tryz.params3] at hA hval
  obtain ⟨v0, vs0, d0, ds0, p0, q0, hargs, rfl, rfl, h0, r0⟩ := trodAll_cons hA
  obtain ⟨rfl, rfl, rfl⟩ := trodAll_nil r0
  obtain rfl : args = #[v0] := by cases args; simp_all
  obtain ⟨rfl, rfl⟩ := trodVars_none hV
  have k0 := h0
  have lt0 : ∀ x ∈ p0, x.block < W.heap.size := by obtain ⟨m, hm⟩ := k0; exact DataW.trod_lt m _ _ _ hm
  obtain ⟨x0, y0, o0⟩ := AT.rdv_one AT.rd22 rfl (AT.cells_slice Tryz.underlying22 (hval 0 22 v0 rfl rfl)) h0
  clear hA0
  obtain ⟨fu, hF⟩ := AT.FnTexts_true x0 o0
  refine (AT.laws_FnTexts_ok y0 hG hF).mono fun e W' ⟨v, he, bel, hv⟩ => ?_
  obtain rfl := AT.VR_bool hv
  subst he
  exact ⟨_, rfl, _, _, _, [], _, [], hW', trodAll_mk1 (shut_bool Tryz.underlying4 _), (trodAll_cons_mk (Below.trod AT.laidOut (by kernel_rfl) (of_decide_eq_true (by kernel_rfl)) k0 bel.go lt0) trodAll_mk0), rfl, bel.go.frame _, fun h => by cases h⟩

theorem lifted (os : Os) (started : os.Started) (H : Type) (enc : TypeId × Value → H) :
    ReturnsInHanded {} Tryz.checked os 3 .any (fun w args => (Rows.fnTextsSpec.pre enc Tryz.prog Tryz.f3 Rows.fnTextsRow.domain false w args ∧ laidMetH Tryz.prog Rows.fnTextsRow.laid w) ∧ sizedMet enc Tryz.prog Tryz.f3 (OpenSpec.ofChange Rows.fnTextsSpec) false w args)
      (Rows.fnTextsSpec.post enc Tryz.prog Tryz.f3 false true false false) := by
  refine returnsInHanded_of_calls (C := Tryz.checked) AT.own started (by kernel_rfl)
    (ChangeSpec.witness_shaped (enc := enc) (C := Tryz.checked) (os := os) (X := fun w _ => laidMetH Tryz.prog Rows.fnTextsRow.laid w) false (World.laidAll Tryz.prog os Rows.fnTextsRow.laid) #[.slice none 0 0] 8 (World.laidAll_os _ _ _)
      (World.shaped_of_ZipB (by kernel_rfl) (by kernel_rfl)) (by kernel_rfl) (by kernel_rfl) (by kernel_rfl)
      (by rw [MakeChecks.laidMetH_plain _ _ _ (by kernel_rfl)]; exact laidMet_laidAll _ (by kernel_rfl) (by kernel_rfl))) ?_
  intro w tape i _ hsh _ hok hpre _
  obtain ⟨_, _, _, fn', hfn', _, _, _, _, hval⟩ := hok
  obtain rfl : fn' = Tryz.f3 := Option.some.inj (hfn'.symm.trans Tryz.func3)
  obtain ⟨⟨⟨ds, gs, before, hw, hc⟩, hx⟩, hz⟩ := hpre
  have hw' := DataW.Whole.of_heap (w' := w.forCall tape i) (by rfl) hw
  refine (contract (w.forCall tape i) w.heap.size i.args ds gs before hval hw' (tells hsh (laidMetH.of_heap (by rfl) hx))).mono fun e W' ⟨v, he, hp⟩ => ?_
  subst he
  exact ChangeSpec.post_blind hp

set_option maxHeartbeats 4000000 in
theorem closed : joinedFacts Tryz.prog 3 Tryz.f3 Rows.fnTextsSpec Rows.fnTextsRow = true := by
  unfold joinedFacts
  iterate 31 (refine AT.ai ?_ (by first | with_reducible exact AT.enters | (rw [AT.makes]; rfl) | (rw [AT.lifts]; rfl) | with_reducible exact AT.heard | with_reducible exact AT.rowed | with_reducible exact AT.laidOut | as_aux_lemma => kernel_rfl))
  kernel_rfl

set_option maxHeartbeats 4000000 in
theorem over : Rows.FnTextsSaid :=
  OpenClaim.holds_of_wide 3 Tryz.f3 rfl rfl rfl rfl rfl rfl rfl ⟨rfl, rfl, rfl, rfl, rfl⟩ rfl rfl rfl rfl rfl (by as_aux_lemma => kernel_rfl) Tryz.func3
    closed (of_decide_eq_true (by kernel_rfl)) (by unfold Func.isWrapper; first | (rw [if_pos (by decide +kernel)]; kernel_rfl) | (rw [if_neg (by decide +kernel)]; exact ⟨rfl, rfl⟩))
    (fun os started H enc _ => lifted os started H enc)

theorem proved : Rows.FnTextsCardSaid :=
  Claim7.holds_tied_plain_at .later [] [.data, .data, .data, .data, .sentinel, .sentinel, .pinned] true (true, "452536158d3bd52eb08514ad34f79804db294d4c37776dcbdf6f950e20c6a1bd") true over (fun _ h => by cases h) (by kernel_rfl) (fun _ h => by cases h) fnTexts_row_tie rfl ⟨rfl, rfl⟩ (by kernel_rfl) rfl
    (fun f fn hf hfn => by
      obtain rfl : f = 3 := Option.some.inj ((show Tryz.prog.funcNamed Rows.fnTextsRow.func = some 3 by kernel_rfl).symm.trans hf) |>.symm
      obtain rfl : fn = Tryz.f3 := (Option.some.inj (Tryz.func3.symm.trans hfn)).symm
      exact ⟨by kernel_rfl, fun j t ht => by
        rw [Tryz.params3] at ht
        have hm : t ∈ [22] := by simpa using Array.mem_of_getElem? ht
        have hall : ([22].all fun u => !Tryz.prog.wantsStandIn u) = true := by kernel_rfl
        exact (show Tryz.prog.wantsStandIn t = false by simpa using List.all_eq_true.1 hall t hm)⟩)
    (by kernel_rfl)
#print axioms proved
end Go.Proofs.YtlemonjnolciiaaGreatDoor.fnTexts
