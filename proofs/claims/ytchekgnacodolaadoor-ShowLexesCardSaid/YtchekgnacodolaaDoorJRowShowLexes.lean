/- ShowLexes: the row and the card, out of its walk. Written by our own program (wip/tools/rowgen.py). -/
import Derived.Test.YtchekgnacodolaaDoorCards
import Derived.Test.YtchekgnacodolaaDoorTie
import Derived.WalkKit
import Derived.ProofKit
import Derived.OpenShut
import Derived.ShutString
import Derived.LaidMore
import Derived.Deep.DeepWitnessRowRef
import Derived.Below
import Derived.SizedLaws
import Derived.Test.YtchekgnacodolaaDoorJ1
import Derived.Test.YtchekgnacodolaaDoorJ3
import Derived.Test.YtchekgnacodolaaDoorJ7
import Derived.Test.YtchekgnacodolaaDoorJ20
import Derived.Test.YtchekgnacodolaaDoorJ21
import Derived.Test.YtchekgnacodolaaDoorJLawLexes
namespace Go.Proofs.YtchekgnacodolaaDoor.showLexes
open Go.ChangeShapes Go.WideShapes Go.ChangeAt Go.RowKit Go.Proofs.YtchekgnacodolaaDoorW Go.Proofs.YtchekgnacodolaaDoorW.PrintWords
open Go.ChangeMaps (open_string shut_string)
set_option linter.unusedVariables false
theorem own : ownKnob Tryd.prog.godebug = none := by kernel_rfl
theorem laidOut : laidOutB Tryd.prog = true := X.Whole.laidOut
def IsRow (k : IntKind) (w : World) (a : Option Addr) (len cap : Nat) (zs : List Int) : Prop :=
  (a = none ∧ len = 0 ∧ cap = 0 ∧ zs = []) ∨
  ∃ x, a = some x ∧ len ≤ cap ∧ cap ≤ maxLen ∧ zs.length = cap ∧ (∀ i, i < zs.length → w.cell? (x.add i) = some (.int k (zs.getD i 0))) ∧ ∀ n ∈ zs, (Lit.int k n).wf = true
set_option linter.unusedSimpArgs false
set_option maxHeartbeats 4000000 in
set_option maxRecDepth 100000 in
theorem contract (H : Type) (enc : TypeId × Value → H) (W : World) (base : Nat) (args : Array Value) (ds gs : List (DataW H)) (before : List MemPlace)
    (hval : ∀ (j : Nat) t v, Tryd.f3.params[j]? = some t → args[j]? = some v → Value.okWide Tryd.prog W .any base t v)
    (hW : DataW.Whole enc Tryd.prog Tryd.f3.params.toList Rows.showLexesSpec.vars false W args.toList ds gs before)
    (hsz : (DataW.weightsEach Tryd.prog (Tryd.f3.params.toList ++ Rows.showLexesSpec.plain.varTypes Tryd.prog) (ds ++ gs)).all (· ≤ reachBytes) = true)
    (hG : X.GP W) :
    Calls Tryd.prog 3 args W fun e W' => ∃ v, e = .returned v ∧ Rows.showLexesSpec.post enc Tryd.prog Tryd.f3 false true false false W args v W' := by
  have hW' := hW
  obtain ⟨p, q, hA0, hV, rfl, hfz, hnd⟩ := hW
  have hA : DataW.TrodAll enc Tryd.prog W 0 (fun _ => true) true Tryd.f3.params.toList args.toList ds p := hA0
  rw [Tryd.params3] at hA hval hsz
  obtain ⟨v0, vs0, d0, ds0, p0, q0, hargs, rfl, rfl, h0, r0⟩ := trodAll_cons hA
  obtain ⟨rfl, rfl, rfl⟩ := trodAll_nil r0
  obtain rfl : args = #[v0] := by cases args; simp_all
  obtain ⟨rfl, rfl⟩ := trodVars_none hV
  obtain ⟨a0, len0, cap0, rfl⟩ := okWide_slice Tryd.underlying22 (hval 0 22 v0 rfl rfl)
  have k0 := h0
  have lt0 : ∀ x ∈ p0, x.block < W.heap.size := by obtain ⟨m, hm⟩ := k0; exact DataW.trod_lt m _ _ _ hm
  obtain ⟨z0, w0⟩ : ∃ zs, IsRow .u8 W a0 len0 cap0 zs := by
    obtain ⟨fuel, hf⟩ := h0
    rcases open_ints Tryd.underlying22 Tryd.underlying5 (by kernel_rfl) hf with ⟨hcs, _⟩ | ⟨x, l, c, zs, hcs, _, hl, hm, hz, _, hcell, hwz⟩
    · simp [Value.cells] at hcs
      obtain ⟨rfl, rfl, rfl⟩ := hcs
      exact ⟨[], .inl ⟨rfl, rfl, rfl, rfl⟩⟩
    · simp [Value.cells] at hcs
      obtain ⟨rfl, rfl, rfl⟩ := hcs
      exact ⟨zs, .inr ⟨_, rfl, hl, hm, by simpa using hz, hcell, hwz⟩⟩
  have y0 : len0 * 1 ≤ 140737488351232 := PrintWords.sized_ints hsz (j := 0) (t := 22) rfl rfl Tryd.underlying22 Tryd.underlying5 (by kernel_rfl) (by kernel_rfl) h0
  obtain ⟨l0, rfl, hr0, hm0, hw0, hc0⟩ := ReadsInt.ofRowC w0
  clear hA0 hsz
  have walk := X.lawLexes W hG a0 cap0 l0 (Kd.C_of_reads (d := (0 : Int)) (h1 := fun _ => rfl) hr0) hc0 hm0 (by omega) hw0
  refine walk.mono fun e W' ⟨he, bel⟩ => ?_
  subst he
  exact ⟨_, rfl, _, _, _, [], _, [], hW', trodAll_mk1 (shut_bool Tryd.underlying4 _), (trodAll_cons_mk (Below.trod laidOut (by kernel_rfl) (of_decide_eq_true (by kernel_rfl)) k0 bel lt0) trodAll_mk0), rfl, bel.frame _, fun h => by cases h⟩
theorem laid_met (os : Os) : laidMetH Tryd.prog Rows.showLexesRow.laid (((World.doorLaid Tryd.prog 100 os)).forCall (fun _ _ => 0) ⟨#[], #[.slice none 0 0], []⟩).memory :=
  laidMetH_of_parts3 (fuel := 8) (laidMet_of_run' 8 (by kernel_rfl) (by kernel_rfl)) (by kernel_rfl) (by kernel_rfl)
theorem reads (os : Os) {H : Type} (enc : TypeId × Value → H) : ∃ places, DataW.whole enc Tryd.prog ((World.doorLaid Tryd.prog 100 os).forCall (fun _ _ => 0) ⟨#[], #[.slice none 0 0], []⟩).memory Tryd.f3.params.toList Rows.showLexesSpec.vars false (#[.slice none 0 0] : Array Value).toList 8 = some ([.nil], [], places) :=
  ⟨[], by kernel_rfl⟩
set_option maxRecDepth 100000 in
theorem lifted (os : Os) (started : os.Started) (H : Type) (enc : TypeId × Value → H) (F : Stop.Interp) :
    ReturnsInHanded {} Tryd.checked os 3 .any ((OpenSpec.ofChange Rows.showLexesSpec).preRow enc Tryd.prog Tryd.f3 Rows.showLexesRow.domain false Rows.showLexesRow.laid) (((OpenSpec.ofChange Rows.showLexesSpec).at F).post enc Tryd.prog Tryd.f3 false true false false) := by
  obtain ⟨places, hx⟩ := reads os enc
  refine returnsInHanded_of_row (C := Tryd.checked) (s := (OpenSpec.ofChange Rows.showLexesSpec)) own started (by kernel_rfl) Tryd.func3
    (witness_row_atRef (enc := enc) (C := Tryd.checked) false (World.doorLaid Tryd.prog 100 os) #[.slice none 0 0] rfl (by kernel_rfl) (by kernel_rfl) (by kernel_rfl)
      (OpenSpec.preRow_of_cond 8 hx (by kernel_rfl) (fun k hk => by cases hk) (by kernel_rfl) (laid_met os))) ?_
  intro W base args ds gs before hval hW _ _ hsz hL hS _
  exact contract H enc W base args ds gs before hval hW hsz (X.GP.of_laid hL hS)
theorem k_wf : Rows.showLexesRow.wf (OpenSpec.ofChange ((OpenSpec.ofChange Rows.showLexesSpec)).bare) = true := by kernel_rfl
theorem k_readable : Tryd.f3.params.all (Tryd.prog.readableRec ·) = true := by kernel_rfl
theorem k_tie : namedTie Tryd.prog Rows.showLexesRow.named ((OpenSpec.ofChange Rows.showLexesSpec)).bare.vars = true := by kernel_rfl
theorem k_stops : (Rows.showLexesRow.stops == []) = true := by kernel_rfl
theorem k_knobs : (Rows.showLexesRow.knobs == []) = true := by kernel_rfl
theorem k_inPlace : (Rows.showLexesRow.inPlace == Tryd.prog.inPlace 3) = true := by kernel_rfl
theorem k_unfollowed : (Rows.showLexesRow.unfollowed == Tryd.prog.unfollowed 3) = true := by kernel_rfl
theorem k_recurses : (Rows.showLexesRow.recurses == Tryd.prog.recurses 3) = true := by kernel_rfl
theorem k_named : (Rows.showLexesRow.named == Tryd.prog.varsNamed 3) = true := by kernel_rfl
theorem k_maps : (Rows.showLexesRow.maps == (Tryd.f3.params.toList ++ ((OpenSpec.ofChange Rows.showLexesSpec)).bare.plain.varTypes Tryd.prog).any (Tryd.prog.mapsRec ·)) = true := by kernel_rfl
theorem k_ifaces : (Rows.showLexesRow.ifaces == (Tryd.f3.params.toList ++ ((OpenSpec.ofChange Rows.showLexesSpec)).bare.plain.varTypes Tryd.prog).any (Tryd.prog.ifacesRec ·)) = true := by kernel_rfl
theorem k_mapsOut : (Rows.showLexesRow.mapsOut == Tryd.prog.mapsAmong Tryd.f3.resultTypes.toList) = true := by kernel_rfl
theorem k_loops : (Rows.showLexesRow.loops == (Tryd.f3.params.toList ++ ((OpenSpec.ofChange Rows.showLexesSpec)).bare.plain.varTypes Tryd.prog).any (Tryd.prog.loopsFrom ·)) = true := by kernel_rfl
theorem k_wideKeys : (Rows.showLexesRow.wideKeys == (Tryd.f3.params.toList ++ ((OpenSpec.ofChange Rows.showLexesSpec)).bare.plain.varTypes Tryd.prog ++ Tryd.f3.resultTypes.toList).any (Tryd.prog.wideKeysFrom ·)) = true := by kernel_rfl
theorem closed : joinedFacts Tryd.prog 3 Tryd.f3 ((OpenSpec.ofChange Rows.showLexesSpec)).bare Rows.showLexesRow = true := by
  unfold joinedFacts
  simp only [Bool.and_eq_true]
  repeat' apply And.intro
  · exact k_wf
  · exact X.Whole.laidOut
  · exact X.Whole.mapsRowed
  · exact k_readable
  · exact k_tie
  · exact k_stops
  · exact X.Whole.stops
  · exact k_knobs
  · exact X.Whole.stopKnobs
  · exact k_inPlace
  · exact k_unfollowed
  · exact k_recurses
  · exact k_named
  · exact k_maps
  · exact k_ifaces
  · exact k_mapsOut
  · exact k_loops
  · exact k_wideKeys
  · kernel_rfl
  · kernel_rfl
  · kernel_rfl
  · kernel_rfl
  · exact X.Whole.plainKeys
  · kernel_rfl
  · exact X.Whole.stopsHeard
  · exact X.Whole.mayEnter
  · exact X.Whole.lifted
  · exact X.Whole.make
  · kernel_rfl
  · kernel_rfl
  · kernel_rfl
  · kernel_rfl
theorem k_name : Tryd.pinned.checked.prog.funcNamed Rows.showLexesRow.func = some 3 := by kernel_rfl
theorem k_wrap : Tryd.f3.isWrapper Tryd.pinned.checked.prog Rows.showLexesRow.wrapper Rows.showLexesRow.mainSum := by unfold Func.isWrapper; first | (rw [if_pos (by decide +kernel)]; kernel_rfl) | (rw [if_neg (by decide +kernel)]; exact ⟨rfl, rfl⟩)
theorem k_inst : Tryd.f3.isInstance Tryd.pinned.checked.prog Rows.showLexesRow.origin Rows.showLexesRow.targs := of_decide_eq_true (by kernel_rfl)
theorem said : Rows.ShowLexesSaid :=
  OpenClaim.holds_of_cond 3 Tryd.f3 rfl rfl rfl rfl rfl rfl rfl ⟨rfl, rfl, rfl, rfl, rfl⟩ rfl rfl rfl rfl rfl k_name Tryd.func3 closed
    k_inst k_wrap
    (fun os started H enc _ F => by rw [OpenClaim.pre_eq_preRow]; exact lifted os started H enc F)
theorem plain (f : FuncId) (fn : Func) (hf : Tryd.pinned.checked.prog.funcNamed "chancel/chancellaw04.ShowLexes" = some f) (hfn : Tryd.pinned.checked.prog.funcs[f]? = some fn) :
    true = Tryd.pinned.checked.prog.looks [] ∧ ∀ (j : Nat) t, fn.params[j]? = some t → Tryd.pinned.checked.prog.wantsStandIn t = false := by
  obtain rfl : f = 3 := Option.some.inj ((show Tryd.prog.funcNamed "chancel/chancellaw04.ShowLexes" = some 3 by kernel_rfl).symm.trans hf) |>.symm
  obtain rfl : fn = Tryd.f3 := (Option.some.inj (Tryd.func3.symm.trans hfn)).symm
  refine ⟨by kernel_rfl, fun j t ht => ?_⟩
  rw [Tryd.params3] at ht
  have hm : t ∈ [22] := by simpa using Array.mem_of_getElem? ht
  have hall : ([22].all fun u => !Tryd.prog.wantsStandIn u) = true := by kernel_rfl
  exact (show Tryd.prog.wantsStandIn t = false by simpa using List.all_eq_true.1 hall t hm)
theorem card : Rows.ShowLexesCardSaid :=
  Claim7.holds_tied_plain_at .later [] _ _ _ _ said (fun _ h => by cases h) (by kernel_rfl) (fun _ h => by cases h) showLexes_row_tie rfl ⟨rfl, rfl⟩ (by kernel_rfl) rfl plain (by kernel_rfl)
#print axioms card
end Go.Proofs.YtchekgnacodolaaDoor.showLexes
