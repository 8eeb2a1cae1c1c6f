/- ProgMany: the row and the card, out of its walk. Written by our own program (wip/tools/rowgen.py). -/
import Derived.IntWalk
import Derived.OpenShut
import Derived.Laws.IdiomStrings
import Derived.Test.YtchekgnacodolaaGreatDoorCards
import Derived.Test.YtchekgnacodolaaGreatDoorTie
import Derived.WalkKit
import Derived.ProofKit
import Derived.ShutString
import Derived.LaidMore
import Derived.Deep.DeepWitnessRowRef
import Derived.Test.YtchekgnacodolaaGreatDoorJ2
import Derived.Test.YtchekgnacodolaaGreatDoorJ21
import Derived.Test.YtchekgnacodolaaGreatDoorJ25
import Derived.Test.YtchekgnacodolaaGreatDoorJ26
import Derived.Test.YtchekgnacodolaaGreatDoorJPgL
namespace Go.Proofs.YtchekgnacodolaaGreatDoor.progMany
open Go.ChangeShapes Go.WideShapes Go.ChangeAt Go.RowKit Go.Proofs.YtchekgnacodolaaGreatDoorW Go.Proofs.YtchekgnacodolaaGreatDoorW.PrintWords
open Go.ChangeMaps (open_string shut_string)
set_option linter.unusedVariables false

theorem own : ownKnob Tryz.prog.godebug = none := by kernel_rfl

set_option linter.unusedSimpArgs false
set_option maxHeartbeats 4000000 in
set_option maxRecDepth 100000 in
theorem contract (H : Type) (enc : TypeId × Value → H) (W : World) (base : Nat) (args : Array Value) (ds gs : List (DataW H)) (before : List MemPlace)
    (hval : ∀ (j : Nat) t v, Tryz.f15.params[j]? = some t → args[j]? = some v → Value.okWide Tryz.prog W .any base t v)
    (hW : DataW.Whole enc Tryz.prog Tryz.f15.params.toList Rows.progManySpec.vars false W args.toList ds gs before)
    (hsz : (DataW.weightsEach Tryz.prog (Tryz.f15.params.toList ++ Rows.progManySpec.plain.varTypes Tryz.prog) (ds ++ gs)).all (· ≤ reachBytes) = true)
    (hG : X.GQ W) :
    Calls Tryz.prog 15 args W fun e W' => ∃ v, e = .returned v ∧ Rows.progManySpec.post enc Tryz.prog Tryz.f15 false true false false W args v W' := by
  have hW' := hW
  obtain ⟨p, q, hA0, hV, rfl, hfz, hnd⟩ := hW
  have hA : DataW.TrodAll enc Tryz.prog W 0 (fun _ => true) true Tryz.f15.params.toList args.toList ds p := hA0
  rw [Tryz.params15] at hA hval hsz
  obtain ⟨v0, vs0, d0, ds0, p0, q0, hargs, rfl, rfl, h0, r0⟩ := trodAll_cons hA
  obtain ⟨v1, vs1, d1, ds1, p1, q1, rfl, rfl, rfl, h1, r1⟩ := trodAll_cons r0
  obtain ⟨rfl, rfl, rfl⟩ := trodAll_nil r1
  obtain rfl : args = #[v0, v1] := by cases args; simp_all
  obtain ⟨rfl, rfl⟩ := trodVars_none hV
  obtain ⟨a0, rfl, rfl, rfl, w0⟩ := open_int Tryz.underlying5 (hval 0 5 v0 rfl rfl) h0
  obtain ⟨a1, rfl, rfl, rfl, w1⟩ := open_int Tryz.underlying5 (hval 1 5 v1 rfl rfl) h1
  clear hA0 hsz
  have walk := X.lawMany W hG a0 w0 a1 w1
  refine walk.mono fun e W' ⟨he, bel⟩ => ?_
  subst he
  exact ⟨_, rfl, _, _, _, [], _, [], hW', trodAll_mk1 (shut_bool Tryz.underlying4 _), (trodAll_cons_mk (shut_int Tryz.underlying5 w0) (trodAll_cons_mk (shut_int Tryz.underlying5 w1) trodAll_mk0)), rfl, bel.frame _, fun h => by cases h⟩

theorem laid_met (os : Os) : laidMetH Tryz.prog Rows.progManyRow.laid (((World.doorLaid Tryz.prog 100 os)).forCall (fun _ _ => 0) ⟨#[], #[.int .u8 0, .int .u8 0], []⟩).memory :=
  laidMetH_of_parts3 (fuel := 8) (laidMet_of_run' 8 (by kernel_rfl) (by kernel_rfl)) (by kernel_rfl) (by kernel_rfl)
theorem reads (os : Os) {H : Type} (enc : TypeId × Value → H) : ∃ places, DataW.whole enc Tryz.prog ((World.doorLaid Tryz.prog 100 os).forCall (fun _ _ => 0) ⟨#[], #[.int .u8 0, .int .u8 0], []⟩).memory Tryz.f15.params.toList Rows.progManySpec.vars false (#[.int .u8 0, .int .u8 0] : Array Value).toList 8 = some ([.lit (.int .u8 0), .lit (.int .u8 0)], [], places) :=
  ⟨[], by kernel_rfl⟩

set_option maxRecDepth 100000 in
theorem lifted (os : Os) (started : os.Started) (H : Type) (enc : TypeId × Value → H) (F : Stop.Interp) :
    ReturnsInHanded {} Tryz.checked os 15 .any ((OpenSpec.ofChange Rows.progManySpec).preRow enc Tryz.prog Tryz.f15 Rows.progManyRow.domain false Rows.progManyRow.laid) (((OpenSpec.ofChange Rows.progManySpec).at F).post enc Tryz.prog Tryz.f15 false true false false) := by
  obtain ⟨places, hx⟩ := reads os enc
  refine returnsInHanded_of_row (C := Tryz.checked) (s := (OpenSpec.ofChange Rows.progManySpec)) own started (by kernel_rfl) Tryz.func15
    (witness_row_atRef (enc := enc) (C := Tryz.checked) false (World.doorLaid Tryz.prog 100 os) #[.int .u8 0, .int .u8 0] rfl (by kernel_rfl) (by kernel_rfl) (by kernel_rfl)
      (OpenSpec.preRow_of_cond 8 hx (by kernel_rfl) (fun k hk => by cases hk) (by kernel_rfl) (laid_met os))) ?_
  intro W base args ds gs before hval hW _ _ hsz hL hS _
  exact contract H enc W base args ds gs before hval hW hsz (X.GQ.of_laid hL hS)

theorem k_wf : Rows.progManyRow.wf (OpenSpec.ofChange ((OpenSpec.ofChange Rows.progManySpec)).bare) = true := by kernel_rfl
theorem k_readable : Tryz.f15.params.all (Tryz.prog.readableRec ·) = true := by kernel_rfl
theorem k_tie : namedTie Tryz.prog Rows.progManyRow.named ((OpenSpec.ofChange Rows.progManySpec)).bare.vars = true := by kernel_rfl
theorem k_stops : (Rows.progManyRow.stops == []) = true := by kernel_rfl
theorem k_knobs : (Rows.progManyRow.knobs == []) = true := by kernel_rfl
theorem k_inPlace : (Rows.progManyRow.inPlace == Tryz.prog.inPlace 15) = true := by kernel_rfl
theorem k_unfollowed : (Rows.progManyRow.unfollowed == Tryz.prog.unfollowed 15) = true := by kernel_rfl
theorem k_recurses : (Rows.progManyRow.recurses == Tryz.prog.recurses 15) = true := by kernel_rfl
theorem k_named : (Rows.progManyRow.named == Tryz.prog.varsNamed 15) = true := by kernel_rfl
theorem k_maps : (Rows.progManyRow.maps == (Tryz.f15.params.toList ++ ((OpenSpec.ofChange Rows.progManySpec)).bare.plain.varTypes Tryz.prog).any (Tryz.prog.mapsRec ·)) = true := by kernel_rfl
theorem k_ifaces : (Rows.progManyRow.ifaces == (Tryz.f15.params.toList ++ ((OpenSpec.ofChange Rows.progManySpec)).bare.plain.varTypes Tryz.prog).any (Tryz.prog.ifacesRec ·)) = true := by kernel_rfl
theorem k_mapsOut : (Rows.progManyRow.mapsOut == Tryz.prog.mapsAmong Tryz.f15.resultTypes.toList) = true := by kernel_rfl
theorem k_loops : (Rows.progManyRow.loops == (Tryz.f15.params.toList ++ ((OpenSpec.ofChange Rows.progManySpec)).bare.plain.varTypes Tryz.prog).any (Tryz.prog.loopsFrom ·)) = true := by kernel_rfl
theorem k_wideKeys : (Rows.progManyRow.wideKeys == (Tryz.f15.params.toList ++ ((OpenSpec.ofChange Rows.progManySpec)).bare.plain.varTypes Tryz.prog ++ Tryz.f15.resultTypes.toList).any (Tryz.prog.wideKeysFrom ·)) = true := by kernel_rfl
theorem closed : joinedFacts Tryz.prog 15 Tryz.f15 ((OpenSpec.ofChange Rows.progManySpec)).bare Rows.progManyRow = true := by
  unfold joinedFacts
  simp only [Bool.and_eq_true]
  repeat' apply And.intro
  · exact k_wf
  · exact X.Whole.laidOut
  · exact X.Whole.mapsRowed
  · exact k_readable
  · exact k_tie
  · exact k_stops
  · exact X.Whole.stops
  · exact k_knobs
  · exact X.Whole.stopKnobs
  · exact k_inPlace
  · exact k_unfollowed
  · exact k_recurses
  · exact k_named
  · exact k_maps
  · exact k_ifaces
  · exact k_mapsOut
  · exact k_loops
  · exact k_wideKeys
  · kernel_rfl
  · kernel_rfl
  · kernel_rfl
  · kernel_rfl
  · exact X.Whole.plainKeys
  · kernel_rfl
  · exact X.Whole.stopsHeard
  · exact X.Whole.mayEnter
  · exact X.Whole.lifted
  · exact X.Whole.make
  · kernel_rfl
  · kernel_rfl
  · kernel_rfl
  · kernel_rfl
theorem k_name : Tryz.pinned.checked.prog.funcNamed Rows.progManyRow.func = some 15 := by kernel_rfl
theorem k_wrap : Tryz.f15.isWrapper Tryz.pinned.checked.prog Rows.progManyRow.wrapper Rows.progManyRow.mainSum := by unfold Func.isWrapper; first | (rw [if_pos (by decide +kernel)]; kernel_rfl) | (rw [if_neg (by decide +kernel)]; exact ⟨rfl, rfl⟩)
theorem k_inst : Tryz.f15.isInstance Tryz.pinned.checked.prog Rows.progManyRow.origin Rows.progManyRow.targs := of_decide_eq_true (by kernel_rfl)
theorem said : Rows.ProgManySaid :=
  OpenClaim.holds_of_cond 15 Tryz.f15 rfl rfl rfl rfl rfl rfl rfl ⟨rfl, rfl, rfl, rfl, rfl⟩ rfl rfl rfl rfl rfl k_name Tryz.func15 closed
    k_inst k_wrap
    (fun os started H enc _ F => by rw [OpenClaim.pre_eq_preRow]; exact lifted os started H enc F)

theorem plain (f : FuncId) (fn : Func) (hf : Tryz.pinned.checked.prog.funcNamed "chancel/chancellaw06.ProgMany" = some f) (hfn : Tryz.pinned.checked.prog.funcs[f]? = some fn) :
    true = Tryz.pinned.checked.prog.looks [] ∧ ∀ (j : Nat) t, fn.params[j]? = some t → Tryz.pinned.checked.prog.wantsStandIn t = false := by
  obtain rfl : f = 15 := Option.some.inj ((show Tryz.prog.funcNamed "chancel/chancellaw06.ProgMany" = some 15 by kernel_rfl).symm.trans hf) |>.symm
  obtain rfl : fn = Tryz.f15 := (Option.some.inj (Tryz.func15.symm.trans hfn)).symm
  refine ⟨by kernel_rfl, fun j t ht => ?_⟩
  rw [Tryz.params15] at ht
  have hm : t ∈ [5, 5] := by simpa using Array.mem_of_getElem? ht
  have hall : ([5, 5].all fun u => !Tryz.prog.wantsStandIn u) = true := by kernel_rfl
  exact (show Tryz.prog.wantsStandIn t = false by simpa using List.all_eq_true.1 hall t hm)

theorem card : Rows.ProgManyCardSaid :=
  Claim7.holds_tied_plain_at .later [] _ _ _ _ said (fun _ h => by cases h) (by kernel_rfl) (fun _ h => by cases h) progMany_row_tie rfl ⟨rfl, rfl⟩ (by kernel_rfl) rfl plain (by kernel_rfl)
#print axioms card
end Go.Proofs.YtchekgnacodolaaGreatDoor.progMany
