/- ParseTells: the row and the card, out of its walk. Written by our own program (wip/tools/rowgen.py). -/
import Derived.Deep.RegionHeld3
import Derived.Test.YtchekgnacodolaaGreatDoorCards
import Derived.Test.YtchekgnacodolaaGreatDoorTie
import Derived.WalkKit
import Derived.ProofKit
import Derived.OpenShut
import Derived.ShutString
import Derived.LaidMore
import Derived.Deep.DeepWitnessRowRef
import Derived.Below
import Derived.SizedLaws
import Derived.ChangeSlices
import Derived.Test.YtchekgnacodolaaGreatDoorJ2
import Derived.Test.YtchekgnacodolaaGreatDoorJ19
import Derived.Test.YtchekgnacodolaaGreatDoorJ22
import Derived.Test.YtchekgnacodolaaGreatDoorJ29
import Derived.Test.YtchekgnacodolaaGreatDoorJ30
import Derived.Test.YtchekgnacodolaaGreatDoorJLawTells5
set_option maxHeartbeats 4000000
set_option maxRecDepth 100000
namespace Go.Proofs.YtchekgnacodolaaGreatDoor.parseTells
open Go.ChangeShapes Go.WideShapes Go.ChangeAt Go.RowKit Go.Proofs.YtchekgnacodolaaGreatDoorW Go.Proofs.YtchekgnacodolaaGreatDoorW.PrintWords
open Go.ChangeMaps (open_string shut_string)
set_option linter.unusedVariables false
theorem own : ownKnob Tryz.prog.godebug = none := by kernel_rfl
theorem laidOut : laidOutB Tryz.prog = true := X.Whole.laidOut
set_option linter.unusedSimpArgs false
theorem contract (H : Type) (enc : TypeId × Value → H) (W : World) (base : Nat) (args : Array Value) (ds gs : List (DataW H)) (before : List MemPlace)
  (hval : ∀ (j : Nat) t v, Tryz.f3.params[j]? = some t → args[j]? = some v → Value.okWide Tryz.prog W .any base t v)
  (hW : DataW.Whole enc Tryz.prog Tryz.f3.params.toList Rows.parseTellsSpec.vars false W args.toList ds gs before)
  (hsz : (DataW.weightsEach Tryz.prog (Tryz.f3.params.toList ++ Rows.parseTellsSpec.plain.varTypes Tryz.prog) (ds ++ gs)).all (· ≤ reachBytes) = true)
  (hG : X.GL W) :
  Calls Tryz.prog 3 args W fun e W' => ∃ v, e = .returned v ∧ Rows.parseTellsSpec.post enc Tryz.prog Tryz.f3 false true false false W args v W' := by
 have hW' := hW
 obtain ⟨p, q, hA0, hV, rfl, hfz, hnd⟩ := hW
 have hA : DataW.TrodAll enc Tryz.prog W 0 (fun _ => true) true Tryz.f3.params.toList args.toList ds p := hA0
 rw [Tryz.params3] at hA hval hsz
 obtain ⟨v0, vs0, d0, ds0, p0, q0, hargs, rfl, rfl, h0, r0⟩ := trodAll_cons hA
 obtain ⟨v1, vs1, d1, ds1, p1, q1, rfl, rfl, rfl, h1, r1⟩ := trodAll_cons r0
 obtain ⟨rfl, rfl, rfl⟩ := trodAll_nil r1
 obtain rfl : args = #[v0, v1] := by cases args; simp_all
 obtain ⟨rfl, rfl⟩ := trodVars_none hV
 obtain ⟨a0, len0, cap0, rfl⟩ := okWide_slice Tryz.underlying22 (hval 0 22 v0 rfl rfl)
 have k0 := h0
 have lt0 : ∀ x ∈ p0, x.block < W.heap.size := by obtain ⟨m, hm⟩ := k0; exact DataW.trod_lt m _ _ _ hm
 obtain ⟨l0, rfl, hr0, hz0, hs0, hwt0⟩ := X.toks_of_trod h0
 have sw0 : ∀ t ∈ l0, t.f1.size ≤ 281474976710656 := fun t ht => by
  have z := List.all_eq_true.1 hsz _ (DataW.weights_mem_each (j := 0) (t := 22) rfl rfl _ (hwt0 t ht))
  have z2 : t.f1.size ≤ reachBytes := by simpa using z
  exact Nat.le_trans z2 (by decide)
 obtain ⟨a1, rfl, rfl, rfl, y1⟩ := open_string Tryz.underlying9 (hval 1 9 v1 rfl rfl) h1
 have w1 : a1.size ≤ 140737488351232 := by
  have z := sized_string hsz (j := 1) (t := 9) rfl rfl
  rw [Array.length_toList] at z
  exact z
 clear hA0 hsz
 have walk := X.lawTells5 W hG a0 cap0 l0 hr0 sw0 a1.data.toList (by have := X.size_len a1; omega)
 simp only [X.B_of] at walk
 refine walk.mono fun e W' ⟨he, bel⟩ => ?_
 subst he
 exact ⟨_, rfl, _, _, _, [], _, [], hW', trodAll_mk1 (shut_bool Tryz.underlying4 _), (trodAll_cons_mk (Below.trod laidOut (by kernel_rfl) (of_decide_eq_true (by kernel_rfl)) k0 bel lt0) (trodAll_cons_mk (shut_string Tryz.underlying9 y1) trodAll_mk0)), rfl, bel.frame _, fun h => by cases h⟩
theorem laid_met (os : Os) : laidMetH Tryz.prog Rows.parseTellsRow.laid (((World.doorLaid Tryz.prog 100 os)).forCall (fun _ _ => 0) ⟨#[], #[.slice none 0 0, .string ByteArray.empty], []⟩).memory :=
 laidMetH_of_parts3 (fuel := 8) (laidMet_of_run' 8 (by kernel_rfl) (by kernel_rfl)) (by kernel_rfl) (by kernel_rfl)
theorem reads (os : Os) {H : Type} (enc : TypeId × Value → H) : ∃ places, DataW.whole enc Tryz.prog ((World.doorLaid Tryz.prog 100 os).forCall (fun _ _ => 0) ⟨#[], #[.slice none 0 0, .string ByteArray.empty], []⟩).memory Tryz.f3.params.toList Rows.parseTellsSpec.vars false (#[.slice none 0 0, .string ByteArray.empty] : Array Value).toList 8 = some ([.nil, .lit (.string [])], [], places) :=
 ⟨[], by kernel_rfl⟩
theorem lifted (os : Os) (started : os.Started) (H : Type) (enc : TypeId × Value → H) (F : Stop.Interp) :
  ReturnsInHanded {} Tryz.checked os 3 .any ((OpenSpec.ofChange Rows.parseTellsSpec).preRow enc Tryz.prog Tryz.f3 Rows.parseTellsRow.domain false Rows.parseTellsRow.laid) (((OpenSpec.ofChange Rows.parseTellsSpec).at F).post enc Tryz.prog Tryz.f3 false true false false) := by
 obtain ⟨places, hx⟩ := reads os enc
 refine returnsInHanded_of_row (C := Tryz.checked) (s := (OpenSpec.ofChange Rows.parseTellsSpec)) own started (by kernel_rfl) Tryz.func3
  (witness_row_atRef (enc := enc) (C := Tryz.checked) false (World.doorLaid Tryz.prog 100 os) #[.slice none 0 0, .string ByteArray.empty] rfl (by kernel_rfl) (by kernel_rfl) (by kernel_rfl)
   (OpenSpec.preRow_of_cond 8 hx (by kernel_rfl) (fun k hk => by cases hk) (by kernel_rfl) (laid_met os))) ?_
 intro W base args ds gs before hval hW _ _ hsz hL hS _
 exact contract H enc W base args ds gs before hval hW hsz (X.GL.of_laid hL hS)
theorem k_wf : Rows.parseTellsRow.wf (OpenSpec.ofChange ((OpenSpec.ofChange Rows.parseTellsSpec)).bare) = true := by kernel_rfl
theorem k_readable : Tryz.f3.params.all (Tryz.prog.readableRec ·) = true := by kernel_rfl
theorem k_tie : namedTie Tryz.prog Rows.parseTellsRow.named ((OpenSpec.ofChange Rows.parseTellsSpec)).bare.vars = true := by kernel_rfl
theorem k_stops : (Rows.parseTellsRow.stops == []) = true := by kernel_rfl
theorem k_knobs : (Rows.parseTellsRow.knobs == []) = true := by kernel_rfl
theorem k_inPlace : (Rows.parseTellsRow.inPlace == Tryz.prog.inPlace 3) = true := by kernel_rfl
theorem k_unfollowed : (Rows.parseTellsRow.unfollowed == Tryz.prog.unfollowed 3) = true := by kernel_rfl
theorem k_recurses : (Rows.parseTellsRow.recurses == Tryz.prog.recurses 3) = true := by kernel_rfl
theorem k_named : (Rows.parseTellsRow.named == Tryz.prog.varsNamed 3) = true := by kernel_rfl
theorem k_maps : (Rows.parseTellsRow.maps == (Tryz.f3.params.toList ++ ((OpenSpec.ofChange Rows.parseTellsSpec)).bare.plain.varTypes Tryz.prog).any (Tryz.prog.mapsRec ·)) = true := by kernel_rfl
theorem k_ifaces : (Rows.parseTellsRow.ifaces == (Tryz.f3.params.toList ++ ((OpenSpec.ofChange Rows.parseTellsSpec)).bare.plain.varTypes Tryz.prog).any (Tryz.prog.ifacesRec ·)) = true := by kernel_rfl
theorem k_mapsOut : (Rows.parseTellsRow.mapsOut == Tryz.prog.mapsAmong Tryz.f3.resultTypes.toList) = true := by kernel_rfl
theorem k_loops : (Rows.parseTellsRow.loops == (Tryz.f3.params.toList ++ ((OpenSpec.ofChange Rows.parseTellsSpec)).bare.plain.varTypes Tryz.prog).any (Tryz.prog.loopsFrom ·)) = true := by kernel_rfl
theorem k_wideKeys : (Rows.parseTellsRow.wideKeys == (Tryz.f3.params.toList ++ ((OpenSpec.ofChange Rows.parseTellsSpec)).bare.plain.varTypes Tryz.prog ++ Tryz.f3.resultTypes.toList).any (Tryz.prog.wideKeysFrom ·)) = true := by kernel_rfl
theorem closed : joinedFacts Tryz.prog 3 Tryz.f3 ((OpenSpec.ofChange Rows.parseTellsSpec)).bare Rows.parseTellsRow = true := by
 unfold joinedFacts
 simp only [Bool.and_eq_true]
 repeat' apply And.intro
 ·exact k_wf
 ·exact X.Whole.laidOut
 ·exact X.Whole.mapsRowed
 ·exact k_readable
 ·exact k_tie
 ·exact k_stops
 ·exact X.Whole.stops
 ·exact k_knobs
 ·exact X.Whole.stopKnobs
 ·exact k_inPlace
 ·exact k_unfollowed
 ·exact k_recurses
 ·exact k_named
 ·exact k_maps
 ·exact k_ifaces
 ·exact k_mapsOut
 ·exact k_loops
 ·exact k_wideKeys
 ·kernel_rfl
 ·kernel_rfl
 ·kernel_rfl
 ·kernel_rfl
 ·exact X.Whole.plainKeys
 ·kernel_rfl
 ·exact X.Whole.stopsHeard
 ·exact X.Whole.mayEnter
 ·exact X.Whole.lifted
 ·exact X.Whole.make
 ·kernel_rfl
 ·kernel_rfl
 ·kernel_rfl
 ·kernel_rfl
theorem k_name : Tryz.pinned.checked.prog.funcNamed Rows.parseTellsRow.func = some 3 := by kernel_rfl
theorem k_wrap : Tryz.f3.isWrapper Tryz.pinned.checked.prog Rows.parseTellsRow.wrapper Rows.parseTellsRow.mainSum := by unfold Func.isWrapper; first | (rw [if_pos (by decide +kernel)]; kernel_rfl) | (rw [if_neg (by decide +kernel)]; exact ⟨rfl, rfl⟩)
theorem k_inst : Tryz.f3.isInstance Tryz.pinned.checked.prog Rows.parseTellsRow.origin Rows.parseTellsRow.targs := of_decide_eq_true (by kernel_rfl)
theorem said : Rows.ParseTellsSaid :=
 OpenClaim.holds_of_cond 3 Tryz.f3 rfl rfl rfl rfl rfl rfl rfl ⟨rfl, rfl, rfl, rfl, rfl⟩ rfl rfl rfl rfl rfl k_name Tryz.func3 closed
  k_inst k_wrap
  (fun os started H enc _ F => by rw [OpenClaim.pre_eq_preRow]; exact lifted os started H enc F)
theorem plain (f : FuncId) (fn : Func) (hf : Tryz.pinned.checked.prog.funcNamed "chancel/chancellaw05.ParseTells" = some f) (hfn : Tryz.pinned.checked.prog.funcs[f]? = some fn) :
  true = Tryz.pinned.checked.prog.looks [] ∧ ∀ (j : Nat) t, fn.params[j]? = some t → Tryz.pinned.checked.prog.wantsStandIn t = false := by
 obtain rfl : f = 3 := Option.some.inj ((show Tryz.prog.funcNamed "chancel/chancellaw05.ParseTells" = some 3 by kernel_rfl).symm.trans hf) |>.symm
 obtain rfl : fn = Tryz.f3 := (Option.some.inj (Tryz.func3.symm.trans hfn)).symm
 refine ⟨by kernel_rfl, fun j t ht => ?_⟩
 rw [Tryz.params3] at ht
 have hm : t ∈ [22, 9] := by simpa using Array.mem_of_getElem? ht
 have hall : ([22, 9].all fun u => !Tryz.prog.wantsStandIn u) = true := by kernel_rfl
 exact (show Tryz.prog.wantsStandIn t = false by simpa using List.all_eq_true.1 hall t hm)
theorem card : Rows.ParseTellsCardSaid :=
 Claim7.holds_tied_plain_at .later [] _ _ _ _ said (fun _ h => by cases h) (by kernel_rfl) (fun _ h => by cases h) parseTells_row_tie rfl ⟨rfl, rfl⟩ (by kernel_rfl) rfl plain (by kernel_rfl)
#print axioms card
end Go.Proofs.YtchekgnacodolaaGreatDoor.parseTells
