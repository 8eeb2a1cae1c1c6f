/- Chapter 2's examples: they are so (the call ahead of each statement). -/
import Derived.Test.YtcpknmffnglegaaDoorLexC
namespace Go.Proofs.YtcpknmffnglegaaDoor.X
open Go.RowKit Go.Proofs.YtcpknmffnglegaaDoorW.PrintWords
set_option linter.unusedSimpArgs false
set_option linter.unusedVariables false
set_option maxHeartbeats 4000000 in
set_option maxRecDepth 100000 in
theorem examplesC (w : World) (hG : GL w) : Calls Tryd.prog 9 #[] w fun e w' => e = .returned (.bool true) ∧ Below w.heap.size w w' := by
  have HG := Aside0.mk hG
  have HB0 := Aside0.mk (Below.refl w.heap.size w)
  clear hG
  have K1 := Aside0.mk (fun W hW => exA_lex ▸ lexC _ (by decide) W hW)
  have K2 := Aside0.mk (fun W hW => exB_lex ▸ lexC _ (by decide) W hW)
  have K3 := Aside0.mk (fun W hW => exC_lex ▸ lexC _ (by decide) W hW)
  have K4 := Aside0.mk (fun W hW => exD_lex ▸ lexC _ (by decide) W hW)
  go_enter Tryd.func9, Tryd.ntmps9
  go_wp2_with fail
  refine (K1.out _ HG.out).mono ?_
  rintro e w1 ⟨A1, c1, rfl, hr1, hg, hb⟩
  obtain ⟨g, rfl⟩ := hg (by decide)
  clear hg
  have R1 := Aside0.mk hr1
  have HB1 := Aside0.mk hb
  clear hb hr1
  go_wp2_with fail
  refine (K2.out _ (HG.out.below HB1.out)).mono ?_
  rintro e w2 ⟨A2, c2, rfl, -, -, hb⟩
  have HB2 := Aside0.mk (below_step HB1.out hb)
  have R1 := Aside0.mk (R1.out.below hb)
  clear hb HB1
  go_wp2_with fail
  refine (K3.out _ (HG.out.below HB2.out)).mono ?_
  rintro e w3 ⟨A3, c3, rfl, -, -, hb⟩
  have HB3 := Aside0.mk (below_step HB2.out hb)
  have R1 := Aside0.mk (R1.out.below hb)
  clear hb HB2
  go_wp2_with fail
  refine (K4.out _ (HG.out.below HB3.out)).mono ?_
  rintro e w4 ⟨A4, c4, rfl, -, -, hb⟩
  have HB4 := Aside0.mk (below_step HB3.out hb)
  have R1 := Aside0.mk (R1.out.below hb)
  clear hb HB3
  obtain ⟨t00, t01, t02⟩ := R1.out.at_ 0 ⟨3, ⟨#[108, 101, 116]⟩, 0⟩ rfl
  obtain ⟨t10, t11, t12⟩ := R1.out.at_ 1 ⟨1, ⟨#[120, 49]⟩, 0⟩ rfl
  obtain ⟨-, t21, -⟩ := R1.out.at_ 2 ⟨4, ⟨#[61, 62]⟩, 0⟩ rfl
  obtain ⟨-, t31, -⟩ := R1.out.at_ 3 ⟨4, ⟨#[58, 61]⟩, 0⟩ rfl
  obtain ⟨t40, t41, t42⟩ := R1.out.at_ 4 ⟨2, ⟨#[49, 50]⟩, 12⟩ rfl
  obtain ⟨-, t61, -⟩ := R1.out.at_ 6 ⟨4, ⟨#[33]⟩, 0⟩ rfl
  obtain ⟨t70, -, -⟩ := R1.out.at_ 7 ⟨3, ⟨#[102, 117, 110]⟩, 0⟩ rfl
  simp only [Nat.reduceMul, Nat.reduceAdd, Nat.zero_add] at t00 t01 t02 t10 t11 t12 t21 t31 t40 t41 t42 t61 t70
  rw [show exA.length = 8 from rfl]
  go_wp2_with fail
  clear t00 t01 t02 t10 t11 t12 t21 t31 t40 t41 t42 t61 t70
  have P := printC exA (some ⟨g, 0, none⟩) c1 (by decide) (by rw [exA_print]; decide)
  rw [exA_print] at P
  have P1 := Aside0.mk P
  clear P
  have Q := rightC exA (some ⟨g, 0, none⟩) c1 (by decide +kernel)
  rw [exA_right] at Q
  have Q1 := Aside0.mk Q
  clear Q
  refine (Q1.out _ (HG.out.below HB4.out) R1.out).mono ?_
  rintro e w5 ⟨rfl, hb⟩
  have HB5 := Aside0.mk (below_step HB4.out hb)
  have R1 := Aside0.mk (R1.out.below hb)
  clear hb HB4
  go_wp2_with fail
  refine (P1.out _ R1.out).mono ?_
  rintro e w6 ⟨rfl, hb⟩
  have HB6 := Aside0.mk (below_step HB5.out hb)
  clear hb HB5
  have W1 := exWith ▸ keywordC ⟨#[119, 105, 116, 104]⟩
  have W2 := exX ▸ keywordC ⟨#[120]⟩
  have W1 := Aside0.mk W1
  have W2 := Aside0.mk W2
  simp only [B]
  go_wp2_with fail
  refine (W1.out _ (HG.out.below HB6.out)).mono ?_
  rintro e w7 ⟨rfl, hb⟩
  have HB7 := Aside0.mk (below_step HB6.out hb)
  clear hb HB6
  go_wp2_with fail
  refine (W2.out _ (HG.out.below HB7.out)).mono ?_
  rintro e w8 ⟨rfl, hb⟩
  have HB8 := Aside0.mk (below_step HB7.out hb)
  clear hb HB7
  go_wp2_with fail
  go_ret
  exact ⟨rfl, HB8.out⟩
/-- The same, in the printed form. -/
def chancellaw02_examples.f : Option Bool := some true
theorem chancellaw02_examples.calls (r : Bool) (w : World) (hG : GL w) (h : chancellaw02_examples.f = some r) : Calls Tryd.prog 9 #[] w fun e w' => e = .returned (.bool r) ∧ Below w.heap.size w w' := by
  obtain rfl := Option.some.inj h
  exact examplesC w hG
end Go.Proofs.YtcpknmffnglegaaDoor.X
