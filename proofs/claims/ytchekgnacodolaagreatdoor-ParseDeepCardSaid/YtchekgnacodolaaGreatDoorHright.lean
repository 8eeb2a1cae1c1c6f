/- chancel/lex.Right: may tokens be? -/
import Derived.Test.YtchekgnacodolaaGreatDoorXlexTokright
namespace Go.Proofs.YtchekgnacodolaaGreatDoor.X
open Go.RowKit Go.Proofs.YtchekgnacodolaaGreatDoorW.PrintWords
set_option linter.unusedSimpArgs false
set_option linter.unusedVariables false

def lex_Right.f (k : Nat) : List S106 → Option Bool
  | [] => some true
  | x :: l => (lex_Tok_right.f k x.f0 x.f1 x.f2).bind fun b => if b = true then lex_Right.f k l else some false
theorem lex_Right.mono : ∀ a0 k, LeO (lex_Right.f k a0) (lex_Right.f (k + 1) a0) := by
  intro l k
  induction l with
  | nil => exact LeO.refl _
  | cons x l ih =>
    unfold lex_Right.f
    exact LeO.bind (lex_Tok_right.mono _ _ _ _) fun b => LeO.ite ih (LeO.refl _)

theorem wrong_calls (k : Nat) (x : S106) (b : Bool) (w : World) (hG : GL w) (h : lex_Tok_right.f k x.f0 x.f1 x.f2 = some b) :
    Calls Tryz.prog 62 #[.agg #[.int .i64 x.f0, .string x.f1, .int .i64 x.f2]] w fun e w' => e = .returned (.bool (!b)) ∧ Below w.heap.size w w' := by
  have HK := Aside0.mk (fun W hG => lex_Tok_right.calls k x.f0 x.f1 x.f2 b W hG h)
  have HG := Aside0.mk hG
  clear h hG
  go_enter Tryz.func62, Tryz.ntmps62
  go_wp2_with fail
  refine (HK.out _ (HG.out.alloc _)).mono ?_
  rintro e w1 ⟨rfl, hb⟩
  have HB := Aside0.mk hb
  clear hb
  go_wp2_with fail
  go_ret
  exact ⟨rfl, below_then ((Below.refl _ _).alloc (Nat.le_refl _) _) (by simp) HB.out⟩

set_option maxHeartbeats 1000000 in
theorem find_calls (k : Nat) (A0 : Option Addr) (c0 : Nat) (l0 : List S106) (r : Bool) (w : World) (hG : GL w) (hr0 : Kd.C k106 w A0 l0.length l0) (hc0 : l0.length ≤ c0) (h : lex_Right.f k l0 = some r) :
    Calls Tryz.prog 104 #[.slice A0 l0.length c0, .func (.func 62) #[] #[]] w fun e w' => ∃ i : Int, e = .returned (.int .i64 i) ∧ decide (0 ≤ i) = !r ∧ Below w.heap.size w w' := by
  have HR0 := Aside0.mk hr0
  have HC0 := Aside0.mk hc0
  have HG := Aside0.mk hG
  have H := Aside0.mk h
  have HB0 := Aside0.mk (Below.refl w.heap.size w)
  clear hr0 hc0 hG h
  go_enter Tryz.func104, Tryz.ntmps104
  go_wp2_with fail
  go_loopw [8] (fun v w' => ∃ j : Nat, j ≤ l0.length ∧ v = .int .i64 j ∧ Aside0 (lex_Right.f k (l0.drop j) = some r) ∧ Aside0 (Below w.heap.size w w')) (fun v _ => l0.length - (intOf v).toNat)
  case atStart => exact ⟨0, Nat.zero_le _, rfl, H, HB0⟩
  case round =>
    obtain ⟨j, hj, rfl, hA, hB⟩ := hrel
    by_cases hlt : j < l0.length
    · obtain ⟨ad, e1, h1, h2, h3⟩ := at_T106 (Kd.C_below HR0.out hB.out) (j : Int) (by omega) (by omega)
      cases e1
      rw [Int.toNat_natCast] at h1 h2 h3
      have hbig : l0.length ≤ 9223372036854775807 := HR0.out.2.1
      have hd : l0.drop j = rd_T106 l0 (j : Int) :: l0.drop (j + 1) := by
        rw [List.drop_eq_getElem_cons hlt]
        congr 1
        unfold rd_T106
        simp [List.getD_eq_getElem?_getD, List.getElem?_eq_getElem hlt]
      have hA2 := hA.out
      rw [hd] at hA2
      unfold lex_Right.f at hA2
      rw [Option.bind_eq_some_iff] at hA2
      obtain ⟨b, hb1, hb2⟩ := hA2
      have HB1 := Aside0.mk hb1
      have HB2 := Aside0.mk hb2
      clear hb1 hb2 hd
      obtain ⟨x, hx⟩ : ∃ x, rd_T106 l0 (j : Int) = x := ⟨_, rfl⟩
      rw [hx] at h1 h2 h3 HB1
      clear hx
      cases b with
      | true =>
        go_wp2_with fail
        refine (wrong_calls k x true _ (HG.out.below hB.out) HB1.out).mono ?_
        rintro e w1 ⟨rfl, hb⟩
        have HBX := Aside0.mk (below_step hB.out hb)
        clear hb
        go_wp2_with fail
        go_roundw
        case rel => exact ⟨j + 1, hlt, by go_num, ⟨by have := HB2.out; simpa using this⟩, HBX⟩
        case measure => simp [intOf]; omega
      | false =>
        go_wp2_with fail
        refine (wrong_calls k x false _ (HG.out.below hB.out) HB1.out).mono ?_
        rintro e w1 ⟨rfl, hb⟩
        have HBX := Aside0.mk (below_step hB.out hb)
        clear hb
        go_wp2_with fail
        go_ret
        refine ⟨j, rfl, ?_, HBX.out⟩
        have := HB2.out
        simp at this
        subst this
        simp
    · have hA2 := hA.out
      rw [List.drop_of_length_le (by omega)] at hA2
      have hr : r = true := by simpa [lex_Right.f] using hA2.symm
      have HRR := Aside0.mk hr
      clear hr hA2
      go_wp2_with fail
      go_ret
      exact ⟨-1, rfl, by rw [HRR.out]; rfl, hB.out⟩

theorem has_calls (k : Nat) (A0 : Option Addr) (c0 : Nat) (l0 : List S106) (r : Bool) (w : World) (hG : GL w) (hr0 : Kd.C k106 w A0 l0.length l0) (hc0 : l0.length ≤ c0) (h : lex_Right.f k l0 = some r) :
    Calls Tryz.prog 61 #[.slice A0 l0.length c0, .func (.func 62) #[] #[]] w fun e w' => e = .returned (.bool (!r)) ∧ Below w.heap.size w w' := by
  have HK := Aside0.mk (find_calls k A0 c0 l0 r w hG hr0 hc0 h)
  clear hr0 hc0 hG h
  go_enter Tryz.func61, Tryz.ntmps61
  go_wp2_with (go_at_call 104; refine HK.out.mono ?_; rintro e w1 ⟨i, rfl, hi, hb⟩; have HB := Aside0.mk hb; have HI := Aside0.mk hi; clear hb hi)
  go_ret
  exact ⟨by rw [← HI.out]; rfl, HB.out⟩

theorem lex_Right.calls (k : Nat) (A0 : Option Addr) (c0 : Nat) (l0 : List S106) (r : Bool) (w : World) (hG : GL w) (hr0 : Kd.C k106 w A0 l0.length l0) (hc0 : l0.length ≤ c0) (h : lex_Right.f k l0 = some r) :
    Calls Tryz.prog 28 #[.slice A0 l0.length c0] w fun e w' => e = .returned (.bool r) ∧ Below w.heap.size w w' := by
  have HK := Aside0.mk (has_calls k A0 c0 l0 r w hG hr0 hc0 h)
  clear hr0 hc0 hG h
  go_enter Tryz.func28, Tryz.ntmps28
  go_wp2_with (go_at_call 61; refine HK.out.mono ?_; rintro e w1 ⟨rfl, hb⟩; have HB := Aside0.mk hb; clear hb)
  go_ret
  exact ⟨by simp, HB.out⟩
end Go.Proofs.YtchekgnacodolaaGreatDoor.X
