/- chancel/lex.mark: the token of a mark that stands at a text's beginning. -/
import Derived.Test.YtchekgnacodolaaGreatDoorHnumber
namespace Go.Proofs.YtchekgnacodolaaGreatDoor.X
open Go.RowKit Go.Proofs.YtchekgnacodolaaGreatDoorW.PrintWords
set_option linter.unusedSimpArgs false
set_option linter.unusedVariables false

def preOf (s m : ByteArray) : Bool := Lib.hasPrefix s.data.toList m.data.toList
def markIdx (s : ByteArray) : Nat := markWords.findIdx (preOf s)
def lex_mark.f (a0 : ByteArray) : Option (Int × ByteArray × Int × Bool) :=
  if markIdx a0 < 13 then some (4, markWords.getD (markIdx a0) ByteArray.empty, 0, true) else some (0, ⟨#[]⟩, 0, false)

theorem pre_calls (s m : ByteArray) (p : Addr) (w : World) (hp : w.cell? p = some (.string s)) :
    Calls Tryz.prog 153 #[.string m, .pointer (some p)] w fun e w' => e = .returned (.bool (preOf s m)) ∧ w' = w := by
  have K := Tryz.strings_HasPrefix s m w
  have HK := Lib.hid K
  clear K
  go_enter Tryz.func153, Tryz.ntmps153
  go_wp2_with (go_at_call 154; refine (HK.out).mono ?_; rintro e w' ⟨rfl, rfl⟩)
  go_ret
  exact ⟨rfl, rfl⟩

set_option maxHeartbeats 1000000 in
theorem idx_calls (s : ByteArray) (p : Addr) (w : World) (hG : GL w) (hp : w.cell? p = some (.string s)) :
    Calls Tryz.prog 152 #[.slice (some ⟨4, 0, none⟩) 13 13, .func (.func 153) #[] #[.pointer (some p)]] w fun e w' => e = .returned (.int .i64 (if markIdx s < 13 then (markIdx s : Int) else -1)) ∧ w' = w := by
  have HP := Aside0.mk (fun m => pre_calls s m p w hp)
  obtain ⟨r, hr⟩ : ∃ r : Int, (if markIdx s < 13 then (markIdx s : Int) else -1) = r := ⟨_, rfl⟩
  rw [hr]
  have HR := Aside0.mk hr
  have HG := Aside0.mk hG
  clear hr hG hp
  go_enter Tryz.func152, Tryz.ntmps152
  go_wp2_with fail
  go_loop [8] (fun v => ∃ k : Nat, k ≤ 13 ∧ v = .int .i64 k ∧ Aside0 (∀ j, j < k → preOf s (markWords.getD j ByteArray.empty) = false)) (fun v => 13 - (intOf v).toNat)
  case atStart => exact ⟨0, by omega, rfl, ⟨fun j h => absurd h (by omega)⟩⟩
  case round =>
    obtain ⟨k, hk, rfl, hA⟩ := hrel
    by_cases hlt : k < 13
    · have hc : w.cell? ⟨4, k, none⟩ = some (.string (markWords.getD k ByteArray.empty)) := by
        rw [HG.out.mark k, List.getElem?_map, List.getD_eq_getElem?_getD, List.getElem?_eq_getElem (show k < markWords.length from hlt)]; rfl
      have hlen : markWords.length = 13 := rfl
      obtain ⟨m, hm⟩ : ∃ m, markWords.getD k ByteArray.empty = m := ⟨_, rfl⟩
      rw [hm] at hc
      have HM := Aside0.mk hm
      clear hm hlen
      obtain ⟨b, hb⟩ : ∃ b, preOf s m = b := ⟨_, rfl⟩
      have K := HP.out m
      rw [hb] at K
      have HK := Lib.hid K
      have HB := Aside0.mk hb
      clear hb K
      cases b with
      | true =>
        have hfin : Aside0 ((k : Int) = r) := ⟨by
          rw [← HR.out]
          have : markIdx s = k := by
            unfold markIdx
            rw [List.findIdx_eq (by exact hlt)]
            refine ⟨?_, fun j hj => ?_⟩
            · have h1 := HB.out
              rw [← HM.out, List.getD_eq_getElem?_getD, List.getElem?_eq_getElem (show k < markWords.length from hlt)] at h1
              exact h1
            · have h1 := hA.out j hj
              rw [List.getD_eq_getElem?_getD, List.getElem?_eq_getElem (show j < markWords.length from Nat.lt_trans hj hlt)] at h1
              exact h1
          rw [this, if_pos hlt]⟩
        go_wp2_with (go_at_call 153; refine (HK.out).mono ?_; rintro e w' ⟨rfl, rfl⟩)
        go_ret
        exact ⟨by rw [hfin.out]; rfl, rfl⟩
      | false =>
        go_wp2_with (go_at_call 153; refine (HK.out).mono ?_; rintro e w' ⟨rfl, rfl⟩)
        go_round
        case rel =>
          refine ⟨k + 1, hlt, by go_num, ⟨fun j hj => ?_⟩⟩
          rcases Nat.lt_or_ge j k with h | h
          · exact hA.out j h
          · have : j = k := by omega
            subst this
            rw [HM.out]; exact HB.out
        case measure => simp [intOf]; omega
    · have hfin : Aside0 ((-1 : Int) = r) := ⟨by
        rw [← HR.out]
        have : ¬ markIdx s < 13 := by
          unfold markIdx
          intro h
          have h2 : markWords.findIdx (preOf s) < markWords.length := h
          have h1 := List.findIdx_getElem (w := h2)
          have h3 := hA.out (markWords.findIdx (preOf s)) (by omega)
          rw [List.getD_eq_getElem?_getD, List.getElem?_eq_getElem h2] at h3
          simp only [Option.getD_some] at h3
          rw [h3] at h1; cases h1
        rw [if_neg this]⟩
      go_wp2_with fail
      go_ret
      exact ⟨by rw [hfin.out]; rfl, rfl⟩

set_option maxHeartbeats 1000000 in
theorem lex_mark.calls (a0 : ByteArray) (r1 : Int) (r2 : ByteArray) (r3 : Int) (r4 : Bool) (w : World) (hG : GL w) (h : lex_mark.f a0 = some (r1, r2, r3, r4)) :
    Calls Tryz.prog 103 #[.string a0] w fun e w' => e = .returned (.tuple #[.agg #[.int .i64 r1, .string r2, .int .i64 r3], .bool r4]) ∧ Below w.heap.size w w' := by
  have HG := Aside0.mk hG
  have hg1 : 4 < w.heap.size := by
    have := World.block_lt_of_cell? w _ ((hG.mark 0).trans rfl); exact this
  clear hG
  unfold lex_mark.f at h
  by_cases hm : markIdx a0 < 13
  · rw [if_pos hm] at h
    simp only [Option.some.injEq, Prod.mk.injEq] at h
    obtain ⟨rfl, rfl, rfl, rfl⟩ := h
    have hc0 : w.cell? ⟨4, markIdx a0, none⟩ = some (.string (markWords.getD (markIdx a0) ByteArray.empty)) := by
      rw [HG.out.mark _, List.getElem?_map, List.getD_eq_getElem?_getD, List.getElem?_eq_getElem (show markIdx a0 < markWords.length from hm)]; rfl
    have K := fun W hG hp => idx_calls a0 ⟨w.heap.size, 0, none⟩ W hG hp
    rw [if_pos hm] at K
    have HK := Lib.hid K
    obtain ⟨n, hn⟩ : ∃ n, markIdx a0 = n := ⟨_, rfl⟩
    rw [hn] at hm hc0 HK
    obtain ⟨m, hmm⟩ : ∃ m, markWords.getD n ByteArray.empty = m := ⟨_, rfl⟩
    rw [hmm] at hc0
    rw [hn, hmm]
    have hc1 : ∀ o1 o2, ((w.alloc o1).alloc o2).cell? ⟨4, n, none⟩ = some (.string m) := fun o1 o2 =>
      pw_cell_below (below_alloc (below_alloc (Below.refl _ _) _) _) hc0
    clear K hn hmm hc0
    go_enter Tryz.func103, Tryz.ntmps103
    go_wp2_with fail
    refine (HK.out _ ((HG.out.alloc _).alloc _) (by simp)).mono ?_
    rintro e w1 ⟨rfl, rfl⟩
    go_wp2_with fail
    refine bodyPost_ret (v := .tuple #[.agg #[.int .i64 4, .string m, .int .i64 0], .bool true]) (by simp [results, Tryz.results103, go_sem]) rfl ⟨rfl, ?_⟩
    exact below_alloc (below_alloc (Below.refl _ _) _) _
  · rw [if_neg hm] at h
    simp only [Option.some.injEq, Prod.mk.injEq] at h
    obtain ⟨rfl, rfl, rfl, rfl⟩ := h
    have K := fun W hG hp => idx_calls a0 ⟨w.heap.size, 0, none⟩ W hG hp
    rw [if_neg hm] at K
    have HK := Lib.hid K
    clear K hm
    go_enter Tryz.func103, Tryz.ntmps103
    go_wp2_with fail
    refine (HK.out _ ((HG.out.alloc _).alloc _) (by simp)).mono ?_
    rintro e w1 ⟨rfl, rfl⟩
    go_wp2_with fail
    refine bodyPost_ret (v := .tuple #[.agg #[.int .i64 0, .string ⟨#[]⟩, .int .i64 0], .bool false]) (by simp [results, Tryz.results103, go_sem]) rfl ⟨rfl, ?_⟩
    exact below_alloc (below_alloc (Below.refl _ _) _) _
end Go.Proofs.YtchekgnacodolaaGreatDoor.X
