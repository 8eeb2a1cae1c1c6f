-- Joined by our own program (wip/tools/prune.py) out of the seat's texts, less what this claim doesn't name.
import Derived.Lib.OthersKept
import Derived.Test.YtchekgnacodolaaGreatDoorJ6
import Derived.Test.YtchekgnacodolaaGreatDoorJ10
section
namespace Go.Proofs.YtchekgnacodolaaGreatDoor.X
open Go.RowKit Go.Proofs.YtchekgnacodolaaGreatDoorW.PrintWords
set_option linter.unusedSimpArgs false
set_option linter.unusedVariables false
def inSet (set : ByteArray) (c : Nat) : Bool := set.data.toList.any fun b => b.toNat == c
def inPre (set : ByteArray) (j c : Nat) : Bool := (set.data.toList.take j).any fun b => b.toNat == c
theorem inPre_all (set : ByteArray) (c j : Nat) (h : ¬ j < set.size) : inPre set j c = inSet set c := by
  unfold inPre inSet
  rw [List.take_of_length_le (by simp at h ⊢; exact h)]
theorem inPre_succ (set : ByteArray) (c j : Nat) (h : j < set.size) : inPre set (j + 1) c = (inPre set j c || (set[j]'h).toNat == c) := by
  unfold inPre
  rw [List.take_succ_eq_append_getElem (by simpa using h), List.any_append]
  simp
  rfl
def asciiSet (set : ByteArray) : Bool := set.data.toList.all fun b => b.toNat < 128
theorem ascii_at {set : ByteArray} (h : asciiSet set = true) (i : Nat) (hi : i < set.size) : (set[i]'hi).toNat < 128 := by
  have := List.all_eq_true.1 h (set[i]'hi) (by
    have : (set[i]'hi) = set.data.toList[i]'(by simpa using hi) := by rfl
    rw [this]; exact List.getElem_mem _)
  simpa using this
theorem ascii_not {set : ByteArray} (h : asciiSet set = true) (c : Nat) (hc : 128 ≤ c) : inSet set c = false := by
  unfold inSet
  rw [List.any_eq_false]
  intro b hb
  have := List.all_eq_true.1 h b hb
  simp at this ⊢
  omega
def lex_cutLeft.f (a0 a1 : ByteArray) : Option ByteArray := if asciiSet a1 = true ∧ a0.size ≤ 140737488355328 then some ⟨(a0.data.toList.dropWhile fun b => inSet a1 b.toNat).toArray⟩ else none
theorem drop_at : ∀ (l : List UInt8) (p : UInt8 → Bool) (i : Nat), (∀ j (h : j < i) (h2 : j < l.length), p (l[j]'h2) = true) → (∀ h : i < l.length, p (l[i]'h) = false) → l.dropWhile p = l.drop i
  | [], _, i, _, _ => by simp
  | b :: l, p, 0, _, h0 => by
    have := h0 (by simp)
    simp at this
    simp [this]
  | b :: l, p, i + 1, h, h0 => by
    have hb := h 0 (by omega) (by simp)
    simp at hb
    rw [List.dropWhile_cons, if_pos hb, List.drop_succ_cons]
    exact drop_at l p i (fun j h1 h2 => by have := h (j + 1) (by omega) (by simpa using h2); simpa using this) (fun h1 => by have := h0 (by simpa using h1); simpa using this)
theorem ext_drop (s : ByteArray) (i : Nat) : s.extract i s.size = ⟨(s.data.toList.drop i).toArray⟩ := by
  apply ByteArray.ext
  rw [ByteArray.data_extract]
  apply Array.toList_inj.1
  rw [Array.toList_extract]
  simp [List.extract]
  exact List.take_of_length_le (by simp)
set_option maxHeartbeats 1000000 in
set_option maxRecDepth 100000 in
theorem cut_walk (s set : ByteArray) (w : World) (hs : s.size ≤ 140737488355328) (hset : Aside0 (asciiSet set = true)) :
    Calls Tryz.prog 149 #[.string s, .string set] w fun e w' => e = .returned (.string ⟨(s.data.toList.dropWhile fun b => inSet set b.toNat).toArray⟩) ∧ Below w.heap.size w w' := by
  obtain ⟨r, hr⟩ : ∃ r : ByteArray, (⟨(s.data.toList.dropWhile fun b => inSet set b.toNat).toArray⟩ : ByteArray) = r := ⟨_, rfl⟩
  rw [hr]
  have HR := Aside0.mk hr
  clear hr
  have hb0 := Aside0.mk (Below.refl w.heap.size w)
  go_enter Tryz.func149, Tryz.ntmps149
  go_wp2_with fail
  go_loopw [] (fun w' => ∃ i : Nat, i ≤ s.size ∧ Aside0 (∀ j (h : j < i) (h2 : j < s.size), inSet set (s[j]'h2).toNat = true) ∧ w'.heap[w.heap.size]? = some (.stringIter s i) ∧ Below w.heap.size w w') (fun w' => s.size - w'.iterPos w.heap.size)
  case atStart => exact ⟨0, Nat.zero_le _, ⟨fun j h => absurd h (by omega)⟩, World.iter_heap w s 0, below_alloc hb0.out _⟩
  case round =>
    obtain ⟨i, hi, HA, hit, hb⟩ := hrel
    have HIT := Aside0.mk hit
    have HB := Aside0.mk hb
    by_cases hlt : i < s.size
    · have hnx : ∀ ty, (Instr.next (.pointer (some ⟨w.heap.size, 0, none⟩)) true ty).run Tryz.prog wr = _ := fun ty => Lib.run_next_any_at wr w.heap.size s i ty hit hlt
      clear hit hb
      obtain ⟨c, wd, hcw⟩ : ∃ c wd, Utf8.decode s i = (c, wd) := ⟨_, _, rfl⟩
      have HC := Aside0.mk hcw
      rw [hcw] at hnx
      clear hcw
      simp only at hnx
      have hz : w.heap.size < wr.heap.size := (Array.getElem?_eq_some_iff.1 HIT.out).1
      obtain ⟨wo, rfl⟩ : ∃ wo : World, wo = wr := ⟨_, rfl⟩
      have hsz := Lib.iterAt_size wo w.heap.size s (i + wd)
      go_wp2_with fail
      clear hsz
      go_loopw [7] (fun v w' => ∃ (j : Nat) (b : Bool), j ≤ set.size ∧ v = .bool b ∧ Aside0 (b = inPre set j c) ∧ w'.heap[wo.heap.size]? = some (.stringIter set j) ∧ Aside0 (w'.heap[w.heap.size]? = some (.stringIter s (i + wd))) ∧ Aside0 (Below w.heap.size w w')) (fun _ w' => set.size - w'.iterPos wo.heap.size)
      case atStart =>
        refine ⟨0, false, Nat.zero_le _, rfl, ⟨by simp [inPre]⟩, ?_, ⟨?_⟩, ⟨below_alloc (Lib.below_iterAt HB.out (Nat.le_refl _) _ _) _⟩⟩
        · have h3 := World.iter_heap (wo.iterAt w.heap.size s (i + wd)) set 0
          rw [Lib.iterAt_size] at h3
          exact h3
        · have h1 := Lib.iterAt_heap wo w.heap.size s i (i + wd) HIT.out
          have h2 : w.heap.size < (wo.iterAt w.heap.size s (i + wd)).heap.size := by rw [Lib.iterAt_size]; exact hz
          show ((wo.iterAt w.heap.size s (i + wd)).heap.push _)[w.heap.size]? = _
          rw [Array.getElem?_push, if_neg (by omega)]
          exact h1
      case round =>
        obtain ⟨j, b, hj, rfl, hin, hit2, hit1, hb⟩ := hrel
        have HIT2 := Aside0.mk hit2
        by_cases hjlt : j < set.size
        · have ha : (set[j]'hjlt).toNat < 128 := ascii_at hset.out j hjlt
          have hnx2 : ∀ ty, (Instr.next (.pointer (some ⟨wo.heap.size, 0, none⟩)) true ty).run Tryz.prog wr = _ := fun ty =>
            Lib.run_next_ascii_at wr wo.heap.size set j ty hit2 hjlt ha
          clear hit2
          have hsc := inPre_succ set c j hjlt
          rw [← hin.out] at hsc
          have HSC := Aside0.mk hsc
          clear hsc
          have hbw : Aside0 (Below w.heap.size w (wr.iterAt wo.heap.size set (j + 1))) := ⟨Lib.below_iterAt hb.out (Nat.le_of_lt hz) _ _⟩
          have hi1 : Aside0 ((wr.iterAt wo.heap.size set (j + 1)).heap[w.heap.size]? = some (.stringIter s (i + wd))) := ⟨(Lib.iterAt_other wr wo.heap.size w.heap.size set (j + 1) (by omega)).trans hit1.out⟩
          have hi2 : Aside0 ((wr.iterAt wo.heap.size set (j + 1)).heap[wo.heap.size]? = some (.stringIter set (j + 1))) := ⟨Lib.iterAt_heap wr wo.heap.size set j (j + 1) HIT2.out⟩
          have hp : wr.iterPos wo.heap.size = j := by simp [World.iterPos, HIT2.out]
          have hp2 : (wr.iterAt wo.heap.size set (j + 1)).iterPos wo.heap.size = j + 1 := by simp [World.iterPos, hi2.out]
          have HP := Aside0.mk hp
          have HP2 := Aside0.mk hp2
          clear hp hp2 hin
          cases b with
          | true =>
            go_wp2_with fail
            go_roundw
            case rel => exact ⟨j + 1, true, hjlt, rfl, ⟨by rw [HSC.out]; rfl⟩, hi2.out, hi1, hbw⟩
            case measure => rw [HP.out, HP2.out]; omega
          | false =>
            by_cases hcc : (set[j]'hjlt).toNat = c
            · have hq : ((c : Int) == ((set[j]'hjlt).toNat : Int)) = true := by simp [hcc]
              go_wp2_with fail
              go_roundw
              case rel => exact ⟨j + 1, true, hjlt, rfl, ⟨by rw [HSC.out]; simp [hcc]⟩, hi2.out, hi1, hbw⟩
              case measure => rw [HP.out, HP2.out]; omega
            · have hq : ((c : Int) == ((set[j]'hjlt).toNat : Int)) = false := by simp; omega
              go_wp2_with fail
              go_roundw
              case rel => exact ⟨j + 1, false, hjlt, rfl, ⟨by rw [HSC.out]; simp [hcc]⟩, hi2.out, hi1, hbw⟩
              case measure => rw [HP.out, HP2.out]; omega
        · have hnx2 : ∀ ty, (Instr.next (.pointer (some ⟨wo.heap.size, 0, none⟩)) true ty).run Tryz.prog wr = _ := fun ty =>
            Lib.run_next_end_at wr wo.heap.size set j ty hit2 hjlt
          clear hit2
          have hall := inPre_all set c j hjlt
          rw [← hin.out] at hall
          have HALL := Aside0.mk hall
          clear hall hin
          cases b with
          | true =>
            have hc128 : c < 128 := by
              rcases Nat.lt_or_ge c 128 with h | h
              · exact h
              · have := ascii_not hset.out c h
                rw [← HALL.out] at this; cases this
            have hsi : (s[i]'hlt).toNat < 128 := by
              rcases Nat.lt_or_ge (s[i]'hlt).toNat 128 with h | h
              · exact h
              · have := (decode_high s i hlt h).1; rw [HC.out] at this; simp at this; omega
            have hd := decode_ascii s i hlt hsi
            rw [HC.out] at hd
            injection hd with hd1 hd2
            have HD1 := Aside0.mk hd1
            have HD2 := Aside0.mk hd2
            have hp : Aside0 (wo.iterPos w.heap.size = i) := ⟨by simp [World.iterPos, HIT.out]⟩
            have hp2 : Aside0 (wr.iterPos w.heap.size = i + 1) := ⟨by simp [World.iterPos, hit1.out, HD2.out]⟩
            clear hd1 hd2
            go_wp2_with fail
            go_roundw
            case rel =>
              refine ⟨i + 1, hlt, ⟨fun q h h2 => ?_⟩, by rw [hit1.out, HD2.out], hb.out⟩
              rcases Nat.lt_or_ge q i with h3 | h3
              · exact HA.out q h3 h2
              · have : q = i := by omega
                subst this
                rw [← HD1.out]; exact HALL.out.symm
            case measure => rw [hp.out, hp2.out]; omega
          | false =>
            have hstop : Aside0 (s.extract i s.size = r) := ⟨by
              rw [← HR.out]
              have hni : inSet set (s[i]'hlt).toNat = false := by
                rcases Nat.lt_or_ge (s[i]'hlt).toNat 128 with h | h
                · have hd := decode_ascii s i hlt h
                  rw [HC.out] at hd
                  injection hd with hd1 hd2
                  rw [← hd1]; exact HALL.out.symm
                · exact ascii_not hset.out _ h
              rw [drop_at s.data.toList (fun b => inSet set b.toNat) i (fun q h h2 => HA.out q h (by simpa using h2)) (fun _ => hni)]
              exact ext_drop s i⟩
            go_wp2_with fail
            go_ret
            exact ⟨by first | rfl | (rw [hstop.out]; rfl), hb.out⟩
    · have hnx : ∀ ty, (Instr.next (.pointer (some ⟨w.heap.size, 0, none⟩)) true ty).run Tryz.prog wr = _ := fun ty => Lib.run_next_end_at wr w.heap.size s i ty hit hlt
      clear hit hb
      have hstop : Aside0 ((⟨#[]⟩ : ByteArray) = r) := ⟨by
        rw [← HR.out, drop_at s.data.toList (fun b => inSet set b.toNat) i (fun q h h2 => HA.out q h (by simpa using h2)) (fun h => absurd (by simpa using h) hlt), List.drop_of_length_le (by simp; simp at hlt; exact hlt)]⟩
      go_wp2_with fail
      go_ret
      exact ⟨by first | rfl | (rw [hstop.out]; rfl), HB.out⟩
theorem lex_cutLeft.calls (a0 a1 : ByteArray) (r : ByteArray) (w : World) (h : lex_cutLeft.f a0 a1 = some r) :
    Calls Tryz.prog 149 #[.string a0, .string a1] w fun e w' => e = .returned (.string r) ∧ Below w.heap.size w w' := by
  unfold lex_cutLeft.f at h
  split at h
  · rename_i hc
    obtain rfl := Option.some.inj h
    exact cut_walk a0 a1 w hc.2 ⟨hc.1⟩
  · cases h
end Go.Proofs.YtchekgnacodolaaGreatDoor.X
end
section
namespace Go.Proofs.YtchekgnacodolaaGreatDoor.X
open Go.RowKit Go.Proofs.YtchekgnacodolaaGreatDoorW.PrintWords Go.Proofs.YtchekgnacodolaaGreatDoorW.PrintLast Go.Proofs.YtchekgnacodolaaGreatDoorW.PrintMore
attribute [local go_sem] max2_int min2_int max_two min_two max_three min_three max_four min_four   -- for this text's walks alone
set_option linter.unusedVariables false
set_option linter.unusedSimpArgs false
def lex_run.f (a0 : ByteArray) (a1 : ByteArray) : Option (Int) := (lex_cutLeft.f a0 a1).bind fun t207 => (some (wrap64 ((a0.size : Int) - (t207.size : Int))))
set_option maxHeartbeats 8000000 in
set_option maxRecDepth 100000 in
theorem lex_run.calls (a0 : ByteArray) (a1 : ByteArray) (r : Int) (w : World) (h : lex_run.f a0 a1 = some r) :
    Calls Tryz.prog 99 #[.string a0, .string a1] w fun e w' => e = .returned (.int .i64 r) ∧ Below w.heap.size w w' := by
  have HB := Aside0.mk (Below.refl w.heap.size w)
  have H : ((lex_cutLeft.f a0 a1).bind fun t207 => (some (wrap64 ((a0.size : Int) - (t207.size : Int))))) = some r := h
  clear h
  replace H := Option.bind_eq_some_iff.mp H
  obtain ⟨t207, A30, H⟩ := H
  replace H : (some (wrap64 ((a0.size : Int) - (t207.size : Int)))) = some r := H
  have A3 := Aside0.mk A30
  clear A30
  obtain rfl := Option.some.inj H
  go_enter Tryz.func99, Tryz.ntmps99
  go_wp2_with (first | ((with_reducible refine gate_callee (f := 149) rfl ?_); refine goesL_ (some 9) rfl rfl Tryz.func149 (by kernel_rfl) rfl #[.string a0, .string a1] rfl (by (try simp only [List.map_toArray, List.map_cons, List.map_nil]); first | done | rfl | (simp only [List.length_drop, List.length_take]; rfl)) ?_; (with_reducible refine (lex_cutLeft.calls a0 a1 t207 _ A3.out).mono ?_); rintro e w4 ⟨rfl, hb⟩; refine ⟨_, rfl, ?_⟩; have n0_ := Aside0.mk (below_step (by repeat (first | (with_reducible first | exact HB.out | apply below_alloc | apply pw_below_drewN | apply below_drew1) | exact HB.out)) hb); clear HB; have HB := n0_; clear n0_; (try clear hb); (try clear hb2); (try clear hk); (try clear hi)))
  go_ret
  exact ⟨by first | rfl | (simp [errW_none, errW_some] <;> rfl) | (simp [*, errW_none, errW_some] <;> rfl), by repeat (first | (with_reducible first | exact HB.out | apply below_alloc | apply pw_below_drewN | apply below_drew1) | exact HB.out)⟩
end Go.Proofs.YtchekgnacodolaaGreatDoor.X
end
