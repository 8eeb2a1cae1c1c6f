/- LexKinds: a word is a keyword or a name, never both; a number's token has its digits. For every text. -/
import Derived.Test.YtcpknmffnglegaaDoorLawRight
namespace Go.Proofs.YtcpknmffnglegaaDoor.X
open Go.RowKit Go.Proofs.YtcpknmffnglegaaDoorW.PrintWords
set_option linter.unusedSimpArgs false
set_option linter.unusedVariables false

theorem reads_mk {w : World} {g c : Nat} {l : List TokT} (hc : l.length ≤ c) (hm : l.length ≤ 9223372036854775807)
    (h : ∀ (i : Nat) (t : TokT), l[i]? = some t → w.cell? ⟨g, i * 3, none⟩ = some (.int .i64 t.f0) ∧ w.cell? ⟨g, i * 3 + 1, none⟩ = some (.string t.f1) ∧ w.cell? ⟨g, i * 3 + 2, none⟩ = some (.int .i64 t.f2)) : Reads w (some ⟨g, 0, none⟩) c l := by
  refine ⟨⟨rfl, hm, fun _ => ⟨_, rfl, fun j p hj => ⟨_, rfl, k41_mk w p, fun i u hi => ?_⟩⟩⟩, hc⟩
  obtain ⟨h0, h1, h2⟩ := h j p hj
  rw [add_plain]
  show w.cell? ⟨g, j * 3 + i, none⟩ = some u
  match i, hi with
  | 0, hi => injection hi with hi; subst hi; exact h0
  | 1, hi => injection hi with hi; subst hi; exact h1
  | 2, hi => injection hi with hi; subst hi; exact h2
  | i + 3, hi => cases hi
theorem reads_one (w : World) (t : TokT) : Reads (w.alloc (.cells #[.int .i64 t.f0, .string t.f1, .int .i64 t.f2] 41)) (some ⟨w.heap.size, 0, none⟩) 1 [t] := by
  refine reads_mk (by simp) (by simp) fun i x hx => ?_
  match i, hx with
  | 0, hx =>
    injection hx with hx
    subst hx
    exact ⟨by simp, by simp, by simp⟩
  | i + 1, hx => simp at hx

theorem key_len {l : List UInt8} (h : isKey (B l) = true) : l.length ≤ 16 := by
  have h1 := (isKey_iff (B l)).1 h
  have : keyWords.all (fun m => decide (m.size ≤ 16)) = true := by decide +kernel
  have h2 := List.all_eq_true.1 this _ h1
  rw [B_size] at h2
  simpa using h2
theorem name_len {l : List UInt8} (h : nameL l = true) : l.length ≤ 16 := by
  cases l with
  | nil => simp
  | cons b r => simp only [nameL, Bool.and_eq_true, decide_eq_true_eq] at h; exact h.2
theorem right_key (l : List UInt8) : rightT ⟨3, B l, 0⟩ = isKey (B l) := by
  by_cases hk : isKey (B l) = true
  · simp [rightT, wordTok, B_list, hk]
  · simp [rightT, wordTok, B_list, hk]
theorem right_name (l : List UInt8) : rightT ⟨1, B l, 0⟩ = (!isKey (B l) && nameL l) := by
  by_cases hk : isKey (B l) = true
  · simp [rightT, wordTok, B_list, hk]
  · simp [rightT, wordTok, B_list, hk]
theorem lex_one (t : TokT) (h : rightT t = true) (hl : t.f1.data.toList.length ≤ 65536) : lexR t.f1.data.toList = ([t], 0) := by
  have := tokL_right t h [] (.inl rfl)
  rw [List.append_nil, tokL_nil] at this
  exact lexR_of this hl

set_option maxHeartbeats 4000000 in
theorem lawKinds (l : List UInt8) (hl : l.length ≤ 140737488351232) (w : World) (hG : GL w) :
    Calls Tryd.prog 8 #[.string (B l)] w fun e w' => e = .returned (.bool true) ∧ Below w.heap.size w w' := by
  have HE := Aside0.mk (examplesC w hG)
  have HG := Aside0.mk hG
  clear hG
  have hsz : ∀ k n : Int, ∀ t ∈ [(⟨k, B l, n⟩ : TokT)], t.f1.size ≤ 281474976710656 := by
    intro k n t ht
    rw [List.mem_singleton] at ht
    rw [ht, B_size]; omega
  have K3 := fun A c W hG hr => rightC [⟨3, B l, 0⟩] A c (hsz 3 0) W hG hr
  have K1 := fun A c W hG hr => rightC [⟨1, B l, 0⟩] A c (hsz 1 0) W hG hr
  simp only [List.all_cons, List.all_nil, Bool.and_true, right_key, right_name] at K3 K1
  have K3 := Aside0.mk K3
  have K1 := Aside0.mk K1
  have KL := fun W hW => lexC l (by omega) W hW
  have KK := fun W hW => keywordC (B l) W hW
  have KN := Aside0.mk (fun W => nameC l (by omega) W)
  -- what is told of a word
  obtain ⟨key, hkey⟩ : ∃ b, isKey (B l) = b := ⟨_, rfl⟩
  obtain ⟨nm, hnm⟩ : ∃ b, nameL l = b := ⟨_, rfl⟩
  rw [hkey] at K3 K1 KK
  rw [hnm] at K1 KN
  have KK := Aside0.mk KK
  have hone3 : Aside0 (key = true → lexR l = ([⟨3, B l, 0⟩], 0)) := ⟨fun hk => by
    have := lex_one ⟨3, B l, 0⟩ (by rw [right_key, hkey, hk]) (by have := key_len (hkey.trans hk); rw [B_list]; omega)
    simpa [B_list] using this⟩
  have hone1 : Aside0 (key = false → nm = true → lexR l = ([⟨1, B l, 0⟩], 0)) := ⟨fun hk hn => by
    have := lex_one ⟨1, B l, 0⟩ (by rw [right_name, hkey, hk, hnm, hn]; rfl) (by have := name_len (hnm.trans hn); rw [B_list]; omega)
    simpa [B_list] using this⟩
  obtain ⟨ts, hts⟩ : ∃ ts, (lexR l).1 = ts := ⟨_, rfl⟩
  obtain ⟨r, hr⟩ : ∃ r, (lexR l).2 = r := ⟨_, rfl⟩
  rw [hts, hr] at KL
  have KL := Aside0.mk KL
  have hlr : Aside0 (lexR l = (ts, r)) := ⟨by rw [← hts, ← hr]⟩
  clear hts hr hkey hnm hsz
  go_enter Tryd.func8, Tryd.ntmps8
  go_wp2_with fail
  refine HE.out.mono ?_
  rintro e w1 ⟨rfl, hb⟩
  have HB1 := Aside0.mk hb
  clear hb
  go_wp2_with fail
  refine (K3.out _ _ _ ((HG.out.below HB1.out).alloc _) (reads_one w1 ⟨3, B l, 0⟩)).mono ?_
  rintro e w2 ⟨rfl, hb⟩
  have HB2 := Aside0.mk (below_step (below_alloc HB1.out _) hb)
  clear hb HB1
  go_wp2_with fail
  refine (K1.out _ _ _ ((HG.out.below HB2.out).alloc _) (reads_one w2 ⟨1, B l, 0⟩)).mono ?_
  rintro e w3 ⟨rfl, hb⟩
  have HB3 := Aside0.mk (below_step (below_alloc HB2.out _) hb)
  clear hb HB2
  go_wp2_with fail
  refine (KL.out _ (HG.out.below HB3.out)).mono ?_
  rintro e w4 ⟨A1, c1, rfl, hr1, hg1, hb⟩
  have R1 := Aside0.mk hr1
  have G1 := Aside0.mk hg1
  have HB4 := Aside0.mk (below_step HB3.out hb)
  clear hb hr1 HB3 hg1
  go_wp2_with fail
  refine (KK.out _ (HG.out.below HB4.out)).mono ?_
  rintro e w5 ⟨rfl, hb⟩
  have HB5 := Aside0.mk (below_step HB4.out hb)
  have R1 := Aside0.mk (R1.out.below hb)
  clear hb HB4
  cases key with
  | true =>
    have h1 := hone3.out rfl
    clear hone1 hone3
    rw [hlr.out] at h1
    injection h1 with h1 h2
    subst h1 h2
    obtain ⟨g, rfl⟩ := G1.out (by simp)
    go_wp2_with fail
    refine (KN.out _).mono ?_
    rintro e w6 ⟨rfl, hb⟩
    have HB6 := Aside0.mk (below_step HB5.out hb)
    obtain ⟨t0, t1, -⟩ := (R1.out.below hb).at_ 0 ⟨3, B l, 0⟩ rfl
    simp only [Nat.zero_mul, Nat.zero_add] at t0 t1
    clear hb HB5
    cases nm with
    | true =>
      go_wp2_with fail
      go_ret
      exact ⟨rfl, HB6.out⟩
    | false =>
      go_wp2_with fail
      go_ret
      exact ⟨rfl, HB6.out⟩
  | false =>
    cases nm with
    | true =>
      have h1 := hone1.out rfl rfl
      clear hone1 hone3
      rw [hlr.out] at h1
      injection h1 with h1 h2
      subst h1 h2
      obtain ⟨g, rfl⟩ := G1.out (by simp)
      go_wp2_with fail
      refine (KN.out _).mono ?_
      rintro e w6 ⟨rfl, hb⟩
      have HB6 := Aside0.mk (below_step HB5.out hb)
      obtain ⟨t0, t1, -⟩ := (R1.out.below hb).at_ 0 ⟨1, B l, 0⟩ rfl
      simp only [Nat.zero_mul, Nat.zero_add] at t0 t1
      clear hb HB5
      go_wp2_with fail
      go_ret
      exact ⟨rfl, HB6.out⟩
    | false =>
      go_wp2_with fail
      refine (KN.out _).mono ?_
      rintro e w6 ⟨rfl, hb⟩
      have HB6 := Aside0.mk (below_step HB5.out hb)
      clear hb HB5
      go_wp2_with fail
      go_ret
      exact ⟨rfl, HB6.out⟩
end Go.Proofs.YtcpknmffnglegaaDoor.X
