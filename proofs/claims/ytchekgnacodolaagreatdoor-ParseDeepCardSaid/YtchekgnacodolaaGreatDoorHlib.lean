/- Contracts of the library's functions that chancel/lex calls, in the printed form: strings.IndexByte, strings.Cut, strings.Join; and chancel/lex.Keyword. -/
import Derived.Test.YtchekgnacodolaaGreatDoorGL
import Derived.Test.YtchekgnacodolaaGreatDoorShelf
namespace Go.Proofs.YtchekgnacodolaaGreatDoor.X
open Go.RowKit Go.Proofs.YtchekgnacodolaaGreatDoorW.PrintWords

def strings_IndexByte.f (a0 : ByteArray) (a1 : Int) : Option Int := some (Lib.indexByte a0.data.toList a1.toNat.toUInt8)
theorem strings_IndexByte.calls (a0 : ByteArray) (a1 : Int) (r : Int) (w : World) (h : strings_IndexByte.f a0 a1 = some r) :
    Calls Tryz.prog 101 #[.string a0, .int .u8 a1] w fun e w' => e = .returned (.int .i64 r) ∧ Drawn0 w w' := by
  obtain rfl := Option.some.inj h
  refine (Tryz.strings_IndexByte a0 a1 w).mono ?_
  rintro e w' ⟨rfl, rfl⟩
  exact ⟨rfl, Drawn0.refl _⟩

def strings_Cut.f (a0 a1 : ByteArray) : Option (ByteArray × ByteArray × Bool) :=
  if a0.size < 4294967281 then some (⟨(Lib.cut a0.data.toList a1.data.toList).1.toArray⟩, ⟨(Lib.cut a0.data.toList a1.data.toList).2.1.toArray⟩, (Lib.cut a0.data.toList a1.data.toList).2.2) else none
theorem strings_Cut.calls (a0 a1 : ByteArray) (r1 r2 : ByteArray) (r3 : Bool) (w : World) (hG : GL w) (h : strings_Cut.f a0 a1 = some (r1, r2, r3)) :
    Calls Tryz.prog 98 #[.string a0, .string a1] w fun e w' => e = .returned (.tuple #[.string r1, .string r2, .bool r3]) ∧ Drawn0 w w' := by
  unfold strings_Cut.f at h
  split at h
  · rename_i hs
    injection h with h
    injection h with h1 h2
    injection h2 with h2 h3
    subst h1 h2 h3
    obtain ⟨m, hm⟩ := hG.maxl
    refine (Tryz.strings_Cut a0 a1 m w hs hm).mono ?_
    rintro e w' ⟨rfl, hd⟩
    exact ⟨rfl, ⟨hd⟩⟩
  · cases h

def strings_Join.f (l0 : List ByteArray) (a1 : ByteArray) : Option ByteArray :=
  if l0.length ≤ 140737488355328 ∧ (Lib.join (l0.map (·.data.toList)) a1.data.toList).length ≤ 140737488355328 then some ⟨(Lib.join (l0.map (·.data.toList)) a1.data.toList).toArray⟩ else none
theorem strings_Join.calls (A0 : Option Addr) (c0 : Nat) (l0 : List ByteArray) (a1 : ByteArray) (r : ByteArray) (w : World) (hr0 : Kd.C Kd.string w A0 l0.length l0) (hc0 : l0.length ≤ c0) (h : strings_Join.f l0 a1 = some r) :
    Calls Tryz.prog 105 #[.slice A0 l0.length c0, .string a1] w fun e w' => e = .returned (.string r) ∧ Below w.heap.size w w' := by
  unfold strings_Join.f at h
  split at h
  · rename_i hl
    obtain rfl := Option.some.inj h
    cases l0 with
    | nil =>
      refine (Tryz.strings_Join_none A0 c0 a1 w).mono ?_
      rintro e w' ⟨rfl, rfl⟩
      exact ⟨rfl, Below.refl _ _⟩
    | cons x l =>
      have hlen : 0 < (x :: l).length := Nat.succ_pos _
      obtain ⟨ad, e0, hx0⟩ := Kd.at_string hr0 0 (Int.le_refl _) (by omega)
      obtain ⟨b, o, sp⟩ := ad
      have hsp : sp = none := by
        cases sp with
        | none => rfl
        | some z =>
          unfold World.cell? at hx0
          split at hx0
          · simp [Addr.add] at hx0
          · cases hx0
      subst hsp
      subst e0
      have hcells : ∀ (j : Nat) y, (x :: l)[j]? = some y → w.cell? ⟨b, o + j, none⟩ = some (.string y) := by
        intro j y hj
        have hlt : j < (x :: l).length := by
          rcases Nat.lt_or_ge j (x :: l).length with h1 | h1
          · exact h1
          · rw [List.getElem?_eq_none h1] at hj; cases hj
        obtain ⟨ad, e1, hx1⟩ := Kd.at_string hr0 (j : Int) (by omega) (by omega)
        cases e1
        have : rdOf ByteArray.empty (x :: l) (j : Int) = y := by
          unfold rdOf
          simp only [Int.toNat_natCast, List.getD_eq_getElem?_getD, hj, Option.getD_some]
        rw [this] at hx1
        have ea : (⟨b, o, none⟩ : Addr).add j = ⟨b, o + j, none⟩ := by unfold Addr.add; split <;> simp_all
        rw [← ea]
        exact hx1
      refine (Tryz.strings_Join b o c0 (x :: l) a1 w hcells (World.block_lt_of_cell? w _ hx0) hl.1 hc0 hl.2).mono ?_
      rintro e w' ⟨rfl, hb⟩
      exact ⟨rfl, hb⟩
  · cases h

/-- Is a word the language's own? -/
def isKey (s : ByteArray) : Bool := keyWords.any fun x => x.data.toList == s.data.toList
theorem isKey_iff (s : ByteArray) : isKey s = true ↔ s ∈ keyWords := by
  unfold isKey
  rw [List.any_eq_true]
  constructor
  · rintro ⟨x, hx, e⟩
    have e := eq_of_beq e
    have : x = s := by
      cases x; cases s
      congr 1
      exact Array.toList_inj.1 e
    rwa [← this]
  · exact fun h => ⟨s, h, by simp⟩
def lex_Keyword.f (a0 : ByteArray) : Option Bool := some (isKey a0)
set_option maxHeartbeats 400000 in
theorem lex_Keyword.calls (a0 : ByteArray) (r : Bool) (w : World) (hG : GL w) (h : lex_Keyword.f a0 = some r) :
    Calls Tryz.prog 110 #[.string a0] w fun e w' => e = .returned (.bool r) ∧ Drawn0 w w' := by
  obtain rfl := Option.some.inj h
  have hc : ∀ j, j < keyWords.length → w.cell? ⟨5, 0 + j, none⟩ = some (.string (keyWords.getD j ByteArray.empty)) := by
    intro j hj
    rw [Nat.zero_add, hG.key j]
    simp [List.getElem?_map, List.getElem?_eq_getElem hj, List.getD_eq_getElem?_getD]
  have K := Tryz.slices_Contains_string 5 0 14 14 keyWords a0 w (by decide) (by decide) hc
  have e1 : Lib.containsS (keyWords.take 14) a0 = isKey a0 := by
    rw [Bool.eq_iff_iff, Lib.containsS_iff, isKey_iff]; rfl
  rw [e1] at K
  have HK := Lib.hid K
  clear K hc hG e1
  go_enter Tryz.func110, Tryz.ntmps110
  go_wp2_with (go_at_call 111; refine (HK.out).mono ?_; rintro e w' ⟨rfl, rfl⟩)
  go_ret
  exact ⟨rfl, Drawn0.refl _⟩
end Go.Proofs.YtchekgnacodolaaGreatDoor.X
