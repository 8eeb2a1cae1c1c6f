-- Joined by our own program (wip/tools/prune.py) out of the seat's texts, less what this claim doesn't name.
import Derived.Test.YtchekgnacodolaaGreatDoorRows
import Derived.Deep.Strs
import Derived.ChangeArms
import Derived.Test.YtchekgnacodolaaGreatDoorJ17
set_option maxRecDepth 100000
section
namespace Go.Proofs.YtchekgnacodolaaGreatDoor.X
open Go.RowKit Go.Proofs.YtchekgnacodolaaGreatDoorW.PrintWords Go.Proofs.YtchekgnacodolaaGreatDoor.Rows
set_option linter.unusedSimpArgs false
set_option linter.unusedVariables false
theorem addr_add (a : Addr) (m j : Nat) : (a.add m).add j = a.add (m + j) := by
 unfold Addr.add
 by_cases hj : j = 0
 ·subst hj; simp
 ·by_cases hm : m = 0
  ·subst hm; simp
  ·rw [if_neg hj, if_neg hm, if_neg (by omega)]
   simp [Nat.add_assoc]
theorem bulk_mem {H : Type} : ∀ (l : List (DataW H)) (d : DataW H), d ∈ l → uptoBulk d ≤ uptoBulkAll l
 | [], _, h => by cases h
 | x :: l, d, h => by
  rw [uptoBulkAll]
  rcases List.mem_cons.1 h with rfl | h
  ·omega
  ·have := bulk_mem l d h; omega
theorem bulk_pos {H : Type} (d : DataW H) : 1 ≤ uptoBulk d := by
 cases d with
 | lit x => cases x <;> simp [uptoBulk]
 | _ => simp [uptoBulk]
theorem bulk_len {H : Type} : ∀ (l : List (DataW H)), l.length ≤ uptoBulkAll l
 | [] => by simp [uptoBulkAll]
 | x :: l => by
  have := bulk_len l
  have := bulk_pos x
  rw [uptoBulkAll, List.length_cons]; omega
theorem weights_mem {H : Type} {P : Program} {e : TypeId} {n : Nat} : ∀ (l : List (DataW H)) (d : DataW H), d ∈ l → n ∈ d.weights P e → n ∈ DataW.weightsAll P e l
 | [], _, h, _ => by cases h
 | x :: l, d, h, hn => by
  rw [DataW.weightsAll]
  rcases List.mem_cons.1 h with rfl | h
  ·exact List.mem_append_left _ hn
  ·exact List.mem_append_right _ (weights_mem l d h hn)
def tokAt (w : World) (a : Addr) (i : Nat) : TokT :=
 ⟨match w.cell? (a.add (i * 3)) with | some (.int _ n) => n | _ => 0, match w.cell? (a.add (i * 3 + 1)) with | some (.string s) => s | _ => ByteArray.empty, match w.cell? (a.add (i * 3 + 2)) with | some (.int _ n) => n | _ => 0⟩
theorem toks_of_trod {H : Type} {enc : TypeId × Value → H} {W : World} {base : Nat} {spare : Nat → Bool} {held : Bool} {a : Option Addr} {len cap : Nat} {d : DataW H} {p : List MemPlace}
  (h : DataW.Trod enc Tryz.prog W base spare held 22 (.slice a len cap) d p) :
  ∃ l : List TokT, len = l.length ∧ Reads W a cap l ∧ l.length ≤ uptoBulk d ∧ (∀ t ∈ l, t.f1.size ≤ uptoBulk d) ∧ ∀ t ∈ l, t.f1.size ∈ d.weights Tryz.prog 22 := by
 obtain ⟨fuel, hf⟩ := h
 rcases DataW.trod_slice Tryz.underlying22 hf with ⟨hcs, hx⟩ | ⟨ad, ln, cp, elems, rest, n, rfl, hcs, hx, hb, hl, hm, hlen, hel, hsp, hns⟩
 ·simp [Value.cells] at hcs
  obtain ⟨rfl, rfl, rfl⟩ := hcs
  exact ⟨[], rfl, ⟨⟨rfl, by simp, fun h => absurd h (by simp)⟩, by simp⟩, by simp, (fun t ht => by cases ht), fun t ht => by cases ht⟩
 ·simp [Value.cells] at hcs
  obtain ⟨rfl, rfl, rfl⟩ := hcs
  have hc3 : Tryz.prog.cellsOf 106 = 3 := by kernel_rfl
  have hc1 : Tryz.prog.cellsOf 3 = 1 := by kernel_rfl
  have hcs1 : Tryz.prog.cellsOf 9 = 1 := by kernel_rfl
  have hcn1 : Tryz.prog.cellsOf 2 = 1 := by kernel_rfl
  simp only [Prod.mk.injEq] at hx
  obtain ⟨rfl, -⟩ := hx
  have key : ∀ i, i < len → ∃ n0 s n2 q, W.cell? (ad.add (i * 3)) = some (.int .i64 n0) ∧ W.cell? (ad.add (i * 3 + 1)) = some (.string s) ∧ W.cell? (ad.add (i * 3 + 2)) = some (.int .i64 n2) ∧ elems[i]? = some (.agg [.lit (.int .i64 n0), .lit (.string s.data.toList), .lit (.int .i64 n2)], q) := by
   intro i hi
   have he := hel i hi
   have hlt : i < elems.length := by omega
   rw [List.getElem?_eq_getElem hlt, hc3] at he
   obtain ⟨cs, hcl, ht⟩ := Option.bind_eq_some_iff.1 he
   obtain ⟨_, hcsl, hcell⟩ := World.cells?_some hcl
   obtain ⟨y0, y1, y2, m, hy, _, h0, h1, h2⟩ := Go.Deep.trod_struct3 Tryz.underlying106 ht
   match cs, hcsl with
   | [c0, c1, c2], _ =>
    simp only [hc1, hcs1, hcn1, List.drop_zero, List.drop_succ_cons, List.take_succ_cons, List.take_zero] at h0 h1 h2
    obtain ⟨n0, e0, x0, _⟩ := DataW.trod_int Tryz.underlying3 h0
    obtain ⟨s, e1, x1, _⟩ := DataW.trod_string Tryz.underlying9 h1
    obtain ⟨n2, e2, x2, _⟩ := DataW.trod_int Tryz.underlying2 h2
    have g0 := hcell 0 (by omega)
    have g1 := hcell 1 (by omega)
    have g2 := hcell 2 (by omega)
    rw [addr_add] at g0 g1 g2
    simp only [List.cons.injEq, and_true] at e0 e1 e2
    subst e0 e1 e2
    refine ⟨n0, s, n2, y0.2 ++ (y1.2 ++ y2.2), g0, g1, g2, ?_⟩
    rw [List.getElem?_eq_getElem hlt, hy, x0, x1, x2]
  have hmx : maxLen ≤ 9223372036854775807 := by decide
  have hlc : ((List.range len).map (tokAt W ad)).length = len := by simp
  refine ⟨(List.range len).map (tokAt W ad), hlc.symm, ⟨⟨rfl, by omega, fun hp => ⟨ad, rfl, fun j p hj => ?_⟩⟩, by omega⟩, ?_, ?_, ?_⟩
  ·have hjl : j < len := by
    rcases Nat.lt_or_ge j len with h | h
    ·exact h
    ·rw [List.getElem?_eq_none (by simpa using h)] at hj; cases hj
   rw [List.getElem?_map, List.getElem?_range hjl, Option.map_some] at hj
   injection hj with hj
   obtain ⟨n0, s, n2, q, g0, g1, g2, _⟩ := key j hjl
   have hp : p = ⟨n0, s, n2⟩ := by rw [← hj]; unfold tokAt; rw [g0, g1, g2]
   subst hp
   refine ⟨_, rfl, k106_mk W _, fun i u hi => ?_⟩
   match i, hi with
   | 0, hi => injection hi with hi; subst hi; exact g0
   | 1, hi => injection hi with hi; subst hi; exact g1
   | 2, hi => injection hi with hi; subst hi; exact g2
   | i + 3, hi => cases hi
  ·have h1 := bulk_len (elems.map (·.1))
   rw [List.length_map, hlen] at h1
   rw [uptoBulk, List.length_map, List.length_range]
   omega
  ·intro t ht
   obtain ⟨i, hi, rfl⟩ := List.mem_map.1 ht
   obtain ⟨n0, s, n2, q, g0, g1, g2, he⟩ := key i (List.mem_range.1 hi)
   have hb := bulk_mem (elems.map (·.1)) _ (List.mem_map.2 ⟨_, List.mem_of_getElem? he, rfl⟩)
   have hs : (tokAt W ad i).f1 = s := by unfold tokAt; rw [g1]
   rw [hs, size_len]
   simp only [uptoBulk, uptoBulkAll] at hb ⊢
   omega
  ·intro t ht
   obtain ⟨i, hi, rfl⟩ := List.mem_map.1 ht
   obtain ⟨n0, s, n2, q, g0, g1, g2, he⟩ := key i (List.mem_range.1 hi)
   have hs : (tokAt W ad i).f1 = s := by unfold tokAt; rw [g1]
   rw [hs, size_len]
   have hm : s.data.toList.length ∈ DataW.weights Tryz.prog 106 (.agg [.lit (.int .i64 n0), .lit (.string s.data.toList), .lit (.int .i64 n2)] : DataW H) := by
    simp [DataW.weights, DataW.weightsEach, Tryz.underlying106]
   have h2 := weights_mem (P := Tryz.prog) (e := 106) (elems.map (·.1)) _ (List.mem_map.2 ⟨_, List.mem_of_getElem? he, rfl⟩) hm
   simp only [DataW.weights, Tryz.underlying22]
   exact List.mem_cons_of_mem _ (List.mem_append_left _ h2)
end Go.Proofs.YtchekgnacodolaaGreatDoor.X
end
