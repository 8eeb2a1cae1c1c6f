-- Joined by our own program (wip/tools/prune.py) out of the seat's texts, less what this claim doesn't name.
import Derived.Deep.RegionHeld3
import Derived.IntWalk
import Derived.WalkKit
import Derived.Test.YtchekgnacodolaaGreatDoorJ19
import Derived.Test.YtchekgnacodolaaGreatDoorJ24
section
namespace Go.Proofs.YtchekgnacodolaaGreatDoor.X
open Go.RowKit Go.Proofs.YtchekgnacodolaaGreatDoorW.PrintWords Go.Proofs.YtchekgnacodolaaGreatDoorW.PrintLast Go.Proofs.YtchekgnacodolaaGreatDoorW.PrintMore
set_option linter.unusedSimpArgs false
set_option linter.unusedVariables false
structure PS (g : Nat) (p : Prg) (v0 v1 v2 : Value) (w : World) : Prop where
  blk : w.heap[g]? = some (.cells #[v0, v1, v2, .int .i64 0, .string ⟨#[]⟩, .int .i64 0, .slice none 0 0] 64 (0, 0))
  n0 : Kd.N k87 87 w (g + 1) (fun k => g < k ∧ some k ≠ v1.ownBlock ∧ some k ≠ v2.ownBlock) v0 p.f0
  n1 : Kd.N k87 87 w (g + 1) (fun k => g < k ∧ some k ≠ v0.ownBlock ∧ some k ≠ v2.ownBlock) v1 p.f1
  n2 : Kd.N k89 89 w (g + 1) (fun k => g < k ∧ some k ≠ v0.ownBlock ∧ some k ≠ v1.ownBlock) v2 p.f2
section
variable {g : Nat} {p : Prg} {v0 v1 v2 : Value} {w w1 : World}
theorem PS.lt (h : PS g p v0 v1 v2 w) : g < w.heap.size := blk_lt h.blk
theorem PS.below (h : PS g p v0 v1 v2 w) (hb : Below w.heap.size w w1) : PS g p v0 v1 v2 w1 :=
  ⟨blk_below h.blk hb, Kd.N_below h.n0 hb, Kd.N_below h.n1 hb, Kd.N_below h.n2 hb⟩
theorem PS.s0 (h : PS g p v0 v1 v2 w) : ∃ A c, v0 = .slice A p.f0.length c ∧ p.f0.length ≤ c := by
  obtain ⟨A, c, rfl⟩ := Kd.N_slice h.n0
  exact ⟨A, c, rfl, (Kd.N_reads' h.n0).2.1⟩
theorem PS.s1 (h : PS g p v0 v1 v2 w) : ∃ A c, v1 = .slice A p.f1.length c ∧ p.f1.length ≤ c := by
  obtain ⟨A, c, rfl⟩ := Kd.N_slice h.n1
  exact ⟨A, c, rfl, (Kd.N_reads' h.n1).2.1⟩
theorem PS.s2 (h : PS g p v0 v1 v2 w) : ∃ A c, v2 = .slice A p.f2.length c ∧ p.f2.length ≤ c := by
  obtain ⟨A, c, rfl⟩ := Kd.N_slice h.n2
  exact ⟨A, c, rfl, (Kd.N_reads' h.n2).2.1⟩
end
section
variable {g : Nat} {p : Prg} {v0 v1 v2 : Value} {w w1 : World}
theorem PS.app0 (h : PS g p v0 v1 v2 w) {x : Dl} {u : Value} (hN : Kd.N k87 87 w1 (g + 1) (fun k => g < k ∧ some k ≠ v1.ownBlock ∧ some k ≠ v2.ownBlock) u (p.f0 ++ [x])) (hg : w.grownBy w1 v0.ownBlock) (hat : u.ownBlock = v0.ownBlock ∨ ∃ b, u.ownBlock = some b ∧ w.heap.size ≤ b) : PS g { p with f0 := p.f0 ++ [x] } u v1 v2 (w1.setCell ⟨g, 0, none⟩ u) := by
  have hne : some g ≠ v0.ownBlock := Kd.N_away h.n0 (fun k hk => by have := hk.1; omega)
  have hb : w1.heap[g]? = _ := (hg.block g h.lt hne).trans h.blk
  refine ⟨?_, ?_, ?_, ?_⟩
  · have := blk_set hb 0 u
    rw [this]; rfl
  · exact Kd.N_far hN (p := ⟨g, 0, none⟩) (fun k hk => by have := hk.1; show k ≠ g; omega) u
  · have h1 := Kd.N_after (Kd.N_mono h.n1 (ok' := fun k => (g < k ∧ some k ≠ v2.ownBlock) ∧ some k ≠ v0.ownBlock) (fun k hk => ⟨⟨hk.1, hk.2.2⟩, hk.2.1⟩)) hg hat
    exact Kd.N_far (Kd.N_mono h1 (fun k hk => ⟨hk.1.1, hk.2, hk.1.2⟩)) (p := ⟨g, 0, none⟩) (fun k hk => by have := hk.1; show k ≠ g; omega) u
  · have h1 := Kd.N_after (Kd.N_mono h.n2 (ok' := fun k => (g < k ∧ some k ≠ v1.ownBlock) ∧ some k ≠ v0.ownBlock) (fun k hk => ⟨⟨hk.1, hk.2.2⟩, hk.2.1⟩)) hg hat
    exact Kd.N_far (Kd.N_mono h1 (fun k hk => ⟨hk.1.1, hk.2, hk.1.2⟩)) (p := ⟨g, 0, none⟩) (fun k hk => by have := hk.1; show k ≠ g; omega) u
theorem PS.app1 (h : PS g p v0 v1 v2 w) {x : Dl} {u : Value} (hN : Kd.N k87 87 w1 (g + 1) (fun k => g < k ∧ some k ≠ v0.ownBlock ∧ some k ≠ v2.ownBlock) u (p.f1 ++ [x])) (hg : w.grownBy w1 v1.ownBlock) (hat : u.ownBlock = v1.ownBlock ∨ ∃ b, u.ownBlock = some b ∧ w.heap.size ≤ b) : PS g { p with f1 := p.f1 ++ [x] } v0 u v2 (w1.setCell ⟨g, 1, none⟩ u) := by
  have hne : some g ≠ v1.ownBlock := Kd.N_away h.n1 (fun k hk => by have := hk.1; omega)
  have hb : w1.heap[g]? = _ := (hg.block g h.lt hne).trans h.blk
  refine ⟨?_, ?_, ?_, ?_⟩
  · have := blk_set hb 1 u
    rw [this]; rfl
  · have h1 := Kd.N_after (Kd.N_mono h.n0 (ok' := fun k => (g < k ∧ some k ≠ v2.ownBlock) ∧ some k ≠ v1.ownBlock) (fun k hk => ⟨⟨hk.1, hk.2.2⟩, hk.2.1⟩)) hg hat
    exact Kd.N_far (Kd.N_mono h1 (fun k hk => ⟨hk.1.1, hk.2, hk.1.2⟩)) (p := ⟨g, 1, none⟩) (fun k hk => by have := hk.1; show k ≠ g; omega) u
  · exact Kd.N_far hN (p := ⟨g, 1, none⟩) (fun k hk => by have := hk.1; show k ≠ g; omega) u
  · have h1 := Kd.N_after (Kd.N_mono h.n2 (ok' := fun k => (g < k ∧ some k ≠ v0.ownBlock) ∧ some k ≠ v1.ownBlock) (fun k hk => ⟨⟨hk.1, hk.2.1⟩, hk.2.2⟩)) hg hat
    exact Kd.N_far (Kd.N_mono h1 (fun k hk => ⟨hk.1.1, hk.1.2, hk.2⟩)) (p := ⟨g, 1, none⟩) (fun k hk => by have := hk.1; show k ≠ g; omega) u
theorem PS.app2 (h : PS g p v0 v1 v2 w) {x : Df} {u : Value} (hN : Kd.N k89 89 w1 (g + 1) (fun k => g < k ∧ some k ≠ v0.ownBlock ∧ some k ≠ v1.ownBlock) u (p.f2 ++ [x])) (hg : w.grownBy w1 v2.ownBlock) (hat : u.ownBlock = v2.ownBlock ∨ ∃ b, u.ownBlock = some b ∧ w.heap.size ≤ b) : PS g { p with f2 := p.f2 ++ [x] } v0 v1 u (w1.setCell ⟨g, 2, none⟩ u) := by
  have hne : some g ≠ v2.ownBlock := Kd.N_away h.n2 (fun k hk => by have := hk.1; omega)
  have hb : w1.heap[g]? = _ := (hg.block g h.lt hne).trans h.blk
  refine ⟨?_, ?_, ?_, ?_⟩
  · have := blk_set hb 2 u
    rw [this]; rfl
  · have h1 := Kd.N_after (Kd.N_mono h.n0 (ok' := fun k => (g < k ∧ some k ≠ v1.ownBlock) ∧ some k ≠ v2.ownBlock) (fun k hk => ⟨⟨hk.1, hk.2.1⟩, hk.2.2⟩)) hg hat
    exact Kd.N_far (Kd.N_mono h1 (fun k hk => ⟨hk.1.1, hk.1.2, hk.2⟩)) (p := ⟨g, 2, none⟩) (fun k hk => by have := hk.1; show k ≠ g; omega) u
  · have h1 := Kd.N_after (Kd.N_mono h.n1 (ok' := fun k => (g < k ∧ some k ≠ v0.ownBlock) ∧ some k ≠ v2.ownBlock) (fun k hk => ⟨⟨hk.1, hk.2.1⟩, hk.2.2⟩)) hg hat
    exact Kd.N_far (Kd.N_mono h1 (fun k hk => ⟨hk.1.1, hk.1.2, hk.2⟩)) (p := ⟨g, 2, none⟩) (fun k hk => by have := hk.1; show k ≠ g; omega) u
  · exact Kd.N_far hN (p := ⟨g, 2, none⟩) (fun k hk => by have := hk.1; show k ≠ g; omega) u
end
theorem cell_grown {w w1 : World} {a : Addr} {u : Value} {row : Option Nat} (h : w.cell? a = some u) (hg : w.grownBy w1 row) (hne : some a.block ≠ row) : w1.cell? a = some u := by
  rw [World.cell?_of_block (w := w) (hg.block _ (cell_lt h) hne)]; exact h
theorem TmV.F {base : Nat} {w : World} {t : Tm} {A : Option Addr} (h : ∀ w2, Same base w w2 → Kd.C k26 w2 A t.f3.length t.f3) (hb : base < w.heap.size) : Kd.F k26 w (fun k => base ≤ k) A t.f3.length t.f3 := fun W' hW => h W' ⟨by
  have h1 := hW (w.heap.size - 1) (by omega) (by omega)
  have h2 : w.heap.size - 1 < w.heap.size := by omega
  rw [Array.getElem?_eq_getElem h2] at h1
  have := (Array.getElem?_eq_some_iff.1 h1).1
  omega, fun b h1 h2 => hW b h1 h2⟩
theorem infoDl : (Tryz.prog.info? 87).map (fun i => (i.zero, i.size, i.bytes)) = some (some (.agg #[.string ⟨#[]⟩, .string ⟨#[]⟩, .int .i64 0]), 3, 40) := by kernel_rfl
theorem infoDf : (Tryz.prog.info? 89).map (fun i => (i.zero, i.size, i.bytes)) = some (some (.agg #[.string ⟨#[]⟩, .int .i64 0, .string ⟨#[]⟩, .int .i64 0, .slice none 0 0]), 5, 72) := by kernel_rfl
structure Pc (g : Nat) (A : Option Addr) (c : Nat) (l : List TokT) (w : World) : Prop where
  rd : Kd.C k106 w A l.length l
  le : l.length ≤ c
  ah : 0 < l.length → ∀ ad, A = some ad → ad.block < g
theorem Pc.below {g : Nat} {A : Option Addr} {c : Nat} {l : List TokT} {w w1 : World} (h : Pc g A c l w) (hb : Below w.heap.size w w1) : Pc g A c l w1 := ⟨Kd.C_below h.rd hb, h.le, h.ah⟩
theorem Pc.at {g : Nat} {A : Option Addr} {c : Nat} {l : List TokT} {w : World} (h : Pc g A c l w) (i : Nat) (hi : i < l.length) :
    ∃ ad, A = some ad ∧ ad.block < g ∧ w.cell? (ad.add (i * 3)) = some (.int .i64 (tokAt l i).f0) ∧ w.cell? ⟨(ad.add (i * 3)).block, (ad.add (i * 3)).off + 1, none⟩ = some (.string (tokAt l i).f1) ∧ w.cell? ⟨(ad.add (i * 3)).block, (ad.add (i * 3)).off + 2, none⟩ = some (.int .i64 (tokAt l i).f2) := by
  obtain ⟨ad, e, h0, h1, h2⟩ := at_T106 h.rd (i : Int) (by omega) (by omega)
  rw [rdTok_at l i hi, Int.toNat_natCast] at *
  have ht : tokAt l i = l[i] := by unfold tokAt; simp [List.getD_eq_getElem?_getD, List.getElem?_eq_getElem hi]
  rw [ht]
  exact ⟨ad, e, h.ah (by omega) ad e, h0, h1, h2⟩
theorem formC (l : List TokT) (f : List ByteArray) (hl : l.length ≤ 1099511627776) (A : Option Addr) (c : Nat) (B : Option Addr) (e : Nat) (w : World) (hr : Kd.C k106 w A l.length l) (hc : l.length ≤ c) (hf : Kd.C Kd.string w B f.length f) (he : f.length ≤ e) :
    Calls Tryz.prog 161 #[.slice A l.length c, .slice B f.length e] w fun e w' => e = .returned (.bool (formsL l f)) ∧ Below w.heap.size w w' :=
  prog_form.calls (2 * f.length + 1) A c l B e f (formsL l f) w hr hc hf he (form_eq l f hl)
theorem C_strs {w : World} {b : Nat} {fs : List ByteArray} {T : TypeId} {fr : Nat × Nat} (hb : w.heap[b]? = some (.cells (fs.map Value.string).toArray T fr)) (hn : fs.length ≤ 9223372036854775807) : Kd.C Kd.string w (some ⟨b, 0, none⟩) fs.length fs := by
  refine ⟨rfl, hn, fun _ => ⟨⟨b, 0, none⟩, rfl, fun j p hj => ⟨[.string p], rfl, rfl, fun i u hi => ?_⟩⟩⟩
  cases i with
  | succ i => simp at hi
  | zero =>
    simp only [List.getElem?_cons_zero, Option.some.injEq] at hi
    subst hi
    show w.cell? ((⟨b, 0, none⟩ : Addr).add (j * 1 + 0)) = _
    rw [add_plain, World.cell?, hb]
    simp [hj]
end Go.Proofs.YtchekgnacodolaaGreatDoor.X
end
section
namespace Go.Proofs.YtchekgnacodolaaGreatDoor.X
open Go.RowKit Go.Proofs.YtchekgnacodolaaGreatDoorW.PrintWords Go.Proofs.YtchekgnacodolaaGreatDoorW.PrintLast Go.Proofs.YtchekgnacodolaaGreatDoorW.PrintMore
set_option linter.unusedSimpArgs false
set_option linter.unusedVariables false
set_option maxRecDepth 100000 in
set_option maxHeartbeats 4000000 in
theorem inputC (g : Nat) (p : Prg) (v0 v1 v2 : Value) (A : Option Addr) (c : Nat) (l : List TokT) (w : World) (hl : l.length ≤ 1099511627776) (hr : Pc g A c l w) (hp : PS g p v0 v1 v2 w) (hn0 : p.f0.length ≤ 100) (hn1 : p.f1.length ≤ 100) (hn2 : p.f2.length ≤ 100) :
    Calls Tryz.prog 115 #[.pointer (some ⟨g, 0, none⟩), .slice A l.length c] w fun e w' => e = .returned (.int .i64 (inputP p l).2) ∧ Below g w w' ∧ ∃ v0 v1 v2, PS g (inputP p l).1 v0 v1 v2 w' := by
  obtain ⟨A0, c0, rfl, hc0⟩ := hp.s0
  obtain ⟨A1, c1, rfl, hc1⟩ := hp.s1
  obtain ⟨A2, c2, rfl, hc2⟩ := hp.s2
  obtain ⟨m0, hm0⟩ : ∃ m, p.f0.length = m := ⟨_, rfl⟩
  obtain ⟨m1, hm1⟩ : ∃ m, p.f1.length = m := ⟨_, rfl⟩
  obtain ⟨m2, hm2⟩ : ∃ m, p.f2.length = m := ⟨_, rfl⟩
  obtain ⟨n, hn⟩ : ∃ m, l.length = m := ⟨_, rfl⟩
  have hD := below_drew (Below.refl w.heap.size w)
  have hA := below_alloc hD (.cells #[.string ⟨#[105, 110, 112, 117, 116]⟩, .string ⟨#[110, 97, 109, 101]⟩, .string ⟨#[58]⟩, .string ⟨#[110, 97, 109, 101]⟩] 9)
  have KF := formC l fInput hl A c (some ⟨w.drew.heap.size, 0, none⟩) 4 (w.drew.alloc (.cells #[.string ⟨#[105, 110, 112, 117, 116]⟩, .string ⟨#[110, 97, 109, 101]⟩, .string ⟨#[58]⟩, .string ⟨#[110, 97, 109, 101]⟩] 9)) (hr.below hA).rd hr.le (C_strs (by exact blk_new w.drew (.cells #[.string ⟨#[105, 110, 112, 117, 116]⟩, .string ⟨#[110, 97, 109, 101]⟩, .string ⟨#[58]⟩, .string ⟨#[110, 97, 109, 101]⟩] 9)) (by decide)) (by decide)
  have hG := hp.lt
  have hne : w.heap.size ≠ g := by omega
  have hne2 : g ≠ w.heap.size := by omega
  have O1 : Own w.drew g _ _ := hp.blk
  rw [hm0, hm1, hm2] at O1
  have O2 : Own (w.drew.alloc (.cells #[.string ⟨#[105, 110, 112, 117, 116]⟩, .string ⟨#[110, 97, 109, 101]⟩, .string ⟨#[58]⟩, .string ⟨#[110, 97, 109, 101]⟩] 9)) g _ _ := blk_below O1 (below_alloc (Below.refl _ _) _)
  have g1 : w.cell? ⟨g, 1, none⟩ = some (.slice A1 m1 c1) := by rw [← hm1, blk_cell hp.blk]; rfl
  have g2 : w.cell? ⟨g, 2, none⟩ = some (.slice A2 m2 c2) := by rw [← hm2, blk_cell hp.blk]; rfl
  have HP := Lib.hid hp
  have HR := Lib.hid hr
  have HA := Lib.hid hA
  have HF := Lib.hid (show inputP p l = if formsL l fInput = true ∧ l.length = 4 ∧ p.f1.length + p.f2.length = 0 then ({ p with f0 := p.f0 ++ [⟨(tokAt l 1).f1, (tokAt l 3).f1, 0⟩] }, 0) else (p, 2) from rfl)
  rw [hn] at KF HF
  rw [hm1, hm2] at HF
  have HM := Lib.hid (And.intro hm0 (And.intro hm1 (And.intro hm2 hn)))
  clear hp hr hA
  rw [hm0] at hc0 hn0
  rw [hm1] at hc1 hn1
  rw [hm2] at hc2 hn2
  rw [hn]
  clear hm0 hm1 hm2 hn
  generalize formsL l fInput = b at *
  have KF := Lib.hid KF
  have s1 : (m1 : Int) + (m2 : Int) ≤ 9223372036854775807 := by omega
  have s0 : (0 : Int) ≤ (m1 : Int) + (m2 : Int) := by omega
  have hwr : IntKind.i64.wrap ((m1 : Int) + (m2 : Int)) = (m1 : Int) + (m2 : Int) := IntWalk.i64_in _ (by constructor <;> omega)
  go_enter Tryz.func115, Tryz.ntmps115
  cases b with
  | false =>
    go_wp2_with fail
    refine start_ (n := 23) (S := fun w' => w'.cell? ⟨g, 1, none⟩ = some (.slice A1 m1 c1) ∧ w'.cell? ⟨g, 2, none⟩ = some (.slice A2 m2 c2)) (ds := [22]) #[false, false, false, false, false, false, false, false, false, false, false, false, false, false, false, false, false, false, false, false, false, false, false] (by kernel_rfl) rfl rfl ⟨g1, g2⟩ (fun hHeld => ?_)
    refine pure_ (i := 0) (N := some 5) (v := ?_) (a' := ?_) #[true, false, false, false, false, false, false, false, false, false, false, false, false, false, false, false, false, false, false, false, false, false, false] rfl rfl (by kernel_rfl) (fun _ _ _ h => h) (Or.inl ⟨by rfl, ?_⟩) ?_ ?_
    rotate_left
    · intro w'
      go_simp
      with_reducible rfl
    rotate_left
    · simp only [Act.put, List.setIfInBounds_toArray, List.set_cons_zero, List.set_cons_succ]
      rfl
    refine one_ (i := 1) (N := some 6) #[true, true, false, false, false, false, false, false, false, false, false, false, false, false, false, false, false, false, false, false, false, false, false] rfl rfl (by kernel_rfl) (by decide) (fun K hK => ?_)
    refine value_ (w1 := ?_) (v := ?_) (by rfl) rfl ?_ ?_
    rotate_left 2
    · go_simp
      constructor
      · rfl
      · rfl
    refine hK.out _ _ ⟨(pw_cell_below (below_alloc (Below.refl _ _) _) g1), (pw_cell_below (below_alloc (Below.refl _ _) _) g2)⟩ (fun hHeld => ?_)
    clear hK K
    refine norm_ (a' := ?_) ?_ ?_
    rotate_left
    · show Act.put _ (some 6) _ = _
      simp only [Act.put, List.setIfInBounds_toArray, List.set_cons_zero, List.set_cons_succ]
      rfl
    refine one_ (i := 2) (N := some 7) #[true, true, true, false, false, false, false, false, false, false, false, false, false, false, false, false, false, false, false, false, false, false, false] rfl rfl (by kernel_rfl) (by decide) (fun K hK => ?_)
    refine goes_ Tryz.func161 (by kernel_rfl) rfl #[.slice A n c, .slice (some ⟨w.drew.heap.size, 0, none⟩) 4 4] (by rfl) rfl rfl (by (try simp only [List.map_toArray, List.map_cons, List.map_nil]); first | done | rfl) ?_
    refine KF.out.mono ?_
    rintro e w1 ⟨rfl, hb⟩
    have O3 : Own w1 g _ _ := blk_below O2 hb
    refine ⟨_, rfl, ?_⟩
    refine hK.out _ _ ⟨O3.cell 1, O3.cell 2⟩ (fun hHeld => ?_)
    clear hK K
    refine norm_ (a' := ?_) ?_ ?_
    rotate_left
    · show Act.put _ (some 7) _ = _
      simp only [Act.put, List.setIfInBounds_toArray, List.set_cons_zero, List.set_cons_succ]
      rfl
    refine pure_ (i := 3) (N := some 8) (v := ?_) (a' := ?_) #[true, true, true, true, false, false, false, false, false, false, false, false, false, false, false, false, false, false, false, false, false, false, false] rfl rfl (by kernel_rfl) (fun _ _ _ h => h) (Or.inl ⟨by rfl, ?_⟩) ?_ ?_
    rotate_left
    · intro w'
      go_simp
      with_reducible rfl
    rotate_left
    · simp only [Act.put, List.setIfInBounds_toArray, List.set_cons_zero, List.set_cons_succ]
      rfl
    refine pure_ (i := 4) (N := some 9) (v := ?_) (a' := ?_) #[true, true, true, true, true, false, false, false, false, false, false, false, false, false, false, false, false, false, false, false, false, false, false] rfl rfl (by kernel_rfl) (fun _ _ _ h => h) (Or.inl ⟨by rfl, ?_⟩) ?_ ?_
    rotate_left
    · intro w'
      go_simp
      with_reducible rfl
    rotate_left
    · simp only [Act.put, List.setIfInBounds_toArray, List.set_cons_zero, List.set_cons_succ]
      rfl
    refine pure_ (i := 5) (N := some 10) (v := undef) (a' := ?_) #[true, true, true, true, true, true, false, false, false, false, false, false, false, false, false, false, false, false, false, false, false, false, false] rfl rfl (by kernel_rfl) (fun _ _ _ h => h) (Or.inr ⟨by rfl, rfl⟩) ?_ ?_
    rotate_left
    · simp only [Act.put, List.setIfInBounds_toArray, List.set_cons_zero, List.set_cons_succ]
      rfl
    refine pure_ (i := 6) (N := some 11) (v := undef) (a' := ?_) #[true, true, true, true, true, true, true, false, false, false, false, false, false, false, false, false, false, false, false, false, false, false, false] rfl rfl (by kernel_rfl) (fun _ _ _ h => h) (Or.inr ⟨by rfl, rfl⟩) ?_ ?_
    rotate_left
    · simp only [Act.put, List.setIfInBounds_toArray, List.set_cons_zero, List.set_cons_succ]
      rfl
    refine pure_ (i := 7) (N := some 12) (v := undef) (a' := ?_) #[true, true, true, true, true, true, true, true, false, false, false, false, false, false, false, false, false, false, false, false, false, false, false] rfl rfl (by kernel_rfl) (fun _ _ _ h => h) (Or.inr ⟨by rfl, rfl⟩) ?_ ?_
    rotate_left
    · simp only [Act.put, List.setIfInBounds_toArray, List.set_cons_zero, List.set_cons_succ]
      rfl
    refine pure_ (i := 8) (N := some 13) (v := ?_) (a' := ?_) #[true, true, true, true, true, true, true, true, true, false, false, false, false, false, false, false, false, false, false, false, false, false, false] rfl rfl (by kernel_rfl) (fun _ _ _ h => h) (Or.inl ⟨by rfl, ?_⟩) ?_ ?_
    rotate_left
    · intro w'
      go_simp
      with_reducible rfl
    rotate_left
    · simp only [Act.put, List.setIfInBounds_toArray, List.set_cons_zero, List.set_cons_succ]
      rfl
    refine pure_ (i := 9) (N := some 14) (v := ?_) (a' := ?_) #[true, true, true, true, true, true, true, true, true, true, false, false, false, false, false, false, false, false, false, false, false, false, false] rfl rfl (by kernel_rfl) (fun _ _ _ h => h) (Or.inl ⟨by rfl, ?_⟩) ?_ ?_
    rotate_left
    · intro w'
      go_simp
      with_reducible rfl
    rotate_left
    · simp only [Act.put, List.setIfInBounds_toArray, List.set_cons_zero, List.set_cons_succ]
      rfl
    refine pure_ (i := 10) (N := some 15) (v := undef) (a' := ?_) #[true, true, true, true, true, true, true, true, true, true, true, false, false, false, false, false, false, false, false, false, false, false, false] rfl rfl (by kernel_rfl) (fun _ _ _ h => h) (Or.inr ⟨by rfl, rfl⟩) ?_ ?_
    rotate_left
    · simp only [Act.put, List.setIfInBounds_toArray, List.set_cons_zero, List.set_cons_succ]
      rfl
    refine pure_ (i := 11) (N := some 16) (v := undef) (a' := ?_) #[true, true, true, true, true, true, true, true, true, true, true, true, false, false, false, false, false, false, false, false, false, false, false] rfl rfl (by kernel_rfl) (fun _ _ _ h => h) (Or.inr ⟨by rfl, rfl⟩) ?_ ?_
    rotate_left
    · simp only [Act.put, List.setIfInBounds_toArray, List.set_cons_zero, List.set_cons_succ]
      rfl
    refine pure_ (i := 12) (N := some 17) (v := undef) (a' := ?_) #[true, true, true, true, true, true, true, true, true, true, true, true, true, false, false, false, false, false, false, false, false, false, false] rfl rfl (by kernel_rfl) (fun _ _ _ h => h) (Or.inr ⟨by rfl, rfl⟩) ?_ ?_
    rotate_left
    · simp only [Act.put, List.setIfInBounds_toArray, List.set_cons_zero, List.set_cons_succ]
      rfl
    refine take_ (i := 13) (N := some 18) (v := undef) (a' := ?_) #[true, true, true, true, true, true, true, true, true, true, true, true, true, true, false, false, false, false, false, false, false, false, false] rfl rfl (by kernel_rfl) (fun _ _ _ h => h) (Or.inr ⟨by rfl, rfl⟩) hHeld ?_ ?_
    rotate_left
    · simp only [Act.put, List.setIfInBounds_toArray, List.set_cons_zero, List.set_cons_succ]
      rfl
    refine pure_ (i := 14) (N := some 19) (v := undef) (a' := ?_) #[true, true, true, true, true, true, true, true, true, true, true, true, true, true, true, false, false, false, false, false, false, false, false] rfl rfl (by kernel_rfl) (fun _ _ _ h => h) (Or.inr ⟨by rfl, rfl⟩) ?_ ?_
    rotate_left
    · simp only [Act.put, List.setIfInBounds_toArray, List.set_cons_zero, List.set_cons_succ]
      rfl
    refine pure_ (i := 15) (N := some 20) (v := undef) (a' := ?_) #[true, true, true, true, true, true, true, true, true, true, true, true, true, true, true, true, false, false, false, false, false, false, false] rfl rfl (by kernel_rfl) (fun _ _ _ h => h) (Or.inr ⟨by rfl, rfl⟩) ?_ ?_
    rotate_left
    · simp only [Act.put, List.setIfInBounds_toArray, List.set_cons_zero, List.set_cons_succ]
      rfl
    refine pure_ (i := 16) (N := some 21) (v := undef) (a' := ?_) #[true, true, true, true, true, true, true, true, true, true, true, true, true, true, true, true, true, false, false, false, false, false, false] rfl rfl (by kernel_rfl) (fun _ _ _ h => h) (Or.inr ⟨by rfl, rfl⟩) ?_ ?_
    rotate_left
    · simp only [Act.put, List.setIfInBounds_toArray, List.set_cons_zero, List.set_cons_succ]
      rfl
    refine pure_ (i := 17) (N := some 22) (v := undef) (a' := ?_) #[true, true, true, true, true, true, true, true, true, true, true, true, true, true, true, true, true, true, false, false, false, false, false] rfl rfl (by kernel_rfl) (fun _ _ _ h => h) (Or.inr ⟨by rfl, rfl⟩) ?_ ?_
    rotate_left
    · simp only [Act.put, List.setIfInBounds_toArray, List.set_cons_zero, List.set_cons_succ]
      rfl
    refine take_ (i := 18) (N := some 23) (v := undef) (a' := ?_) #[true, true, true, true, true, true, true, true, true, true, true, true, true, true, true, true, true, true, true, false, false, false, false] rfl rfl (by kernel_rfl) (fun _ _ _ h => h) (Or.inr ⟨by rfl, rfl⟩) hHeld ?_ ?_
    rotate_left
    · simp only [Act.put, List.setIfInBounds_toArray, List.set_cons_zero, List.set_cons_succ]
      rfl
    refine pure_ (i := 19) (N := some 24) (v := undef) (a' := ?_) #[true, true, true, true, true, true, true, true, true, true, true, true, true, true, true, true, true, true, true, true, false, false, false] rfl rfl (by kernel_rfl) (fun _ _ _ h => h) (Or.inr ⟨by rfl, rfl⟩) ?_ ?_
    rotate_left
    · simp only [Act.put, List.setIfInBounds_toArray, List.set_cons_zero, List.set_cons_succ]
      rfl
    refine pure_ (i := 20) (N := some 25) (v := undef) (a' := ?_) #[true, true, true, true, true, true, true, true, true, true, true, true, true, true, true, true, true, true, true, true, true, false, false] rfl rfl (by kernel_rfl) (fun _ _ _ h => h) (Or.inr ⟨by rfl, rfl⟩) ?_ ?_
    rotate_left
    · simp only [Act.put, List.setIfInBounds_toArray, List.set_cons_zero, List.set_cons_succ]
      rfl
    refine pure_ (i := 21) (N := some 26) (v := undef) (a' := ?_) #[true, true, true, true, true, true, true, true, true, true, true, true, true, true, true, true, true, true, true, true, true, true, false] rfl rfl (by kernel_rfl) (fun _ _ _ h => h) (Or.inr ⟨by rfl, rfl⟩) ?_ ?_
    rotate_left
    · simp only [Act.put, List.setIfInBounds_toArray, List.set_cons_zero, List.set_cons_succ]
      rfl
    refine pure_ (i := 22) (N := some 27) (v := ?_) (a' := ?_) #[true, true, true, true, true, true, true, true, true, true, true, true, true, true, true, true, true, true, true, true, true, true, true] rfl rfl (by kernel_rfl) (fun _ _ _ h => h) (Or.inl ⟨by rfl, ?_⟩) ?_ ?_
    rotate_left
    · intro w'
      go_simp
      with_reducible rfl
    rotate_left
    · simp only [Act.put, List.setIfInBounds_toArray, List.set_cons_zero, List.set_cons_succ]
      rfl
    refine done_ (by kernel_rfl) ?_
    clear hHeld
    have HB := Lib.hid (HA.out.trans (hb.mono HA.out.size))
    clear hb
    go_wp2_with fail
    go_ret
    rw [HF.out, if_neg (by simp)]
    exact ⟨rfl, HB.out.mono (Nat.le_of_lt hG), _, _, _, HP.out.below HB.out⟩
  | true =>
    by_cases h4 : n = 4
    · subst h4
      by_cases h5 : m1 + m2 = 0
      · have h5d : decide ((0 : Int) < (m1 : Int) + (m2 : Int)) = false := by rw [decide_eq_false_iff_not]; omega
        have h5e : decide (0 < m1 + m2) = false := by rw [decide_eq_false_iff_not]; omega
        have H5 := Lib.hid h5
        go_wp2_with fail
        go_region_held3 (fun w' => w'.cell? ⟨g, 1, none⟩ = some (.slice A1 m1 c1) ∧ w'.cell? ⟨g, 2, none⟩ = some (.slice A2 m2 c2)) (go_keep)
          ((go_at_call 161; refine KF.out.mono ?_; rintro e w1 ⟨rfl, hb⟩; have O3 : Own w1 g _ _ := blk_below O2 hb; have g1 : w1.cell? ⟨g, 1, none⟩ = some (.slice A1 m1 c1) := O3.cell 1; have g2 : w1.cell? ⟨g, 2, none⟩ = some (.slice A2 m2 c2) := O3.cell 2))
        have HB := Lib.hid (HA.out.trans (hb.mono HA.out.size))
        have HP1 := Lib.hid (HP.out.below HB.out)
        have hlen : l.length = 4 := HM.out.2.2.2
        obtain ⟨ad, rfl, hlt, -, b1, -⟩ := (HR.out.below HB.out).at 1 (by omega)
        obtain ⟨ad', e', -, -, b3, -⟩ := (HR.out.below HB.out).at 3 (by omega)
        injection e' with e'
        subst e'
        clear hb
        have g0 : w1.cell? ⟨g, 0, none⟩ = some (.slice A0 m0 c0) := O3.cell 0
        go_wp2_with fail
        refine start_ (n := 19) (S := fun w' => w'.cell? ⟨g, 0, none⟩ = some (.slice A0 m0 c0) ∧ w'.cell? ⟨ad.block, ad.off + 4, none⟩ = some (.string (tokAt l 1).f1) ∧ w'.cell? ⟨ad.block, ad.off + 10, none⟩ = some (.string (tokAt l 3).f1)) (ds := [18]) #[false, false, false, false, false, false, false, false, false, false, false, false, false, false, false, false, false, false, false] (by kernel_rfl) rfl rfl ⟨g0, b1, b3⟩ (fun hHeld => ?_)
        have hD1 := below_drew (Below.refl w1.heap.size w1)
        have hP2 := HP1.out.below hD1
        have G2 : w1.drew.cell? ⟨g, 0, none⟩ = some (.slice A0 m0 c0) := g0
        have hgl := hP2.lt
        have L0 := Kd.N_lt hP2.n0
        have L1 := Kd.N_lt hP2.n1
        have L2 := Kd.N_lt hP2.n2
        have OG : w1.drew.heap[g]? = _ := hP2.blk
        have T1 : w1.drew.cell? ⟨ad.block, ad.off + 4, none⟩ = some (.string (tokAt l 1).f1) := b1
        have T3 : w1.drew.cell? ⟨ad.block, ad.off + 10, none⟩ = some (.string (tokAt l 3).f1) := b3
        have hDD := hD1.mono (show g + 1 ≤ w1.heap.size from HP1.out.lt)
        generalize w1.drew = W at *
        refine pure_ (i := 0) (N := some 28) (v := ?_) (a' := ?_) #[true, false, false, false, false, false, false, false, false, false, false, false, false, false, false, false, false, false, false] rfl rfl (by kernel_rfl) (fun _ _ _ h => h) (Or.inl ⟨by rfl, ?_⟩) ?_ ?_
        rotate_left
        · intro w'
          go_simp
          with_reducible rfl
        rotate_left
        · simp only [Act.put, List.setIfInBounds_toArray, List.set_cons_zero, List.set_cons_succ]
          rfl
        refine pure_ (i := 1) (N := some 29) (v := ?_) (a' := ?_) #[true, true, false, false, false, false, false, false, false, false, false, false, false, false, false, false, false, false, false] rfl rfl (by kernel_rfl) (fun _ _ _ h => h) (Or.inl ⟨by rfl, ?_⟩) ?_ ?_
        rotate_left
        · intro w'
          go_simp
          with_reducible rfl
        rotate_left
        · simp only [Act.put, List.setIfInBounds_toArray, List.set_cons_zero, List.set_cons_succ]
          rfl
        refine pure_ (i := 2) (N := some 30) (v := ?_) (a' := ?_) #[true, true, true, false, false, false, false, false, false, false, false, false, false, false, false, false, false, false, false] rfl rfl (by kernel_rfl) (fun _ _ _ h => h) (Or.inl ⟨by rfl, ?_⟩) ?_ ?_
        rotate_left
        · intro w'
          go_simp
          with_reducible rfl
        rotate_left
        · simp only [Act.put, List.setIfInBounds_toArray, List.set_cons_zero, List.set_cons_succ]
          rfl
        refine pure_ (i := 3) (N := some 31) (v := ?_) (a' := ?_) #[true, true, true, true, false, false, false, false, false, false, false, false, false, false, false, false, false, false, false] rfl rfl (by kernel_rfl) (fun _ _ _ h => h) (Or.inl ⟨by rfl, ?_⟩) ?_ ?_
        rotate_left
        · intro w'
          go_simp
          with_reducible rfl
        rotate_left
        · simp only [Act.put, List.setIfInBounds_toArray, List.set_cons_zero, List.set_cons_succ]
          rfl
        refine take_ (i := 4) (N := some 32) (v := ?_) (a' := ?_) #[true, true, true, true, true, false, false, false, false, false, false, false, false, false, false, false, false, false, false] rfl rfl (by kernel_rfl) (fun _ _ _ h => h) (Or.inl ⟨by rfl, ?_⟩) hHeld ?_ ?_
        rotate_left
        · rintro w' ⟨s0, s1, s2⟩
          go_simp
          with_reducible rfl
        rotate_left
        · simp only [Act.put, List.setIfInBounds_toArray, List.set_cons_zero, List.set_cons_succ]
          rfl
        refine pure_ (i := 5) (N := some 33) (v := ?_) (a' := ?_) #[true, true, true, true, true, true, false, false, false, false, false, false, false, false, false, false, false, false, false] rfl rfl (by kernel_rfl) (fun _ _ _ h => h) (Or.inl ⟨by rfl, ?_⟩) ?_ ?_
        rotate_left
        · intro w'
          go_simp
          with_reducible rfl
        rotate_left
        · simp only [Act.put, List.setIfInBounds_toArray, List.set_cons_zero, List.set_cons_succ]
          rfl
        refine pure_ (i := 6) (N := some 34) (v := ?_) (a' := ?_) #[true, true, true, true, true, true, true, false, false, false, false, false, false, false, false, false, false, false, false] rfl rfl (by kernel_rfl) (fun _ _ _ h => h) (Or.inl ⟨by rfl, ?_⟩) ?_ ?_
        rotate_left
        · intro w'
          go_simp
          with_reducible rfl
        rotate_left
        · simp only [Act.put, List.setIfInBounds_toArray, List.set_cons_zero, List.set_cons_succ]
          rfl
        refine pure_ (i := 7) (N := some 35) (v := ?_) (a' := ?_) #[true, true, true, true, true, true, true, true, false, false, false, false, false, false, false, false, false, false, false] rfl rfl (by kernel_rfl) (fun _ _ _ h => h) (Or.inl ⟨by rfl, ?_⟩) ?_ ?_
        rotate_left
        · intro w'
          go_simp
          with_reducible rfl
        rotate_left
        · simp only [Act.put, List.setIfInBounds_toArray, List.set_cons_zero, List.set_cons_succ]
          rfl
        refine take_ (i := 8) (N := some 36) (v := ?_) (a' := ?_) #[true, true, true, true, true, true, true, true, true, false, false, false, false, false, false, false, false, false, false] rfl rfl (by kernel_rfl) (fun _ _ _ h => h) (Or.inl ⟨by rfl, ?_⟩) hHeld ?_ ?_
        rotate_left
        · rintro w' ⟨s0, s1, s2⟩
          go_simp
          with_reducible rfl
        rotate_left
        · simp only [Act.put, List.setIfInBounds_toArray, List.set_cons_zero, List.set_cons_succ]
          rfl
        refine pure_ (i := 9) (N := some 37) (v := ?_) (a' := ?_) #[true, true, true, true, true, true, true, true, true, true, false, false, false, false, false, false, false, false, false] rfl rfl (by kernel_rfl) (fun _ _ _ h => h) (Or.inl ⟨by rfl, ?_⟩) ?_ ?_
        rotate_left
        · intro w'
          go_simp
          with_reducible rfl
        rotate_left
        · simp only [Act.put, List.setIfInBounds_toArray, List.set_cons_zero, List.set_cons_succ]
          rfl
        refine pure_ (i := 10) (N := some 38) (v := ?_) (a' := ?_) #[true, true, true, true, true, true, true, true, true, true, true, false, false, false, false, false, false, false, false] rfl rfl (by kernel_rfl) (fun _ _ _ h => h) (Or.inl ⟨by rfl, ?_⟩) ?_ ?_
        rotate_left
        · intro w'
          go_simp
          with_reducible rfl
        rotate_left
        · simp only [Act.put, List.setIfInBounds_toArray, List.set_cons_zero, List.set_cons_succ]
          rfl
        refine pure_ (i := 11) (N := some 39) (v := ?_) (a' := ?_) #[true, true, true, true, true, true, true, true, true, true, true, true, false, false, false, false, false, false, false] rfl rfl (by kernel_rfl) (fun _ _ _ h => h) (Or.inl ⟨by rfl, ?_⟩) ?_ ?_
        rotate_left
        · intro w'
          go_simp
          with_reducible rfl
        rotate_left
        · simp only [Act.put, List.setIfInBounds_toArray, List.set_cons_zero, List.set_cons_succ]
          rfl
        refine take_ (i := 12) (N := some 40) (v := ?_) (a' := ?_) #[true, true, true, true, true, true, true, true, true, true, true, true, true, false, false, false, false, false, false] rfl rfl (by kernel_rfl) (fun _ _ _ h => h) (Or.inl ⟨by rfl, ?_⟩) hHeld ?_ ?_
        rotate_left
        · rintro w' ⟨s0, s1, s2⟩
          go_simp
          with_reducible rfl
        rotate_left
        · simp only [Act.put, List.setIfInBounds_toArray, List.set_cons_zero, List.set_cons_succ]
          rfl
        refine pure_ (i := 13) (N := some 41) (v := ?_) (a' := ?_) #[true, true, true, true, true, true, true, true, true, true, true, true, true, true, false, false, false, false, false] rfl rfl (by kernel_rfl) (fun _ _ _ h => h) (Or.inl ⟨by rfl, ?_⟩) ?_ ?_
        rotate_left
        · intro w'
          go_simp
          with_reducible rfl
        rotate_left
        · simp only [Act.put, List.setIfInBounds_toArray, List.set_cons_zero, List.set_cons_succ]
          rfl
        refine one_ (i := 14) (N := some 42) #[true, true, true, true, true, true, true, true, true, true, true, true, true, true, true, false, false, false, false] rfl rfl (by kernel_rfl) (by decide) (fun K hK => ?_)
        refine value_ (w1 := ?_) (v := ?_) (by rfl) rfl ?_ ?_
        rotate_left 2
        · go_simp
          constructor
          · rfl
          · rfl
        refine hK.out _ _ ⟨(pw_cell_below (below_alloc (Below.refl _ _) _) G2), (pw_cell_below (below_alloc (Below.refl _ _) _) T1), (pw_cell_below (below_alloc (Below.refl _ _) _) T3)⟩ (fun hHeld => ?_)
        clear hK K
        refine norm_ (a' := ?_) ?_ ?_
        rotate_left
        · show Act.put _ (some 42) _ = _
          simp only [Act.put, List.setIfInBounds_toArray, List.set_cons_zero, List.set_cons_succ]
          rfl
        refine one_ (i := 15) (N := some 43) #[true, true, true, true, true, true, true, true, true, true, true, true, true, true, true, true, false, false, false] rfl rfl (by kernel_rfl) (by decide) (fun K hK => ?_)
        have hN0 := hP2.n0
        rw [HM.out.1] at hN0
        refine Kd.N_append_step k87 (w0 := w1) (g + 1) (by rfl) (.tmp 32) (.tmp 42) 61 87 (.agg #[.string ⟨#[]⟩, .string ⟨#[]⟩, .int .i64 0]) 40 rfl Tryz.underlying61 infoDl rfl (by decide) (by omega) (.slice A0 m0 c0) p.f0 (⟨(tokAt l 1).f1, (tokAt l 3).f1, 0⟩ : Dl) [.string (tokAt l 1).f1, .string (tokAt l 3).f1, .int .i64 0] (fun k => g < k ∧ some k ≠ (Value.slice A1 p.f1.length c1).ownBlock ∧ some k ≠ (Value.slice A2 p.f2.length c2).ownBlock) (fun _ => False) rfl rfl (k87_mkF W _ _) (fun _ hk => hk.elim) (fun k hk => ⟨by omega, fun he => by have := L1 k he.symm; omega, fun he => by have := L2 k he.symm; omega⟩) hN0 hDD (by omega) (by have := HM.out.1; omega) ?_
        intro v1' w3 hN3 hb3 hg3 hat3
        obtain ⟨A5, c5, rfl⟩ := Kd.N_slice hN3
        obtain ⟨m5, hm5⟩ : ∃ m, (p.f0 ++ [(⟨(tokAt l 1).f1, (tokAt l 3).f1, 0⟩ : Dl)]).length = m := ⟨_, rfl⟩
        rw [hm5] at hN3 hat3 ⊢
        have away : ∀ k, k ≤ g → some k ≠ (Value.slice A0 m0 c0).ownBlock := fun k hk => Kd.N_away hN0 (fun q hq => by have := hq.1; omega)
        refine hK.out _ _ ⟨(cell_grown G2 hg3 (away g (Nat.le_refl _))), (cell_grown T1 hg3 (away ad.block (by omega))), (cell_grown T3 hg3 (away ad.block (by omega)))⟩ (fun hHeld => ?_)
        clear hK K
        refine norm_ (a' := ?_) ?_ ?_
        rotate_left
        · show Act.put _ (some 43) _ = _
          simp only [Act.put, List.setIfInBounds_toArray, List.set_cons_zero, List.set_cons_succ]
          rfl
        refine pure_ (i := 16) (N := some 44) (v := ?_) (a' := ?_) #[true, true, true, true, true, true, true, true, true, true, true, true, true, true, true, true, true, false, false] rfl rfl (by kernel_rfl) (fun _ _ _ h => h) (Or.inl ⟨by rfl, ?_⟩) ?_ ?_
        rotate_left
        · intro w'
          go_simp
          with_reducible rfl
        rotate_left
        · simp only [Act.put, List.setIfInBounds_toArray, List.set_cons_zero, List.set_cons_succ]
          rfl
        refine pure_ (i := 17) (N := some 45) (v := ?_) (a' := ?_) #[true, true, true, true, true, true, true, true, true, true, true, true, true, true, true, true, true, true, false] rfl rfl (by kernel_rfl) (fun _ _ _ h => h) (Or.inl ⟨by rfl, ?_⟩) ?_ ?_
        rotate_left
        · intro w'
          go_simp
          with_reducible rfl
        rotate_left
        · simp only [Act.put, List.setIfInBounds_toArray, List.set_cons_zero, List.set_cons_succ]
          rfl
        have O4 : Own w3 g _ _ := blk_grown OG hg3 (away g (Nat.le_refl _))
        have hfs := O4.fz 0
        have g04 := O4.cell 0
        refine last_ (i := 18) (N := none) #[true, true, true, true, true, true, true, true, true, true, true, true, true, true, true, true, true, true, true] rfl rfl (by kernel_rfl) (by decide) (fun K hK => ?_)
        refine skip_ (w1 := ?_) (by rfl) rfl ?_ ?_
        rotate_left
        · go_simp
          rfl
        refine hK.out _ _ ?_
        clear hK K
        refine done_ (by kernel_rfl) ?_
        have hPF := Lib.hid (PS.app0 (w := W) hP2 hN3 (by rw [← HM.out.1] at hg3; exact hg3) (by rw [← HM.out.1] at hat3; exact hat3))
        have HB3 := Lib.hid (show Below g w (w3.setCell ⟨g, 0, none⟩ (.slice A5 m5 c5)) from ((HB.out.mono (Nat.le_of_lt hG)).trans (hb3.mono (Nat.le_succ g))).setCell (Nat.le_refl g) _)
        clear hN3 hb3 hg3 hat3 away O4 hfs g04 hN0 hP2 T1 T3 G2 OG hHeld L0 L1 L2 hDD hD1
        try clear hHeld
        have H5 := Lib.hid h5
        go_wp2_with fail
        go_ret
        rw [HF.out, if_pos ⟨trivial, trivial, by have := H5.out; omega⟩]
        exact ⟨rfl, HB3.out, _, _, _, hPF.out⟩
      · have h5d : decide ((0 : Int) < (m1 : Int) + (m2 : Int)) = true := by rw [decide_eq_true_eq]; omega
        have h5e : decide (0 < m1 + m2) = true := by rw [decide_eq_true_eq]; omega
        have H5 := Lib.hid h5
        go_wp2_with fail
        go_region_held3 (fun w' => w'.cell? ⟨g, 1, none⟩ = some (.slice A1 m1 c1) ∧ w'.cell? ⟨g, 2, none⟩ = some (.slice A2 m2 c2)) (go_keep)
          ((go_at_call 161; refine KF.out.mono ?_; rintro e w1 ⟨rfl, hb⟩; have O3 : Own w1 g _ _ := blk_below O2 hb; have g1 : w1.cell? ⟨g, 1, none⟩ = some (.slice A1 m1 c1) := O3.cell 1; have g2 : w1.cell? ⟨g, 2, none⟩ = some (.slice A2 m2 c2) := O3.cell 2))
        have HB := Lib.hid (HA.out.trans (hb.mono HA.out.size))
        clear hb
        go_wp2_with fail
        go_ret
        rw [HF.out, if_neg (fun h => H5.out h.2.2)]
        exact ⟨rfl, HB.out.mono (Nat.le_of_lt hG), _, _, _, HP.out.below HB.out⟩
    · have h4d : ((n : Int) != 4) = true := by simp; omega
      have H4 := Lib.hid h4
      go_wp2_with fail
      refine start_ (n := 23) (S := fun w' => w'.cell? ⟨g, 1, none⟩ = some (.slice A1 m1 c1) ∧ w'.cell? ⟨g, 2, none⟩ = some (.slice A2 m2 c2)) (ds := [22]) #[false, false, false, false, false, false, false, false, false, false, false, false, false, false, false, false, false, false, false, false, false, false, false] (by kernel_rfl) rfl rfl ⟨g1, g2⟩ (fun hHeld => ?_)
      refine pure_ (i := 0) (N := some 5) (v := ?_) (a' := ?_) #[true, false, false, false, false, false, false, false, false, false, false, false, false, false, false, false, false, false, false, false, false, false, false] rfl rfl (by kernel_rfl) (fun _ _ _ h => h) (Or.inl ⟨by rfl, ?_⟩) ?_ ?_
      rotate_left
      · intro w'
        go_simp
        with_reducible rfl
      rotate_left
      · simp only [Act.put, List.setIfInBounds_toArray, List.set_cons_zero, List.set_cons_succ]
        rfl
      refine one_ (i := 1) (N := some 6) #[true, true, false, false, false, false, false, false, false, false, false, false, false, false, false, false, false, false, false, false, false, false, false] rfl rfl (by kernel_rfl) (by decide) (fun K hK => ?_)
      refine value_ (w1 := ?_) (v := ?_) (by rfl) rfl ?_ ?_
      rotate_left 2
      · go_simp
        constructor
        · rfl
        · rfl
      refine hK.out _ _ ⟨(pw_cell_below (below_alloc (Below.refl _ _) _) g1), (pw_cell_below (below_alloc (Below.refl _ _) _) g2)⟩ (fun hHeld => ?_)
      clear hK K
      refine norm_ (a' := ?_) ?_ ?_
      rotate_left
      · show Act.put _ (some 6) _ = _
        simp only [Act.put, List.setIfInBounds_toArray, List.set_cons_zero, List.set_cons_succ]
        rfl
      refine one_ (i := 2) (N := some 7) #[true, true, true, false, false, false, false, false, false, false, false, false, false, false, false, false, false, false, false, false, false, false, false] rfl rfl (by kernel_rfl) (by decide) (fun K hK => ?_)
      refine goes_ Tryz.func161 (by kernel_rfl) rfl #[.slice A n c, .slice (some ⟨w.drew.heap.size, 0, none⟩) 4 4] (by rfl) rfl rfl (by (try simp only [List.map_toArray, List.map_cons, List.map_nil]); first | done | rfl) ?_
      refine KF.out.mono ?_
      rintro e w1 ⟨rfl, hb⟩
      have O3 : Own w1 g _ _ := blk_below O2 hb
      refine ⟨_, rfl, ?_⟩
      refine hK.out _ _ ⟨O3.cell 1, O3.cell 2⟩ (fun hHeld => ?_)
      clear hK K
      refine norm_ (a' := ?_) ?_ ?_
      rotate_left
      · show Act.put _ (some 7) _ = _
        simp only [Act.put, List.setIfInBounds_toArray, List.set_cons_zero, List.set_cons_succ]
        rfl
      refine pure_ (i := 3) (N := some 8) (v := ?_) (a' := ?_) #[true, true, true, true, false, false, false, false, false, false, false, false, false, false, false, false, false, false, false, false, false, false, false] rfl rfl (by kernel_rfl) (fun _ _ _ h => h) (Or.inl ⟨by rfl, ?_⟩) ?_ ?_
      rotate_left
      · intro w'
        go_simp
        with_reducible rfl
      rotate_left
      · simp only [Act.put, List.setIfInBounds_toArray, List.set_cons_zero, List.set_cons_succ]
        rfl
      refine pure_ (i := 4) (N := some 9) (v := ?_) (a' := ?_) #[true, true, true, true, true, false, false, false, false, false, false, false, false, false, false, false, false, false, false, false, false, false, false] rfl rfl (by kernel_rfl) (fun _ _ _ h => h) (Or.inl ⟨by rfl, ?_⟩) ?_ ?_
      rotate_left
      · intro w'
        go_simp
        with_reducible rfl
      rotate_left
      · simp only [Act.put, List.setIfInBounds_toArray, List.set_cons_zero, List.set_cons_succ]
        rfl
      refine pure_ (i := 5) (N := some 10) (v := ?_) (a' := ?_) #[true, true, true, true, true, true, false, false, false, false, false, false, false, false, false, false, false, false, false, false, false, false, false] rfl rfl (by kernel_rfl) (fun _ _ _ h => h) (Or.inl ⟨by rfl, ?_⟩) ?_ ?_
      rotate_left
      · intro w'
        go_simp
        with_reducible rfl
      rotate_left
      · simp only [Act.put, List.setIfInBounds_toArray, List.set_cons_zero, List.set_cons_succ]
        rfl
      refine pure_ (i := 6) (N := some 11) (v := ?_) (a' := ?_) #[true, true, true, true, true, true, true, false, false, false, false, false, false, false, false, false, false, false, false, false, false, false, false] rfl rfl (by kernel_rfl) (fun _ _ _ h => h) (Or.inl ⟨by rfl, ?_⟩) ?_ ?_
      rotate_left
      · intro w'
        go_simp
        with_reducible rfl
      rotate_left
      · simp only [Act.put, List.setIfInBounds_toArray, List.set_cons_zero, List.set_cons_succ]
        rfl
      refine pure_ (i := 7) (N := some 12) (v := ?_) (a' := ?_) #[true, true, true, true, true, true, true, true, false, false, false, false, false, false, false, false, false, false, false, false, false, false, false] rfl rfl (by kernel_rfl) (fun _ _ _ h => h) (Or.inl ⟨by rfl, ?_⟩) ?_ ?_
      rotate_left
      · intro w'
        go_simp
        with_reducible rfl
      rotate_left
      · simp only [Act.put, List.setIfInBounds_toArray, List.set_cons_zero, List.set_cons_succ]
        rfl
      refine pure_ (i := 8) (N := some 13) (v := ?_) (a' := ?_) #[true, true, true, true, true, true, true, true, true, false, false, false, false, false, false, false, false, false, false, false, false, false, false] rfl rfl (by kernel_rfl) (fun _ _ _ h => h) (Or.inl ⟨by rfl, ?_⟩) ?_ ?_
      rotate_left
      · intro w'
        go_simp
        with_reducible rfl
      rotate_left
      · simp only [Act.put, List.setIfInBounds_toArray, List.set_cons_zero, List.set_cons_succ]
        rfl
      refine pure_ (i := 9) (N := some 14) (v := ?_) (a' := ?_) #[true, true, true, true, true, true, true, true, true, true, false, false, false, false, false, false, false, false, false, false, false, false, false] rfl rfl (by kernel_rfl) (fun _ _ _ h => h) (Or.inl ⟨by rfl, ?_⟩) ?_ ?_
      rotate_left
      · intro w'
        go_simp
        with_reducible rfl
      rotate_left
      · simp only [Act.put, List.setIfInBounds_toArray, List.set_cons_zero, List.set_cons_succ]
        rfl
      refine pure_ (i := 10) (N := some 15) (v := undef) (a' := ?_) #[true, true, true, true, true, true, true, true, true, true, true, false, false, false, false, false, false, false, false, false, false, false, false] rfl rfl (by kernel_rfl) (fun _ _ _ h => h) (Or.inr ⟨by rfl, rfl⟩) ?_ ?_
      rotate_left
      · simp only [Act.put, List.setIfInBounds_toArray, List.set_cons_zero, List.set_cons_succ]
        rfl
      refine pure_ (i := 11) (N := some 16) (v := undef) (a' := ?_) #[true, true, true, true, true, true, true, true, true, true, true, true, false, false, false, false, false, false, false, false, false, false, false] rfl rfl (by kernel_rfl) (fun _ _ _ h => h) (Or.inr ⟨by rfl, rfl⟩) ?_ ?_
      rotate_left
      · simp only [Act.put, List.setIfInBounds_toArray, List.set_cons_zero, List.set_cons_succ]
        rfl
      refine pure_ (i := 12) (N := some 17) (v := undef) (a' := ?_) #[true, true, true, true, true, true, true, true, true, true, true, true, true, false, false, false, false, false, false, false, false, false, false] rfl rfl (by kernel_rfl) (fun _ _ _ h => h) (Or.inr ⟨by rfl, rfl⟩) ?_ ?_
      rotate_left
      · simp only [Act.put, List.setIfInBounds_toArray, List.set_cons_zero, List.set_cons_succ]
        rfl
      refine take_ (i := 13) (N := some 18) (v := undef) (a' := ?_) #[true, true, true, true, true, true, true, true, true, true, true, true, true, true, false, false, false, false, false, false, false, false, false] rfl rfl (by kernel_rfl) (fun _ _ _ h => h) (Or.inr ⟨by rfl, rfl⟩) hHeld ?_ ?_
      rotate_left
      · simp only [Act.put, List.setIfInBounds_toArray, List.set_cons_zero, List.set_cons_succ]
        rfl
      refine pure_ (i := 14) (N := some 19) (v := undef) (a' := ?_) #[true, true, true, true, true, true, true, true, true, true, true, true, true, true, true, false, false, false, false, false, false, false, false] rfl rfl (by kernel_rfl) (fun _ _ _ h => h) (Or.inr ⟨by rfl, rfl⟩) ?_ ?_
      rotate_left
      · simp only [Act.put, List.setIfInBounds_toArray, List.set_cons_zero, List.set_cons_succ]
        rfl
      refine pure_ (i := 15) (N := some 20) (v := undef) (a' := ?_) #[true, true, true, true, true, true, true, true, true, true, true, true, true, true, true, true, false, false, false, false, false, false, false] rfl rfl (by kernel_rfl) (fun _ _ _ h => h) (Or.inr ⟨by rfl, rfl⟩) ?_ ?_
      rotate_left
      · simp only [Act.put, List.setIfInBounds_toArray, List.set_cons_zero, List.set_cons_succ]
        rfl
      refine pure_ (i := 16) (N := some 21) (v := undef) (a' := ?_) #[true, true, true, true, true, true, true, true, true, true, true, true, true, true, true, true, true, false, false, false, false, false, false] rfl rfl (by kernel_rfl) (fun _ _ _ h => h) (Or.inr ⟨by rfl, rfl⟩) ?_ ?_
      rotate_left
      · simp only [Act.put, List.setIfInBounds_toArray, List.set_cons_zero, List.set_cons_succ]
        rfl
      refine pure_ (i := 17) (N := some 22) (v := undef) (a' := ?_) #[true, true, true, true, true, true, true, true, true, true, true, true, true, true, true, true, true, true, false, false, false, false, false] rfl rfl (by kernel_rfl) (fun _ _ _ h => h) (Or.inr ⟨by rfl, rfl⟩) ?_ ?_
      rotate_left
      · simp only [Act.put, List.setIfInBounds_toArray, List.set_cons_zero, List.set_cons_succ]
        rfl
      refine take_ (i := 18) (N := some 23) (v := undef) (a' := ?_) #[true, true, true, true, true, true, true, true, true, true, true, true, true, true, true, true, true, true, true, false, false, false, false] rfl rfl (by kernel_rfl) (fun _ _ _ h => h) (Or.inr ⟨by rfl, rfl⟩) hHeld ?_ ?_
      rotate_left
      · simp only [Act.put, List.setIfInBounds_toArray, List.set_cons_zero, List.set_cons_succ]
        rfl
      refine pure_ (i := 19) (N := some 24) (v := undef) (a' := ?_) #[true, true, true, true, true, true, true, true, true, true, true, true, true, true, true, true, true, true, true, true, false, false, false] rfl rfl (by kernel_rfl) (fun _ _ _ h => h) (Or.inr ⟨by rfl, rfl⟩) ?_ ?_
      rotate_left
      · simp only [Act.put, List.setIfInBounds_toArray, List.set_cons_zero, List.set_cons_succ]
        rfl
      refine pure_ (i := 20) (N := some 25) (v := undef) (a' := ?_) #[true, true, true, true, true, true, true, true, true, true, true, true, true, true, true, true, true, true, true, true, true, false, false] rfl rfl (by kernel_rfl) (fun _ _ _ h => h) (Or.inr ⟨by rfl, rfl⟩) ?_ ?_
      rotate_left
      · simp only [Act.put, List.setIfInBounds_toArray, List.set_cons_zero, List.set_cons_succ]
        rfl
      refine pure_ (i := 21) (N := some 26) (v := undef) (a' := ?_) #[true, true, true, true, true, true, true, true, true, true, true, true, true, true, true, true, true, true, true, true, true, true, false] rfl rfl (by kernel_rfl) (fun _ _ _ h => h) (Or.inr ⟨by rfl, rfl⟩) ?_ ?_
      rotate_left
      · simp only [Act.put, List.setIfInBounds_toArray, List.set_cons_zero, List.set_cons_succ]
        rfl
      refine pure_ (i := 22) (N := some 27) (v := ?_) (a' := ?_) #[true, true, true, true, true, true, true, true, true, true, true, true, true, true, true, true, true, true, true, true, true, true, true] rfl rfl (by kernel_rfl) (fun _ _ _ h => h) (Or.inl ⟨by rfl, ?_⟩) ?_ ?_
      rotate_left
      · intro w'
        go_simp
        with_reducible rfl
      rotate_left
      · simp only [Act.put, List.setIfInBounds_toArray, List.set_cons_zero, List.set_cons_succ]
        rfl
      refine done_ (by kernel_rfl) ?_
      clear hHeld
      have HB := Lib.hid (HA.out.trans (hb.mono HA.out.size))
      clear hb
      go_wp2_with fail
      go_ret
      rw [HF.out, if_neg (fun h => H4.out h.2.1)]
      exact ⟨rfl, HB.out.mono (Nat.le_of_lt hG), _, _, _, HP.out.below HB.out⟩
end Go.Proofs.YtchekgnacodolaaGreatDoor.X
end
section
namespace Go.Proofs.YtchekgnacodolaaGreatDoor.X
open Go.RowKit Go.Proofs.YtchekgnacodolaaGreatDoorW.PrintWords Go.Proofs.YtchekgnacodolaaGreatDoorW.PrintLast Go.Proofs.YtchekgnacodolaaGreatDoorW.PrintMore
set_option linter.unusedSimpArgs false
set_option linter.unusedVariables false
set_option maxRecDepth 100000 in
set_option maxHeartbeats 4000000 in
theorem cellC (g : Nat) (p : Prg) (v0 v1 v2 : Value) (A : Option Addr) (c : Nat) (l : List TokT) (w : World) (hl : l.length ≤ 1099511627776) (hr : Pc g A c l w) (hp : PS g p v0 v1 v2 w) (hn0 : p.f0.length ≤ 100) (hn1 : p.f1.length ≤ 100) (hn2 : p.f2.length ≤ 100) :
    Calls Tryz.prog 116 #[.pointer (some ⟨g, 0, none⟩), .slice A l.length c] w fun e w' => e = .returned (.int .i64 (cellP p l).2) ∧ Below g w w' ∧ ∃ v0 v1 v2, PS g (cellP p l).1 v0 v1 v2 w' := by
  obtain ⟨A0, c0, rfl, hc0⟩ := hp.s0
  obtain ⟨A1, c1, rfl, hc1⟩ := hp.s1
  obtain ⟨A2, c2, rfl, hc2⟩ := hp.s2
  obtain ⟨m0, hm0⟩ : ∃ m, p.f0.length = m := ⟨_, rfl⟩
  obtain ⟨m1, hm1⟩ : ∃ m, p.f1.length = m := ⟨_, rfl⟩
  obtain ⟨m2, hm2⟩ : ∃ m, p.f2.length = m := ⟨_, rfl⟩
  obtain ⟨n, hn⟩ : ∃ m, l.length = m := ⟨_, rfl⟩
  have hA := below_alloc (Below.refl w.heap.size w) (.cells #[.string ⟨#[99, 101, 108, 108]⟩, .string ⟨#[110, 97, 109, 101]⟩, .string ⟨#[58]⟩, .string ⟨#[110, 97, 109, 101]⟩, .string ⟨#[61]⟩, .string ⟨#[110, 117, 109, 98, 101, 114]⟩] 9)
  have KF := formC l fCell hl A c (some ⟨w.heap.size, 0, none⟩) 6 (w.alloc (.cells #[.string ⟨#[99, 101, 108, 108]⟩, .string ⟨#[110, 97, 109, 101]⟩, .string ⟨#[58]⟩, .string ⟨#[110, 97, 109, 101]⟩, .string ⟨#[61]⟩, .string ⟨#[110, 117, 109, 98, 101, 114]⟩] 9)) (hr.below hA).rd hr.le (C_strs (by exact blk_new w (.cells #[.string ⟨#[99, 101, 108, 108]⟩, .string ⟨#[110, 97, 109, 101]⟩, .string ⟨#[58]⟩, .string ⟨#[110, 97, 109, 101]⟩, .string ⟨#[61]⟩, .string ⟨#[110, 117, 109, 98, 101, 114]⟩] 9)) (by decide)) (by decide)
  have hG := hp.lt
  have hne : w.heap.size ≠ g := by omega
  have hne2 : g ≠ w.heap.size := by omega
  have O1 : Own w g _ _ := hp.blk
  rw [hm0, hm1, hm2] at O1
  have O2 : Own (w.alloc (.cells #[.string ⟨#[99, 101, 108, 108]⟩, .string ⟨#[110, 97, 109, 101]⟩, .string ⟨#[58]⟩, .string ⟨#[110, 97, 109, 101]⟩, .string ⟨#[61]⟩, .string ⟨#[110, 117, 109, 98, 101, 114]⟩] 9)) g _ _ := blk_below O1 (below_alloc (Below.refl _ _) _)
  have HP := Lib.hid hp
  have HR := Lib.hid hr
  have HA := Lib.hid hA
  have HF := Lib.hid (show cellP p l = if formsL l fCell = true ∧ l.length = 6 ∧ p.f2.length = 0 then ({ p with f1 := p.f1 ++ [⟨(tokAt l 1).f1, (tokAt l 3).f1, (tokAt l 5).f2⟩] }, 0) else (p, 2) from rfl)
  rw [hn] at KF HF
  rw [hm2] at HF
  have HM := Lib.hid (And.intro hm0 (And.intro hm1 (And.intro hm2 hn)))
  clear hp hr hA
  rw [hm0] at hc0 hn0
  rw [hm1] at hc1 hn1
  rw [hm2] at hc2 hn2
  rw [hn]
  clear hm0 hm1 hm2 hn
  generalize formsL l fCell = b at *
  have KF := Lib.hid KF
  go_enter Tryz.func116, Tryz.ntmps116
  cases b with
  | false =>
    go_wp2_with fail
    refine KF.out.mono ?_
    rintro e w1 ⟨rfl, hb⟩
    have HB := Lib.hid (HA.out.trans (hb.mono HA.out.size))
    clear hb
    go_wp2_with fail
    go_ret
    rw [HF.out, if_neg (by simp)]
    exact ⟨rfl, HB.out.mono (Nat.le_of_lt hG), _, _, _, HP.out.below HB.out⟩
  | true =>
    by_cases h4 : n = 6
    · subst h4
      by_cases h5 : m2 = 0
      · have h5d : decide ((0 : Int) < (m2 : Int)) = false := by rw [decide_eq_false_iff_not]; omega
        have H5 := Lib.hid h5
        go_wp2_with fail
        refine KF.out.mono ?_
        rintro e w1 ⟨rfl, hb⟩
        have O3 : Own w1 g _ _ := blk_below O2 hb
        have d2 := O3.cell 2
        have HB := Lib.hid (HA.out.trans (hb.mono HA.out.size))
        have HP1 := Lib.hid (HP.out.below HB.out)
        have hlen : l.length = 6 := HM.out.2.2.2
        obtain ⟨ad, rfl, hlt, -, b1, -⟩ := (HR.out.below HB.out).at 1 (by omega)
        obtain ⟨ad', e', -, -, b3, -⟩ := (HR.out.below HB.out).at 3 (by omega)
        injection e' with e'
        subst e'
        obtain ⟨ad', e', -, -, -, b5⟩ := (HR.out.below HB.out).at 5 (by omega)
        injection e' with e'
        subst e'
        clear hb
        have g0 : w1.cell? ⟨g, 1, none⟩ = some (.slice A1 m1 c1) := O3.cell 1
        go_wp2_with fail
        refine start_ (n := 23) (S := fun w' => w'.cell? ⟨g, 1, none⟩ = some (.slice A1 m1 c1) ∧ w'.cell? ⟨ad.block, ad.off + 4, none⟩ = some (.string (tokAt l 1).f1) ∧ w'.cell? ⟨ad.block, ad.off + 10, none⟩ = some (.string (tokAt l 3).f1) ∧ w'.cell? ⟨ad.block, ad.off + 17, none⟩ = some (.int .i64 (tokAt l 5).f2)) (ds := [22]) #[false, false, false, false, false, false, false, false, false, false, false, false, false, false, false, false, false, false, false, false, false, false, false] (by kernel_rfl) rfl rfl ⟨g0, b1, b3, b5⟩ (fun hHeld => ?_)
        have hD1 := below_drew (Below.refl w1.heap.size w1)
        have hP2 := HP1.out.below hD1
        have G2 : w1.drew.cell? ⟨g, 1, none⟩ = some (.slice A1 m1 c1) := g0
        have hgl := hP2.lt
        have L0 := Kd.N_lt hP2.n0
        have L1 := Kd.N_lt hP2.n1
        have L2 := Kd.N_lt hP2.n2
        have OG : w1.drew.heap[g]? = _ := hP2.blk
        have T1 : w1.drew.cell? ⟨ad.block, ad.off + 4, none⟩ = some (.string (tokAt l 1).f1) := b1
        have T3 : w1.drew.cell? ⟨ad.block, ad.off + 10, none⟩ = some (.string (tokAt l 3).f1) := b3
        have T5 : w1.drew.cell? ⟨ad.block, ad.off + 17, none⟩ = some (.int .i64 (tokAt l 5).f2) := b5
        have hDD := hD1.mono (show g + 1 ≤ w1.heap.size from HP1.out.lt)
        generalize w1.drew = W at *
        refine pure_ (i := 0) (N := some 22) (v := ?_) (a' := ?_) #[true, false, false, false, false, false, false, false, false, false, false, false, false, false, false, false, false, false, false, false, false, false, false] rfl rfl (by kernel_rfl) (fun _ _ _ h => h) (Or.inl ⟨by rfl, ?_⟩) ?_ ?_
        rotate_left
        · intro w'
          go_simp
          with_reducible rfl
        rotate_left
        · simp only [Act.put, List.setIfInBounds_toArray, List.set_cons_zero, List.set_cons_succ]
          rfl
        refine pure_ (i := 1) (N := some 23) (v := ?_) (a' := ?_) #[true, true, false, false, false, false, false, false, false, false, false, false, false, false, false, false, false, false, false, false, false, false, false] rfl rfl (by kernel_rfl) (fun _ _ _ h => h) (Or.inl ⟨by rfl, ?_⟩) ?_ ?_
        rotate_left
        · intro w'
          go_simp
          with_reducible rfl
        rotate_left
        · simp only [Act.put, List.setIfInBounds_toArray, List.set_cons_zero, List.set_cons_succ]
          rfl
        refine pure_ (i := 2) (N := some 24) (v := ?_) (a' := ?_) #[true, true, true, false, false, false, false, false, false, false, false, false, false, false, false, false, false, false, false, false, false, false, false] rfl rfl (by kernel_rfl) (fun _ _ _ h => h) (Or.inl ⟨by rfl, ?_⟩) ?_ ?_
        rotate_left
        · intro w'
          go_simp
          with_reducible rfl
        rotate_left
        · simp only [Act.put, List.setIfInBounds_toArray, List.set_cons_zero, List.set_cons_succ]
          rfl
        refine pure_ (i := 3) (N := some 25) (v := ?_) (a' := ?_) #[true, true, true, true, false, false, false, false, false, false, false, false, false, false, false, false, false, false, false, false, false, false, false] rfl rfl (by kernel_rfl) (fun _ _ _ h => h) (Or.inl ⟨by rfl, ?_⟩) ?_ ?_
        rotate_left
        · intro w'
          go_simp
          with_reducible rfl
        rotate_left
        · simp only [Act.put, List.setIfInBounds_toArray, List.set_cons_zero, List.set_cons_succ]
          rfl
        refine take_ (i := 4) (N := some 26) (v := ?_) (a' := ?_) #[true, true, true, true, true, false, false, false, false, false, false, false, false, false, false, false, false, false, false, false, false, false, false] rfl rfl (by kernel_rfl) (fun _ _ _ h => h) (Or.inl ⟨by rfl, ?_⟩) hHeld ?_ ?_
        rotate_left
        · rintro w' ⟨s0, s1, s2, s3⟩
          go_simp
          with_reducible rfl
        rotate_left
        · simp only [Act.put, List.setIfInBounds_toArray, List.set_cons_zero, List.set_cons_succ]
          rfl
        refine pure_ (i := 5) (N := some 27) (v := ?_) (a' := ?_) #[true, true, true, true, true, true, false, false, false, false, false, false, false, false, false, false, false, false, false, false, false, false, false] rfl rfl (by kernel_rfl) (fun _ _ _ h => h) (Or.inl ⟨by rfl, ?_⟩) ?_ ?_
        rotate_left
        · intro w'
          go_simp
          with_reducible rfl
        rotate_left
        · simp only [Act.put, List.setIfInBounds_toArray, List.set_cons_zero, List.set_cons_succ]
          rfl
        refine pure_ (i := 6) (N := some 28) (v := ?_) (a' := ?_) #[true, true, true, true, true, true, true, false, false, false, false, false, false, false, false, false, false, false, false, false, false, false, false] rfl rfl (by kernel_rfl) (fun _ _ _ h => h) (Or.inl ⟨by rfl, ?_⟩) ?_ ?_
        rotate_left
        · intro w'
          go_simp
          with_reducible rfl
        rotate_left
        · simp only [Act.put, List.setIfInBounds_toArray, List.set_cons_zero, List.set_cons_succ]
          rfl
        refine pure_ (i := 7) (N := some 29) (v := ?_) (a' := ?_) #[true, true, true, true, true, true, true, true, false, false, false, false, false, false, false, false, false, false, false, false, false, false, false] rfl rfl (by kernel_rfl) (fun _ _ _ h => h) (Or.inl ⟨by rfl, ?_⟩) ?_ ?_
        rotate_left
        · intro w'
          go_simp
          with_reducible rfl
        rotate_left
        · simp only [Act.put, List.setIfInBounds_toArray, List.set_cons_zero, List.set_cons_succ]
          rfl
        refine take_ (i := 8) (N := some 30) (v := ?_) (a' := ?_) #[true, true, true, true, true, true, true, true, true, false, false, false, false, false, false, false, false, false, false, false, false, false, false] rfl rfl (by kernel_rfl) (fun _ _ _ h => h) (Or.inl ⟨by rfl, ?_⟩) hHeld ?_ ?_
        rotate_left
        · rintro w' ⟨s0, s1, s2, s3⟩
          go_simp
          with_reducible rfl
        rotate_left
        · simp only [Act.put, List.setIfInBounds_toArray, List.set_cons_zero, List.set_cons_succ]
          rfl
        refine pure_ (i := 9) (N := some 31) (v := ?_) (a' := ?_) #[true, true, true, true, true, true, true, true, true, true, false, false, false, false, false, false, false, false, false, false, false, false, false] rfl rfl (by kernel_rfl) (fun _ _ _ h => h) (Or.inl ⟨by rfl, ?_⟩) ?_ ?_
        rotate_left
        · intro w'
          go_simp
          with_reducible rfl
        rotate_left
        · simp only [Act.put, List.setIfInBounds_toArray, List.set_cons_zero, List.set_cons_succ]
          rfl
        refine pure_ (i := 10) (N := some 32) (v := ?_) (a' := ?_) #[true, true, true, true, true, true, true, true, true, true, true, false, false, false, false, false, false, false, false, false, false, false, false] rfl rfl (by kernel_rfl) (fun _ _ _ h => h) (Or.inl ⟨by rfl, ?_⟩) ?_ ?_
        rotate_left
        · intro w'
          go_simp
          with_reducible rfl
        rotate_left
        · simp only [Act.put, List.setIfInBounds_toArray, List.set_cons_zero, List.set_cons_succ]
          rfl
        refine pure_ (i := 11) (N := some 33) (v := ?_) (a' := ?_) #[true, true, true, true, true, true, true, true, true, true, true, true, false, false, false, false, false, false, false, false, false, false, false] rfl rfl (by kernel_rfl) (fun _ _ _ h => h) (Or.inl ⟨by rfl, ?_⟩) ?_ ?_
        rotate_left
        · intro w'
          go_simp
          with_reducible rfl
        rotate_left
        · simp only [Act.put, List.setIfInBounds_toArray, List.set_cons_zero, List.set_cons_succ]
          rfl
        refine take_ (i := 12) (N := some 34) (v := ?_) (a' := ?_) #[true, true, true, true, true, true, true, true, true, true, true, true, true, false, false, false, false, false, false, false, false, false, false] rfl rfl (by kernel_rfl) (fun _ _ _ h => h) (Or.inl ⟨by rfl, ?_⟩) hHeld ?_ ?_
        rotate_left
        · rintro w' ⟨s0, s1, s2, s3⟩
          go_simp
          with_reducible rfl
        rotate_left
        · simp only [Act.put, List.setIfInBounds_toArray, List.set_cons_zero, List.set_cons_succ]
          rfl
        refine pure_ (i := 13) (N := some 35) (v := ?_) (a' := ?_) #[true, true, true, true, true, true, true, true, true, true, true, true, true, true, false, false, false, false, false, false, false, false, false] rfl rfl (by kernel_rfl) (fun _ _ _ h => h) (Or.inl ⟨by rfl, ?_⟩) ?_ ?_
        rotate_left
        · intro w'
          go_simp
          with_reducible rfl
        rotate_left
        · simp only [Act.put, List.setIfInBounds_toArray, List.set_cons_zero, List.set_cons_succ]
          rfl
        refine pure_ (i := 14) (N := some 36) (v := ?_) (a' := ?_) #[true, true, true, true, true, true, true, true, true, true, true, true, true, true, true, false, false, false, false, false, false, false, false] rfl rfl (by kernel_rfl) (fun _ _ _ h => h) (Or.inl ⟨by rfl, ?_⟩) ?_ ?_
        rotate_left
        · intro w'
          go_simp
          with_reducible rfl
        rotate_left
        · simp only [Act.put, List.setIfInBounds_toArray, List.set_cons_zero, List.set_cons_succ]
          rfl
        refine pure_ (i := 15) (N := some 37) (v := ?_) (a' := ?_) #[true, true, true, true, true, true, true, true, true, true, true, true, true, true, true, true, false, false, false, false, false, false, false] rfl rfl (by kernel_rfl) (fun _ _ _ h => h) (Or.inl ⟨by rfl, ?_⟩) ?_ ?_
        rotate_left
        · intro w'
          go_simp
          with_reducible rfl
        rotate_left
        · simp only [Act.put, List.setIfInBounds_toArray, List.set_cons_zero, List.set_cons_succ]
          rfl
        refine take_ (i := 16) (N := some 38) (v := ?_) (a' := ?_) #[true, true, true, true, true, true, true, true, true, true, true, true, true, true, true, true, true, false, false, false, false, false, false] rfl rfl (by kernel_rfl) (fun _ _ _ h => h) (Or.inl ⟨by rfl, ?_⟩) hHeld ?_ ?_
        rotate_left
        · rintro w' ⟨s0, s1, s2, s3⟩
          go_simp
          with_reducible rfl
        rotate_left
        · simp only [Act.put, List.setIfInBounds_toArray, List.set_cons_zero, List.set_cons_succ]
          rfl
        refine pure_ (i := 17) (N := some 39) (v := ?_) (a' := ?_) #[true, true, true, true, true, true, true, true, true, true, true, true, true, true, true, true, true, true, false, false, false, false, false] rfl rfl (by kernel_rfl) (fun _ _ _ h => h) (Or.inl ⟨by rfl, ?_⟩) ?_ ?_
        rotate_left
        · intro w'
          go_simp
          with_reducible rfl
        rotate_left
        · simp only [Act.put, List.setIfInBounds_toArray, List.set_cons_zero, List.set_cons_succ]
          rfl
        refine one_ (i := 18) (N := some 40) #[true, true, true, true, true, true, true, true, true, true, true, true, true, true, true, true, true, true, true, false, false, false, false] rfl rfl (by kernel_rfl) (by decide) (fun K hK => ?_)
        refine value_ (w1 := ?_) (v := ?_) (by rfl) rfl ?_ ?_
        rotate_left 2
        · go_simp
          constructor
          · rfl
          · rfl
        refine hK.out _ _ ⟨(pw_cell_below (below_alloc (Below.refl _ _) _) G2), (pw_cell_below (below_alloc (Below.refl _ _) _) T1), (pw_cell_below (below_alloc (Below.refl _ _) _) T3), (pw_cell_below (below_alloc (Below.refl _ _) _) T5)⟩ (fun hHeld => ?_)
        clear hK K
        refine norm_ (a' := ?_) ?_ ?_
        rotate_left
        · show Act.put _ (some 40) _ = _
          simp only [Act.put, List.setIfInBounds_toArray, List.set_cons_zero, List.set_cons_succ]
          rfl
        refine one_ (i := 19) (N := some 41) #[true, true, true, true, true, true, true, true, true, true, true, true, true, true, true, true, true, true, true, true, false, false, false] rfl rfl (by kernel_rfl) (by decide) (fun K hK => ?_)
        have hN0 := hP2.n1
        rw [HM.out.2.1] at hN0
        refine Kd.N_append_step k87 (w0 := w1) (g + 1) (by rfl) (.tmp 26) (.tmp 40) 61 87 (.agg #[.string ⟨#[]⟩, .string ⟨#[]⟩, .int .i64 0]) 40 rfl Tryz.underlying61 infoDl rfl (by decide) (by omega) (.slice A1 m1 c1) p.f1 (⟨(tokAt l 1).f1, (tokAt l 3).f1, (tokAt l 5).f2⟩ : Dl) [.string (tokAt l 1).f1, .string (tokAt l 3).f1, .int .i64 (tokAt l 5).f2] (fun k => g < k ∧ some k ≠ (Value.slice A0 p.f0.length c0).ownBlock ∧ some k ≠ (Value.slice A2 p.f2.length c2).ownBlock) (fun _ => False) rfl rfl (k87_mkF W _ _) (fun _ hk => hk.elim) (fun k hk => ⟨by omega, fun he => by have := L0 k he.symm; omega, fun he => by have := L2 k he.symm; omega⟩) hN0 hDD (by omega) (by have := HM.out.2.1; omega) ?_
        intro v1' w3 hN3 hb3 hg3 hat3
        obtain ⟨A5, c5, rfl⟩ := Kd.N_slice hN3
        obtain ⟨m5, hm5⟩ : ∃ m, (p.f1 ++ [(⟨(tokAt l 1).f1, (tokAt l 3).f1, (tokAt l 5).f2⟩ : Dl)]).length = m := ⟨_, rfl⟩
        rw [hm5] at hN3 hat3 ⊢
        have away : ∀ k, k ≤ g → some k ≠ (Value.slice A1 m1 c1).ownBlock := fun k hk => Kd.N_away hN0 (fun q hq => by have := hq.1; omega)
        refine hK.out _ _ ⟨(cell_grown G2 hg3 (away g (Nat.le_refl _))), (cell_grown T1 hg3 (away ad.block (by omega))), (cell_grown T3 hg3 (away ad.block (by omega))), (cell_grown T5 hg3 (away ad.block (by omega)))⟩ (fun hHeld => ?_)
        clear hK K
        refine norm_ (a' := ?_) ?_ ?_
        rotate_left
        · show Act.put _ (some 41) _ = _
          simp only [Act.put, List.setIfInBounds_toArray, List.set_cons_zero, List.set_cons_succ]
          rfl
        refine pure_ (i := 20) (N := some 42) (v := ?_) (a' := ?_) #[true, true, true, true, true, true, true, true, true, true, true, true, true, true, true, true, true, true, true, true, true, false, false] rfl rfl (by kernel_rfl) (fun _ _ _ h => h) (Or.inl ⟨by rfl, ?_⟩) ?_ ?_
        rotate_left
        · intro w'
          go_simp
          with_reducible rfl
        rotate_left
        · simp only [Act.put, List.setIfInBounds_toArray, List.set_cons_zero, List.set_cons_succ]
          rfl
        refine pure_ (i := 21) (N := some 43) (v := ?_) (a' := ?_) #[true, true, true, true, true, true, true, true, true, true, true, true, true, true, true, true, true, true, true, true, true, true, false] rfl rfl (by kernel_rfl) (fun _ _ _ h => h) (Or.inl ⟨by rfl, ?_⟩) ?_ ?_
        rotate_left
        · intro w'
          go_simp
          with_reducible rfl
        rotate_left
        · simp only [Act.put, List.setIfInBounds_toArray, List.set_cons_zero, List.set_cons_succ]
          rfl
        have O4 : Own w3 g _ _ := blk_grown OG hg3 (away g (Nat.le_refl _))
        have hfs := O4.fz 1
        have g04 := O4.cell 1
        refine last_ (i := 22) (N := none) #[true, true, true, true, true, true, true, true, true, true, true, true, true, true, true, true, true, true, true, true, true, true, true] rfl rfl (by kernel_rfl) (by decide) (fun K hK => ?_)
        refine skip_ (w1 := ?_) (by rfl) rfl ?_ ?_
        rotate_left
        · go_simp
          rfl
        refine hK.out _ _ ?_
        clear hK K
        refine done_ (by kernel_rfl) ?_
        have hPF := Lib.hid (PS.app1 (w := W) hP2 hN3 (by rw [← HM.out.2.1] at hg3; exact hg3) (by rw [← HM.out.2.1] at hat3; exact hat3))
        have HB3 := Lib.hid (show Below g w (w3.setCell ⟨g, 1, none⟩ (.slice A5 m5 c5)) from ((HB.out.mono (Nat.le_of_lt hG)).trans (hb3.mono (Nat.le_succ g))).setCell (Nat.le_refl g) _)
        clear hN3 hb3 hg3 hat3 away O4 hfs g04 hN0 hP2 T1 T3 T5 G2 OG hHeld L0 L1 L2 hDD hD1
        try clear hHeld
        go_wp2_with fail
        go_ret
        rw [HF.out, if_pos ⟨trivial, trivial, H5.out⟩]
        exact ⟨rfl, HB3.out, _, _, _, hPF.out⟩
      · have h5d : decide ((0 : Int) < (m2 : Int)) = true := by rw [decide_eq_true_eq]; omega
        have H5 := Lib.hid h5
        go_wp2_with fail
        refine KF.out.mono ?_
        rintro e w1 ⟨rfl, hb⟩
        have O3 : Own w1 g _ _ := blk_below O2 hb
        have d2 := O3.cell 2
        have HB := Lib.hid (HA.out.trans (hb.mono HA.out.size))
        clear hb
        go_wp2_with fail
        go_ret
        rw [HF.out, if_neg (fun h => H5.out h.2.2)]
        exact ⟨rfl, HB.out.mono (Nat.le_of_lt hG), _, _, _, HP.out.below HB.out⟩
    · have h4d : ((n : Int) != 6) = true := by simp; omega
      have H4 := Lib.hid h4
      go_wp2_with fail
      refine KF.out.mono ?_
      rintro e w1 ⟨rfl, hb⟩
      have HB := Lib.hid (HA.out.trans (hb.mono HA.out.size))
      clear hb
      go_wp2_with fail
      go_ret
      rw [HF.out, if_neg (fun h => H4.out h.2.1)]
      exact ⟨rfl, HB.out.mono (Nat.le_of_lt hG), _, _, _, HP.out.below HB.out⟩
end Go.Proofs.YtchekgnacodolaaGreatDoor.X
end
section
namespace Go.Proofs.YtchekgnacodolaaGreatDoor.X
open Go.RowKit Go.Proofs.YtchekgnacodolaaGreatDoorW.PrintWords Go.Proofs.YtchekgnacodolaaGreatDoorW.PrintLast Go.Proofs.YtchekgnacodolaaGreatDoorW.PrintMore
set_option linter.unusedSimpArgs false
set_option linter.unusedVariables false
set_option maxRecDepth 100000 in
set_option maxHeartbeats 4000000 in
theorem defC (g : Nat) (p : Prg) (v0 v1 v2 : Value) (A : Option Addr) (c : Nat) (l : List TokT) (w : World) (hl : l.length ≤ 1099511627776) (hs : ∀ t ∈ l, t.f1.size ≤ 281474976710656) (hG0 : GL w) (hr : Pc g A c l w) (hp : PS g p v0 v1 v2 w) (hn2 : p.f2.length ≤ 100) :
    Calls Tryz.prog 117 #[.pointer (some ⟨g, 0, none⟩), .slice A l.length c] w fun e w' => e = .returned (.int .i64 (defP p l).2) ∧ Below g w w' ∧ ∃ v0 v1 v2, PS g (defP p l).1 v0 v1 v2 w' := by
  obtain ⟨A2, c2, rfl, hc2⟩ := hp.s2
  obtain ⟨m2, hm2⟩ : ∃ m, p.f2.length = m := ⟨_, rfl⟩
  obtain ⟨n, hn⟩ : ∃ m, l.length = m := ⟨_, rfl⟩
  have hA := below_alloc (Below.refl w.heap.size w) (.cells #[.string ⟨#[100, 101, 102]⟩, .string ⟨#[110, 97, 109, 101]⟩, .string ⟨#[61]⟩] 9)
  have KF := formC l fDef hl A c (some ⟨w.heap.size, 0, none⟩) 3 (w.alloc (.cells #[.string ⟨#[100, 101, 102]⟩, .string ⟨#[110, 97, 109, 101]⟩, .string ⟨#[61]⟩] 9)) (hr.below hA).rd hr.le (C_strs (by exact blk_new w (.cells #[.string ⟨#[100, 101, 102]⟩, .string ⟨#[110, 97, 109, 101]⟩, .string ⟨#[61]⟩] 9)) (by decide)) (by decide)
  have hG := hp.lt
  have hne : w.heap.size ≠ g := by omega
  have hne2 : g ≠ w.heap.size := by omega
  have HP := Lib.hid hp
  have HR := Lib.hid hr
  have HA := Lib.hid hA
  have HG := Lib.hid hG0
  have HF := Lib.hid (show defP p l = if formsL l fDef = true then (if (toksR (l.drop 3)).2 ≠ 0 then (p, (toksR (l.drop 3)).2) else if (toksR (l.drop 3)).1.f0 ≠ 3 then (p, 2) else ({ p with f2 := p.f2 ++ [⟨(tokAt l 1).f1, (toksR (l.drop 3)).1⟩] }, 0)) else (p, 2) from rfl)
  have hfl := forms_len l fDef
  have hdl : (l.drop 3).length = n - 3 := by rw [List.length_drop, hn]
  have hcl := hr.le
  have KT := fun A' c' W hG hr => toksC (l.drop 3) A' c' (by omega) (fun t ht => hs t (List.mem_of_mem_drop ht)) W hG hr
  have KR1 : 3 ≤ l.length → c ≠ 3 → ∀ W, Below w.heap.size w W → Reads W (A.map fun x => ⟨x.block, x.off + 9, none⟩) (c - 3) (l.drop 3) := fun h3 h W hb => by
    have := Kd.C_drop (m := 3) (Kd.C_below hr.rd hb) h3 hr.le
    rw [if_neg h] at this
    exact ⟨this, by have := hr.le; omega⟩
  have KR2 : 3 ≤ l.length → c = 3 → ∀ W, Below w.heap.size w W → Reads W A (c - 3) (l.drop 3) := fun h3 h W hb => by
    have := Kd.C_drop (m := 3) (Kd.C_below hr.rd hb) h3 hr.le
    rw [if_pos h] at this
    exact ⟨this, by have := hr.le; omega⟩
  have KR1 := Lib.hid KR1
  have KR2 := Lib.hid KR2
  rw [hn] at KF hfl hcl
  rw [hdl] at KT
  have HM := Lib.hid (And.intro hm2 (And.intro hn hdl))
  clear hp hr hA hdl hs
  rw [hm2] at hc2 hn2
  rw [hn]
  clear hm2 hn
  generalize formsL l fDef = b at *
  generalize toksR (l.drop 3) = T at *
  obtain ⟨t, r⟩ := T
  have KT := Lib.hid KT
  have KF := Lib.hid KF
  go_enter Tryz.func117, Tryz.ntmps117
  cases b with
  | false =>
    go_wp2_with fail
    refine KF.out.mono ?_
    rintro e w1 ⟨rfl, hb⟩
    have HB := Lib.hid (HA.out.trans (hb.mono HA.out.size))
    clear hb
    go_wp2_with fail
    go_ret
    rw [HF.out, if_neg (by simp)]
    exact ⟨rfl, HB.out.mono (Nat.le_of_lt hG), _, _, _, HP.out.below HB.out⟩
  | true =>
    have hn3 : 3 ≤ n := hfl rfl
    have e1 : decide ((3 : Int) ≤ (n : Int)) = true := by rw [decide_eq_true_eq]; omega
    have e2 : (3 ≤ n) = True := eq_true hn3
    have e3 : (n < 3) = False := eq_false (by omega)
    go_wp2_with fail
    refine KF.out.mono ?_
    rintro e w1 ⟨rfl, hb⟩
    have HB := Lib.hid (HA.out.trans (hb.mono HA.out.size))
    clear hb
    have HPw := Lib.hid (HP.out.below HB.out)
    have hl3 : 3 ≤ l.length := by have := HM.out.2.1; omega
    go_wp2_with fail
    all_goals
      refine (KT.out _ _ w1 (HG.out.below HB.out) (by first | exact KR1.out hl3 (by assumption) w1 HB.out | (have h3 : c = 3 := (by first | assumption | omega); have hk3 := KR2.out hl3 h3 w1 HB.out; rw [h3] at hk3; exact hk3))).mono ?_
      rintro e w2 ⟨v, rfl, ⟨A3, c3, rfl, hlt3, hC3⟩, hb⟩
      have D5 := Own.new w2 #[.int .i64 t.f0, .string t.f1, .int .i64 t.f2, .slice A3 t.f3.length c3] 26
      have hA2 := below_alloc (Below.refl w2.heap.size w2) (.cells #[.int .i64 t.f0, .string t.f1, .int .i64 t.f2, .slice A3 t.f3.length c3] 26)
      have H1s := Lib.hid (show g < w1.heap.size from Nat.lt_of_lt_of_le hG HB.out.size)
      have HF5 := Lib.hid (TmV.F (fun w2 h => hC3 w2 ((Same.of_below hA2).trans h)) (by have := hb.size; simp; omega))
      have HB := Lib.hid (HB.out.trans ((hb.trans (hA2.mono hb.size)).mono HB.out.size))
      have H21 := Lib.hid hb.size
      clear hb hC3 hA2
      by_cases hr0 : r = 0
      · subst hr0
        have q0 := D5.cell 0
        by_cases hk : t.f0 = 3
        · have hk1 : (t.f0 != 3) = false := by simp [hk]
          have HK := Lib.hid hk
          have HP1 := Lib.hid (HP.out.below HB.out)
          obtain ⟨ad, e', hlt, -, b1, -⟩ := (HR.out.below HB.out).at 1 (by omega)
          subst e'
          have g0 : (w2.alloc (.cells #[.int .i64 t.f0, .string t.f1, .int .i64 t.f2, .slice A3 t.f3.length c3] 26)).cell? ⟨g, 2, none⟩ = some (.slice A2 m2 c2) := by rw [← HM.out.1, blk_cell HP1.out.blk]; rfl
          clear hk
          go_wp2_with fail
          refine start_ (n := 16) (S := fun w' => w'.cell? ⟨g, 2, none⟩ = some (.slice A2 m2 c2) ∧ w'.cell? ⟨ad.block, ad.off + 4, none⟩ = some (.string (tokAt l 1).f1) ∧ w'.cell? ⟨w2.heap.size, 0, none⟩ = some (.int .i64 t.f0) ∧ w'.cell? ⟨w2.heap.size, 1, none⟩ = some (.string t.f1) ∧ w'.cell? ⟨w2.heap.size, 2, none⟩ = some (.int .i64 t.f2) ∧ w'.cell? ⟨w2.heap.size, 3, none⟩ = some (.slice A3 t.f3.length c3)) (ds := [15]) #[false, false, false, false, false, false, false, false, false, false, false, false, false, false, false, false] (by kernel_rfl) rfl rfl ⟨g0, b1, D5.cell 0, D5.cell 1, D5.cell 2, D5.cell 3⟩ (fun hHeld => ?_)
          have hD1 := below_drew (Below.refl (w2.alloc (.cells #[.int .i64 t.f0, .string t.f1, .int .i64 t.f2, .slice A3 t.f3.length c3] 26)).heap.size (w2.alloc (.cells #[.int .i64 t.f0, .string t.f1, .int .i64 t.f2, .slice A3 t.f3.length c3] 26)))
          have hP2 := HP1.out.below hD1
          have G2 : (w2.alloc (.cells #[.int .i64 t.f0, .string t.f1, .int .i64 t.f2, .slice A3 t.f3.length c3] 26)).drew.cell? ⟨g, 2, none⟩ = some (.slice A2 m2 c2) := g0
          have hgl := hP2.lt
          have L0 := Kd.N_lt hP2.n0
          have L1 := Kd.N_lt hP2.n1
          have M0 := Kd.N_lt HPw.out.n0
          have M1 := Kd.N_lt HPw.out.n1
          have M2 := Kd.N_lt HPw.out.n2
          rw [HM.out.1] at M2
          have OG : (w2.alloc (.cells #[.int .i64 t.f0, .string t.f1, .int .i64 t.f2, .slice A3 t.f3.length c3] 26)).drew.heap[g]? = _ := hP2.blk
          have T1 : (w2.alloc (.cells #[.int .i64 t.f0, .string t.f1, .int .i64 t.f2, .slice A3 t.f3.length c3] 26)).drew.cell? ⟨ad.block, ad.off + 4, none⟩ = some (.string (tokAt l 1).f1) := b1
          have D6 : Own (w2.alloc (.cells #[.int .i64 t.f0, .string t.f1, .int .i64 t.f2, .slice A3 t.f3.length c3] 26)).drew w2.heap.size #[.int .i64 t.f0, .string t.f1, .int .i64 t.f2, .slice A3 t.f3.length c3] 26 := D5
          have F6 := Kd.F_below HF5.out hD1
          have hDD := hD1.mono (show g + 1 ≤ (w2.alloc (.cells #[.int .i64 t.f0, .string t.f1, .int .i64 t.f2, .slice A3 t.f3.length c3] 26)).heap.size from HP1.out.lt)
          have hDs : (w2.alloc (.cells #[.int .i64 t.f0, .string t.f1, .int .i64 t.f2, .slice A3 t.f3.length c3] 26)).heap.size ≤ (w2.alloc (.cells #[.int .i64 t.f0, .string t.f1, .int .i64 t.f2, .slice A3 t.f3.length c3] 26)).drew.heap.size := hD1.size
          have hw25 : w2.heap.size < (w2.alloc (.cells #[.int .i64 t.f0, .string t.f1, .int .i64 t.f2, .slice A3 t.f3.length c3] 26)).heap.size := by simp
          have hgw : g < w2.heap.size := by have := H21.out; have := H1s.out; omega
          have hn1 : (1 : Int) < (n : Int) := by omega
          generalize (w2.alloc (.cells #[.int .i64 t.f0, .string t.f1, .int .i64 t.f2, .slice A3 t.f3.length c3] 26)).drew = W at *
          refine pure_ (i := 0) (N := some 23) (v := ?_) (a' := ?_) #[true, false, false, false, false, false, false, false, false, false, false, false, false, false, false, false] rfl rfl (by kernel_rfl) (fun _ _ _ h => h) (Or.inl ⟨by rfl, ?_⟩) ?_ ?_
          rotate_left
          · intro w'
            go_simp
            with_reducible rfl
          rotate_left
          · simp only [Act.put, List.setIfInBounds_toArray, List.set_cons_zero, List.set_cons_succ]
            rfl
          refine pure_ (i := 1) (N := some 24) (v := ?_) (a' := ?_) #[true, true, false, false, false, false, false, false, false, false, false, false, false, false, false, false] rfl rfl (by kernel_rfl) (fun _ _ _ h => h) (Or.inl ⟨by rfl, ?_⟩) ?_ ?_
          rotate_left
          · intro w'
            go_simp
            with_reducible rfl
          rotate_left
          · simp only [Act.put, List.setIfInBounds_toArray, List.set_cons_zero, List.set_cons_succ]
            rfl
          refine pure_ (i := 2) (N := some 25) (v := ?_) (a' := ?_) #[true, true, true, false, false, false, false, false, false, false, false, false, false, false, false, false] rfl rfl (by kernel_rfl) (fun _ _ _ h => h) (Or.inl ⟨by rfl, ?_⟩) ?_ ?_
          rotate_left
          · intro w'
            go_simp
            with_reducible rfl
          rotate_left
          · simp only [Act.put, List.setIfInBounds_toArray, List.set_cons_zero, List.set_cons_succ]
            rfl
          refine pure_ (i := 3) (N := some 26) (v := ?_) (a' := ?_) #[true, true, true, true, false, false, false, false, false, false, false, false, false, false, false, false] rfl rfl (by kernel_rfl) (fun _ _ _ h => h) (Or.inl ⟨by rfl, ?_⟩) ?_ ?_
          rotate_left
          · intro w'
            go_simp
            with_reducible rfl
          rotate_left
          · simp only [Act.put, List.setIfInBounds_toArray, List.set_cons_zero, List.set_cons_succ]
            rfl
          refine take_ (i := 4) (N := some 27) (v := ?_) (a' := ?_) #[true, true, true, true, true, false, false, false, false, false, false, false, false, false, false, false] rfl rfl (by kernel_rfl) (fun _ _ _ h => h) (Or.inl ⟨by rfl, ?_⟩) hHeld ?_ ?_
          rotate_left
          · rintro w' ⟨s0, s1, s2, s3, s4, s5⟩
            go_simp
            with_reducible rfl
          rotate_left
          · simp only [Act.put, List.setIfInBounds_toArray, List.set_cons_zero, List.set_cons_succ]
            rfl
          refine pure_ (i := 5) (N := some 28) (v := ?_) (a' := ?_) #[true, true, true, true, true, true, false, false, false, false, false, false, false, false, false, false] rfl rfl (by kernel_rfl) (fun _ _ _ h => h) (Or.inl ⟨by rfl, ?_⟩) ?_ ?_
          rotate_left
          · intro w'
            go_simp
            with_reducible rfl
          rotate_left
          · simp only [Act.put, List.setIfInBounds_toArray, List.set_cons_zero, List.set_cons_succ]
            rfl
          refine pure_ (i := 6) (N := some 29) (v := ?_) (a' := ?_) #[true, true, true, true, true, true, true, false, false, false, false, false, false, false, false, false] rfl rfl (by kernel_rfl) (fun _ _ _ h => h) (Or.inl ⟨by rfl, ?_⟩) ?_ ?_
          rotate_left
          · intro w'
            go_simp
            with_reducible rfl
          rotate_left
          · simp only [Act.put, List.setIfInBounds_toArray, List.set_cons_zero, List.set_cons_succ]
            rfl
          refine pure_ (i := 7) (N := some 30) (v := ?_) (a' := ?_) #[true, true, true, true, true, true, true, true, false, false, false, false, false, false, false, false] rfl rfl (by kernel_rfl) (fun _ _ _ h => h) (Or.inl ⟨by rfl, ?_⟩) ?_ ?_
          rotate_left
          · intro w'
            go_simp
            with_reducible rfl
          rotate_left
          · simp only [Act.put, List.setIfInBounds_toArray, List.set_cons_zero, List.set_cons_succ]
            rfl
          refine take_ (i := 8) (N := some 31) (v := ?_) (a' := ?_) #[true, true, true, true, true, true, true, true, true, false, false, false, false, false, false, false] rfl rfl (by kernel_rfl) (fun _ _ _ h => h) (Or.inl ⟨by rfl, ?_⟩) hHeld ?_ ?_
          rotate_left
          · rintro w' ⟨s0, s1, s2, s3, s4, s5⟩
            go_simp
            with_reducible rfl
          rotate_left
          · simp only [Act.put, List.setIfInBounds_toArray, List.set_cons_zero, List.set_cons_succ]
            rfl
          refine take_ (i := 9) (N := some 32) (v := ?_) (a' := ?_) #[true, true, true, true, true, true, true, true, true, true, false, false, false, false, false, false] rfl rfl (by kernel_rfl) (fun _ _ _ h => h) (Or.inl ⟨by rfl, ?_⟩) hHeld ?_ ?_
          rotate_left
          · rintro w' ⟨s0, s1, s2, s3, s4, s5⟩
            go_simp
            with_reducible rfl
          rotate_left
          · simp only [Act.put, List.setIfInBounds_toArray, List.set_cons_zero, List.set_cons_succ]
            rfl
          refine pure_ (i := 10) (N := some 33) (v := ?_) (a' := ?_) #[true, true, true, true, true, true, true, true, true, true, true, false, false, false, false, false] rfl rfl (by kernel_rfl) (fun _ _ _ h => h) (Or.inl ⟨by rfl, ?_⟩) ?_ ?_
          rotate_left
          · intro w'
            go_simp
            with_reducible rfl
          rotate_left
          · simp only [Act.put, List.setIfInBounds_toArray, List.set_cons_zero, List.set_cons_succ]
            rfl
          refine one_ (i := 11) (N := some 34) #[true, true, true, true, true, true, true, true, true, true, true, true, false, false, false, false] rfl rfl (by kernel_rfl) (by decide) (fun K hK => ?_)
          refine value_ (w1 := ?_) (v := ?_) (by rfl) rfl ?_ ?_
          rotate_left 2
          · go_simp
            constructor
            · rfl
            · rfl
          refine hK.out _ _ ⟨(pw_cell_below (below_alloc (Below.refl _ _) _) G2), (pw_cell_below (below_alloc (Below.refl _ _) _) T1), (pw_cell_below (below_alloc (Below.refl _ _) _) (D6.cell 0)), (pw_cell_below (below_alloc (Below.refl _ _) _) (D6.cell 1)), (pw_cell_below (below_alloc (Below.refl _ _) _) (D6.cell 2)), (pw_cell_below (below_alloc (Below.refl _ _) _) (D6.cell 3))⟩ (fun hHeld => ?_)
          clear hK K
          refine norm_ (a' := ?_) ?_ ?_
          rotate_left
          · show Act.put _ (some 34) _ = _
            simp only [Act.put, List.setIfInBounds_toArray, List.set_cons_zero, List.set_cons_succ]
            rfl
          refine one_ (i := 12) (N := some 35) #[true, true, true, true, true, true, true, true, true, true, true, true, true, false, false, false] rfl rfl (by kernel_rfl) (by decide) (fun K hK => ?_)
          have hN0 := hP2.n2
          rw [HM.out.1] at hN0
          refine Kd.N_append_step k89 (w0 := (w2.alloc (.cells #[.int .i64 t.f0, .string t.f1, .int .i64 t.f2, .slice A3 t.f3.length c3] 26))) (g + 1) (by rfl) (.tmp 27) (.tmp 34) 62 89 (.agg #[.string ⟨#[]⟩, .int .i64 0, .string ⟨#[]⟩, .int .i64 0, .slice none 0 0]) 72 rfl Tryz.underlying62 infoDf rfl (by decide) (by omega) (.slice A2 m2 c2) p.f2 (⟨(tokAt l 1).f1, t⟩ : Df) [.string (tokAt l 1).f1, .int .i64 t.f0, .string t.f1, .int .i64 t.f2, .slice A3 t.f3.length c3] (fun k => g < k ∧ some k ≠ v0.ownBlock ∧ some k ≠ v1.ownBlock) (fun k => w1.heap.size ≤ k) rfl rfl (k89_mkF W _ (⟨(tokAt l 1).f1, t⟩ : Df) hlt3 F6) (fun k hk => ⟨⟨by have := H1s.out; omega, fun he => by have := M0 k he.symm; omega, fun he => by have := M1 k he.symm; omega⟩, fun he => by have := M2 k he.symm; omega⟩) (fun k hk => ⟨by omega, fun he => by have := L0 k he.symm; omega, fun he => by have := L1 k he.symm; omega⟩) hN0 hDD (by omega) (by have := HM.out.1; omega) ?_
          intro v1' w3 hN3 hb3 hg3 hat3
          obtain ⟨A5, c5, rfl⟩ := Kd.N_slice hN3
          obtain ⟨m5, hm5⟩ : ∃ m, (p.f2 ++ [(⟨(tokAt l 1).f1, t⟩ : Df)]).length = m := ⟨_, rfl⟩
          rw [hm5] at hN3 hat3 ⊢
          have away : ∀ k, k ≤ g → some k ≠ (Value.slice A2 m2 c2).ownBlock := fun k hk => Kd.N_away hN0 (fun q hq => by have := hq.1; omega)
          have away5 : some w2.heap.size ≠ (Value.slice A2 m2 c2).ownBlock := fun he => by have := M2 _ he.symm; have := H21.out; omega
          have D7 : Own w3 w2.heap.size _ _ := blk_grown D6 hg3 away5
          refine hK.out _ _ ⟨(cell_grown G2 hg3 (away g (Nat.le_refl _))), (cell_grown T1 hg3 (away ad.block (by omega))), D7.cell 0, D7.cell 1, D7.cell 2, D7.cell 3⟩ (fun hHeld => ?_)
          clear hK K
          refine norm_ (a' := ?_) ?_ ?_
          rotate_left
          · show Act.put _ (some 35) _ = _
            simp only [Act.put, List.setIfInBounds_toArray, List.set_cons_zero, List.set_cons_succ]
            rfl
          refine pure_ (i := 13) (N := some 36) (v := ?_) (a' := ?_) #[true, true, true, true, true, true, true, true, true, true, true, true, true, true, false, false] rfl rfl (by kernel_rfl) (fun _ _ _ h => h) (Or.inl ⟨by rfl, ?_⟩) ?_ ?_
          rotate_left
          · intro w'
            go_simp
            with_reducible rfl
          rotate_left
          · simp only [Act.put, List.setIfInBounds_toArray, List.set_cons_zero, List.set_cons_succ]
            rfl
          refine pure_ (i := 14) (N := some 37) (v := ?_) (a' := ?_) #[true, true, true, true, true, true, true, true, true, true, true, true, true, true, true, false] rfl rfl (by kernel_rfl) (fun _ _ _ h => h) (Or.inl ⟨by rfl, ?_⟩) ?_ ?_
          rotate_left
          · intro w'
            go_simp
            with_reducible rfl
          rotate_left
          · simp only [Act.put, List.setIfInBounds_toArray, List.set_cons_zero, List.set_cons_succ]
            rfl
          have O4 : Own w3 g _ _ := blk_grown OG hg3 (away g (Nat.le_refl _))
          have hfs := O4.fz 2
          have g04 := O4.cell 2
          refine last_ (i := 15) (N := none) #[true, true, true, true, true, true, true, true, true, true, true, true, true, true, true, true] rfl rfl (by kernel_rfl) (by decide) (fun K hK => ?_)
          refine skip_ (w1 := ?_) (by rfl) rfl ?_ ?_
          rotate_left
          · go_simp
            rfl
          refine hK.out _ _ ?_
          clear hK K
          refine done_ (by kernel_rfl) ?_
          have hPF := Lib.hid (PS.app2 (w := W) hP2 hN3 (by rw [← HM.out.1] at hg3; exact hg3) (by rw [← HM.out.1] at hat3; exact hat3))
          have HB3 := Lib.hid (show Below g w (w3.setCell ⟨g, 2, none⟩ (.slice A5 m5 c5)) from ((HB.out.mono (Nat.le_of_lt hG)).trans (hb3.mono (Nat.le_succ g))).setCell (Nat.le_refl g) _)
          clear hN3 hb3 hg3 hat3 away away5 O4 D7 hfs g04 hN0 hP2 T1 G2 OG hHeld L0 L1 M0 M1 M2 hDD hD1 D6 F6
          try clear hHeld
          go_wp2_with fail
          go_ret
          rw [HF.out, if_pos (by first | rfl | trivial), if_neg (fun h => h rfl), if_neg (fun h => h HK.out)]
          exact ⟨rfl, HB3.out, _, _, _, hPF.out⟩
        · have hk1 : (t.f0 != 3) = true := by simpa using hk
          have HK := Lib.hid hk
          clear hk
          go_wp2_with fail
          go_ret
          rw [HF.out, if_pos (by first | rfl | trivial), if_neg (fun h => h rfl), if_pos HK.out]
          exact ⟨rfl, HB.out.mono (Nat.le_of_lt hG), _, _, _, HP.out.below HB.out⟩
      · have hr1 : (r != 0) = true := by simpa using hr0
        have H0 := Lib.hid hr0
        clear hr0
        go_wp2_with fail
        go_ret
        rw [HF.out, if_pos (by first | rfl | trivial), if_pos H0.out]
        exact ⟨rfl, HB.out.mono (Nat.le_of_lt hG), _, _, _, HP.out.below HB.out⟩
end Go.Proofs.YtchekgnacodolaaGreatDoor.X
end
section
namespace Go.Proofs.YtchekgnacodolaaGreatDoor.X
open Go.RowKit Go.Proofs.YtchekgnacodolaaGreatDoorW.PrintWords Go.Proofs.YtchekgnacodolaaGreatDoorW.PrintLast Go.Proofs.YtchekgnacodolaaGreatDoorW.PrintMore
set_option linter.unusedSimpArgs false
set_option linter.unusedVariables false
theorem find_key {es : List MapEntry} {k : ByteArray} {r : Option (Nat × Value)} (h : Instr.findNow .string (.string k) es 0 = some r) (w : World) : (Instr.findKey 9 (.string k) es).run Tryz.prog w = .ok r w := by
  unfold Instr.findKey
  simp [run_underlying Tryz.underlying9, Result.andThen, h, go_sem]
theorem check_key (b : Bool) (k : ByteArray) (w : World) : (Instr.checkKey b 10000 9 (.string k)).run Tryz.prog w = .ok () w := by
  show (Instr.checkKey b (9999 + 1) 9 (.string k)).run Tryz.prog w = .ok () w
  unfold Instr.checkKey
  simp [run_underlying Tryz.underlying9, Result.andThen, go_sem]
theorem map_get {w : World} {r n : Nat} {es : Array MapEntry} (hb : w.heap[r]? = some (.map es n)) {s : ByteArray} {res : Option (Nat × Value)} (h : Instr.findNow .string (.string s) es.toList 0 = some res) :
    (Instr.lookup 178 (.map (some r)) (.string s) false).run Tryz.prog w = .ok (match res with | some (_, v) => v | none => .nilFunc) w := by
  unfold Instr.lookup
  have h1 := find_key h w
  have h2 := check_key es.isEmpty s w
  have h3 : (zeroValue 177).run Tryz.prog w = .ok .nilFunc w := by kernel_rfl
  have h4 : (getObj r).run Tryz.prog w = .ok (.map es n) w := by simp [getObj, Sem.run, hb]
  rcases res with _ | ⟨i, v⟩
  · simp [run_underlying Tryz.underlying178, Result.andThen, go_sem, h1, h2, h3, h4]
  · simp [run_underlying Tryz.underlying178, Result.andThen, go_sem, h1, h2, h3, h4]
theorem map_put (w : World) (es : Array MapEntry) (n : Nat) (k : ByteArray) (v : Value) (h : Instr.findNow .string (.string k) es.toList 0 = some none) :
    (Instr.mapUpdate 178 (.map (some w.heap.size)) (.string k) v).run Tryz.prog (w.alloc (.map es n)) = .ok () (w.alloc (.map (es.push ⟨.string k, v, n⟩) (n + 1))) := by
  have hb : (w.alloc (.map es n)).heap[w.heap.size]? = some (.map es n) := blk_new w (.map es n)
  unfold Instr.mapUpdate
  have h1 := find_key h (w.alloc (.map es n))
  have h2 := check_key false k (w.alloc (.map es n))
  have h4 : (getObj w.heap.size).run Tryz.prog (w.alloc (.map es n)) = .ok (.map es n) (w.alloc (.map es n)) := by simp only [getObj, Sem.run]; rw [hb]
  have h5 : ∀ o, (setObj w.heap.size o).run Tryz.prog (w.alloc (.map es n)) = .ok () (w.alloc o) := fun o => by
    simp only [setObj, Sem.run]
    rw [hb]
    show Result.ok () ({ (w.alloc (.map es n)) with heap := (w.heap.push (.map es n)).setIfInBounds w.heap.size o }) = Result.ok () ({ w with heap := w.heap.push o })
    have : (w.heap.push (Obj.map es n)).setIfInBounds w.heap.size o = w.heap.push o := by
      apply Array.ext_getElem?
      intro i
      by_cases hi : w.heap.size = i
      · subst hi; simp
      · rw [Array.getElem?_setIfInBounds_ne hi, Array.getElem?_push, Array.getElem?_push, if_neg (fun h => hi h.symm), if_neg (fun h => hi h.symm)]
    rw [this]; rfl
  simp [run_underlying Tryz.underlying178, Result.andThen, go_sem, h1, h2, h4, h5]
def mapDo : Array MapEntry := #[⟨.string kInput, .func (.func 115) #[] #[], 0⟩, ⟨.string kCell, .func (.func 116) #[] #[], 1⟩, ⟨.string kDef, .func (.func 117) #[] #[], 2⟩]
def doF (s : ByteArray) : Value := if s.data.toList = kInput.data.toList then .func (.func 115) #[] #[] else if s.data.toList = kCell.data.toList then .func (.func 116) #[] #[] else if s.data.toList = kDef.data.toList then .func (.func 117) #[] #[] else .nilFunc
theorem beq_ba (a b : ByteArray) : (a == b) = decide (a.data.toList = b.data.toList) := by
  show (a.data == b.data) = _
  rw [Bool.eq_iff_iff, beq_iff_eq, decide_eq_true_eq]
  exact ⟨fun h => by rw [h], fun h => congrArg ByteArray.data (ba_eq h)⟩
theorem map_do {w : World} {r : Nat} (hb : w.heap[r]? = some (.map mapDo 3)) (s : ByteArray) :
    (Instr.lookup 178 (.map (some r)) (.string s) false).run Tryz.prog w = .ok (doF s) w := by
  by_cases h1 : s.data.toList = kInput.data.toList
  · have := map_get hb (s := s) (res := some (0, .func (.func 115) #[] #[])) (by simp [mapDo, Instr.findNow, Instr.sameNow, beq_ba, h1])
    rw [this]; unfold doF; rw [if_pos h1]
  · by_cases h2 : s.data.toList = kCell.data.toList
    · have := map_get hb (s := s) (res := some (1, .func (.func 116) #[] #[])) (by simp only [mapDo, Instr.findNow, Instr.sameNow, beq_ba, decide_eq_false h1, decide_eq_true h2])
      rw [this]; unfold doF; rw [if_neg h1, if_pos h2]
    · by_cases h3 : s.data.toList = kDef.data.toList
      · have := map_get hb (s := s) (res := some (2, .func (.func 117) #[] #[])) (by simp only [mapDo, Instr.findNow, Instr.sameNow, beq_ba, decide_eq_false h1, decide_eq_false h2, decide_eq_true h3])
        rw [this]; unfold doF; rw [if_neg h1, if_neg h2, if_pos h3]
      · have := map_get hb (s := s) (res := none) (by simp only [mapDo, Instr.findNow, Instr.sameNow, beq_ba, decide_eq_false h1, decide_eq_false h2, decide_eq_false h3])
        rw [this]; unfold doF; rw [if_neg h1, if_neg h2, if_neg h3]
theorem map_makes (w : World) :
    (Instr.mapUpdate 178 (.map (some w.heap.size)) (.string ⟨#[105, 110, 112, 117, 116]⟩) (.func (.func 115) #[] #[])).run Tryz.prog (w.alloc (.map #[] 0)) = .ok () (w.alloc (.map #[⟨.string kInput, .func (.func 115) #[] #[], 0⟩] 1)) ∧
    (Instr.mapUpdate 178 (.map (some w.heap.size)) (.string ⟨#[99, 101, 108, 108]⟩) (.func (.func 116) #[] #[])).run Tryz.prog (w.alloc (.map #[⟨.string kInput, .func (.func 115) #[] #[], 0⟩] 1)) = .ok () (w.alloc (.map #[⟨.string kInput, .func (.func 115) #[] #[], 0⟩, ⟨.string kCell, .func (.func 116) #[] #[], 1⟩] 2)) ∧
    (Instr.mapUpdate 178 (.map (some w.heap.size)) (.string ⟨#[100, 101, 102]⟩) (.func (.func 117) #[] #[])).run Tryz.prog (w.alloc (.map #[⟨.string kInput, .func (.func 115) #[] #[], 0⟩, ⟨.string kCell, .func (.func 116) #[] #[], 1⟩] 2)) = .ok () (w.alloc (.map mapDo 3)) :=
  ⟨map_put w _ 0 _ _ rfl, map_put w _ 1 _ _ rfl, map_put w _ 2 _ _ rfl⟩
end Go.Proofs.YtchekgnacodolaaGreatDoor.X
end
section
namespace Go.Proofs.YtchekgnacodolaaGreatDoor.X
open Go.RowKit Go.Proofs.YtchekgnacodolaaGreatDoorW.PrintWords Go.Proofs.YtchekgnacodolaaGreatDoorW.PrintLast Go.Proofs.YtchekgnacodolaaGreatDoorW.PrintMore
set_option linter.unusedSimpArgs false
set_option linter.unusedVariables false
attribute [local go_sem] max2_int min2_int max_two min_two max_three min_three max_four min_four
def Does (F : FuncId) (g : Nat) (p : Prg) (l : List TokT) (A : Option Addr) (n c : Nat) (w : World) : Prop :=
  Calls Tryz.prog F #[.pointer (some ⟨g, 0, none⟩), .slice A n c] w fun e w' => e = .returned (.int .i64 (doP p l).2) ∧ Below g w w' ∧ ∃ v0 v1 v2, PS g (doP p l).1 v0 v1 v2 w'
theorem do_cases (g : Nat) (p : Prg) (v0 v1 v2 : Value) (A : Option Addr) (c : Nat) (l : List TokT) (w : World) (hl : l.length ≤ 1099511627776) (hs : ∀ t ∈ l, t.f1.size ≤ 281474976710656) (hG : GL w) (hr : Pc g A c l w) (hp : PS g p v0 v1 v2 w) (hn0 : p.f0.length ≤ 100) (hn1 : p.f1.length ≤ 100) (hn2 : p.f2.length ≤ 100) :
    (doF (tokAt l 0).f1 = .nilFunc ∧ doP p l = (p, 2)) ∨ (doF (tokAt l 0).f1 = .func (.func 115) #[] #[] ∧ Does 115 g p l A l.length c w) ∨ (doF (tokAt l 0).f1 = .func (.func 116) #[] #[] ∧ Does 116 g p l A l.length c w) ∨ (doF (tokAt l 0).f1 = .func (.func 117) #[] #[] ∧ Does 117 g p l A l.length c w) := by
  unfold Does doF doP
  by_cases h1 : (tokAt l 0).f1.data.toList = kInput.data.toList
  · refine .inr (.inl ⟨if_pos h1, ?_⟩)
    rw [if_pos h1]
    exact inputC g p v0 v1 v2 A c l w hl hr hp hn0 hn1 hn2
  · by_cases h2 : (tokAt l 0).f1.data.toList = kCell.data.toList
    · refine .inr (.inr (.inl ⟨by rw [if_neg h1, if_pos h2], ?_⟩))
      rw [if_neg h1, if_pos h2]
      exact cellC g p v0 v1 v2 A c l w hl hr hp hn0 hn1 hn2
    · by_cases h3 : (tokAt l 0).f1.data.toList = kDef.data.toList
      · refine .inr (.inr (.inr ⟨by rw [if_neg h1, if_neg h2, if_pos h3], ?_⟩))
        rw [if_neg h1, if_neg h2, if_pos h3]
        exact defC g p v0 v1 v2 A c l w hl hs hG hr hp hn2
      · exact .inl ⟨by rw [if_neg h1, if_neg h2, if_neg h3], by rw [if_neg h1, if_neg h2, if_neg h3]⟩
theorem do_len (p : Prg) (l : List TokT) : (doP p l).1.f0.length ≤ p.f0.length + 1 ∧ (doP p l).1.f1.length ≤ p.f1.length + 1 ∧ (doP p l).1.f2.length ≤ p.f2.length + 1 := by
  unfold doP inputP cellP defP
  (repeat' split) <;> simp
theorem fun_nil : (∀ w, (binOp .eql 177 .nilFunc .nilFunc).run Tryz.prog w = .ok (.bool true) w) ∧ (∀ f w, (binOp .eql 177 (.func (.func f) #[] #[]) .nilFunc).run Tryz.prog w = .ok (.bool false) w) :=
  ⟨fun w => by kernel_rfl, fun f w => by kernel_rfl⟩
set_option maxRecDepth 100000 in
set_option maxHeartbeats 4000000 in
theorem prgReadC (g : Nat) (p : Prg) (v0 v1 v2 : Value) (A : Option Addr) (c : Nat) (l : List TokT) (w : World) (hl : l.length ≤ 1099511627776) (hs : ∀ t ∈ l, t.f1.size ≤ 281474976710656) (hG : GL w) (hr : Pc g A c l w) (hp : PS g p v0 v1 v2 w) (hn0 : p.f0.length ≤ 100) (hn1 : p.f1.length ≤ 100) (hn2 : p.f2.length ≤ 100) :
    Calls Tryz.prog 71 #[.pointer (some ⟨g, 0, none⟩), .slice A l.length c] w fun e w' => e = .returned (.int .i64 (readP p l).2) ∧ Below g w w' ∧ ∃ v0 v1 v2, PS g (readP p l).1 v0 v1 v2 w' := by
  have hmm := @run_makeMap Tryz.prog
  obtain ⟨i1, i2, i3⟩ := map_makes w
  have hA := below_alloc (Below.refl w.heap.size w) (.map mapDo 3)
  have hlk := fun s => map_do (blk_new w (.map mapDo 3)) s
  have hn := fun_nil
  have hg := hp.lt
  have HP := Lib.hid hp
  have HA := Lib.hid hA
  cases l with
  | nil =>
    have HR := Lib.hid (show readP p [] = (p, 2) by unfold readP; rw [if_pos rfl])
    clear hp hr hs hG hA
    go_enter Tryz.func71, Tryz.ntmps71
    go_wp2_with fail
    go_ret
    rw [HR.out]
    exact ⟨rfl, HA.out.mono (Nat.le_of_lt hg), _, _, _, HP.out.below HA.out⟩
  | cons t r =>
    obtain ⟨ad, rfl, hlt, -, b1, -⟩ := (hr.below hA).at 0 (by simp)
    have b1 : (w.alloc (.map mapDo 3)).cell? ⟨ad.block, ad.off + 1, none⟩ = some (.string (tokAt (t :: r) 0).f1) := b1
    have HD := do_cases g p v0 v1 v2 (some ad) c (t :: r) (w.alloc (.map mapDo 3)) hl hs (hG.below hA) (hr.below hA) (hp.below hA) hn0 hn1 hn2
    have hlen := do_len p (t :: r)
    have hR : readP p (t :: r) = if (doP p (t :: r)).2 ≠ 0 then doP p (t :: r) else if 32 < max (max (doP p (t :: r)).1.f0.length (doP p (t :: r)).1.f1.length) (doP p (t :: r)).1.f2.length then ((doP p (t :: r)).1, 1) else doP p (t :: r) := by
      unfold readP; rw [if_neg (by simp)]
    have hz : (((t :: r).length : Int) == 0) = false := by simp; omega
    have hz0 : (0 : Int) < ((t :: r).length : Int) := by simp
    have h1 := hlk (tokAt (t :: r) 0).f1
    generalize (tokAt (t :: r) 0).f1 = s at *
    unfold Does at HD
    generalize doP p (t :: r) = D at *
    generalize readP p (t :: r) = R at *
    generalize (t :: r).length = n at *
    obtain ⟨q, x⟩ := D
    have HR := Lib.hid hR
    clear hp hr hs hG hA hR hlk
    rcases HD with ⟨hf, hd⟩ | ⟨hf, hd⟩ | ⟨hf, hd⟩ | ⟨hf, hd⟩
    · rw [hf] at h1
      injection hd with hd1 hd2
      subst hd1 hd2
      clear hf
      go_enter Tryz.func71, Tryz.ntmps71
      go_wp2_with fail
      go_ret
      rw [HR.out, if_pos (by simp)]
      exact ⟨rfl, HA.out.mono (Nat.le_of_lt hg), _, _, _, HP.out.below HA.out⟩
    all_goals
      rw [hf] at h1
      have KD := Lib.hid hd
      clear hf hd
      have HL := Lib.hid hlen
      simp only at hlen
      go_enter Tryz.func71, Tryz.ntmps71
      go_wp2_with fail
      refine KD.out.mono ?_
      rintro e w1 ⟨rfl, hb, u0, u1, u2, hps⟩
      have HB := Lib.hid ((HA.out.mono (Nat.le_of_lt hg)).trans hb)
      have HPS := Lib.hid hps
      obtain ⟨A0, c0, rfl, hc0⟩ := hps.s0
      obtain ⟨A1, c1, rfl, hc1⟩ := hps.s1
      obtain ⟨A2, c2, rfl, hc2⟩ := hps.s2
      have g0 : w1.cell? ⟨g, 0, none⟩ = some (.slice A0 q.f0.length c0) := by rw [blk_cell hps.blk]; rfl
      have g1 : w1.cell? ⟨g, 1, none⟩ = some (.slice A1 q.f1.length c1) := by rw [blk_cell hps.blk]; rfl
      have g2 : w1.cell? ⟨g, 2, none⟩ = some (.slice A2 q.f2.length c2) := by rw [blk_cell hps.blk]; rfl
      clear hb hps
      by_cases hx : x = 0
      · subst hx
        obtain ⟨m0, hm0⟩ : ∃ m, q.f0.length = m := ⟨_, rfl⟩
        obtain ⟨m1, hm1⟩ : ∃ m, q.f1.length = m := ⟨_, rfl⟩
        obtain ⟨m2, hm2⟩ : ∃ m, q.f2.length = m := ⟨_, rfl⟩
        have HM := Lib.hid (And.intro hm0 (And.intro hm1 hm2))
        rw [hm0] at g0
        rw [hm1] at g1
        rw [hm2] at g2
        clear hm0 hm1 hm2 hlen
        have hd1 := below_drew (Below.refl w1.heap.size w1)
        by_cases hm : 32 < max (max m0 m1) m2
        · have HX := Lib.hid hm
          go_wp2_with fail
          go_region_held3 (fun w' => w'.cell? ⟨g, 0, none⟩ = some (.slice A0 m0 c0) ∧ w'.cell? ⟨g, 1, none⟩ = some (.slice A1 m1 c1) ∧ w'.cell? ⟨g, 2, none⟩ = some (.slice A2 m2 c2)) (go_keep) (fail)
          go_wp2_with fail
          all_goals first
            | (exfalso; omega)
            | (go_ret
               rw [HR.out, if_neg (fun h => h rfl), if_pos (by rw [HM.out.1, HM.out.2.1, HM.out.2.2]; exact HX.out)]
               exact ⟨rfl, HB.out.trans (hd1.mono (Nat.le_of_lt HPS.out.lt)), _, _, _, HPS.out.below hd1⟩)
        · have HX := Lib.hid hm
          go_wp2_with fail
          go_region_held3 (fun w' => w'.cell? ⟨g, 0, none⟩ = some (.slice A0 m0 c0) ∧ w'.cell? ⟨g, 1, none⟩ = some (.slice A1 m1 c1) ∧ w'.cell? ⟨g, 2, none⟩ = some (.slice A2 m2 c2)) (go_keep) (fail)
          go_wp2_with fail
          all_goals first
            | (exfalso; omega)
            | (go_ret
               rw [HR.out, if_neg (fun h => h rfl), if_neg (by rw [HM.out.1, HM.out.2.1, HM.out.2.2]; exact HX.out)]
               exact ⟨rfl, HB.out.trans (hd1.mono (Nat.le_of_lt HPS.out.lt)), _, _, _, HPS.out.below hd1⟩)
      · have hx1 : (x != 0) = true := by simpa using hx
        have HX := Lib.hid hx
        clear hx
        go_wp2_with fail
        go_ret
        rw [HR.out, if_pos HX.out]
        exact ⟨rfl, HB.out, _, _, _, HPS.out⟩
end Go.Proofs.YtchekgnacodolaaGreatDoor.X
end
section
namespace Go.Proofs.YtchekgnacodolaaGreatDoor.X
open Go.RowKit Go.Proofs.YtchekgnacodolaaGreatDoorW.PrintWords Go.Proofs.YtchekgnacodolaaGreatDoorW.PrintLast Go.Proofs.YtchekgnacodolaaGreatDoorW.PrintMore
set_option linter.unusedSimpArgs false
set_option linter.unusedVariables false
abbrev zeroP : Array Value := #[.slice none 0 0, .slice none 0 0, .slice none 0 0, .int .i64 0, .string ⟨#[]⟩, .int .i64 0, .slice none 0 0]
abbrev seven (w : World) (R : Nat) (a b c d e f g : Value) : World := ((((((w.setCell ⟨R, 0, none⟩ a).setCell ⟨R, 1, none⟩ b).setCell ⟨R, 2, none⟩ c).setCell ⟨R, 3, none⟩ d).setCell ⟨R, 4, none⟩ e).setCell ⟨R, 5, none⟩ f).setCell ⟨R, 6, none⟩ g
section
variable {w w0 : World} {R B : Nat} {T : TypeId} {x0 x1 x2 x3 x4 x5 x6 a b c d e f g : Value}
theorem seven_own (h : Own w R #[x0, x1, x2, x3, x4, x5, x6] T) : Own (seven w R a b c d e f g) R #[a, b, c, d, e, f, g] T := by
  have h1 := blk_set h 0 a
  have h2 := blk_set h1 1 b
  have h3 := blk_set h2 2 c
  have h4 := blk_set h3 3 d
  have h5 := blk_set h4 4 e
  have h6 := blk_set h5 5 f
  have h7 := blk_set h6 6 g
  simpa [Own] using h7
theorem seven_below (h : Below B w0 w) (hB : B ≤ R) : Below B w0 (seven w R a b c d e f g) :=
  ((((((h.setCell hB _).setCell hB _).setCell hB _).setCell hB _).setCell hB _).setCell hB _).setCell hB _
theorem seven_N {α : Type} {k : Kd α} {n : Nat} {base : Nat} {ok : Nat → Prop} {v : Value} {xs : List α} (h : Kd.N k n w base ok v xs) (hok : ∀ q, ok q → q ≠ R) : Kd.N k n (seven w R a b c d e f g) base ok v xs :=
  Kd.N_far (Kd.N_far (Kd.N_far (Kd.N_far (Kd.N_far (Kd.N_far (Kd.N_far h (p := ⟨R, 0, none⟩) hok a) (p := ⟨R, 1, none⟩) hok b) (p := ⟨R, 2, none⟩) hok c) (p := ⟨R, 3, none⟩) hok d) (p := ⟨R, 4, none⟩) hok e) (p := ⟨R, 5, none⟩) hok f) (p := ⟨R, 6, none⟩) hok g
end
theorem results_prg {fn : Func} (h : fn.results = #[.cell 2 64, .tmp 3]) {tmps : Array Value} {w : World} {N : Nat} {a b c d e f g : Value} {r : Value} (hp : tmps.getD 2 undef = .pointer (some ⟨N, 0, none⟩)) (hq : tmps.getD 3 undef = r) (h2 : Own w N #[a, b, c, d, e, f, g] 64) :
    (results fn tmps).run Tryz.prog w = .ok (.tuple #[.agg #[a, b, c, d, e, f, g], r]) w := by
  have hp' : tmps[2]?.getD undef = .pointer (some ⟨N, 0, none⟩) := by simpa using hp
  have hq' : tmps[3]?.getD undef = r := by simpa using hq
  have d0 : w.cell? ⟨N, 0, none⟩ = some a := h2.cell 0
  have d1 : w.cell? ⟨N, 1, none⟩ = some b := h2.cell 1
  have d2 : w.cell? ⟨N, 2, none⟩ = some c := h2.cell 2
  have d3 : w.cell? ⟨N, 3, none⟩ = some d := h2.cell 3
  have d4 : w.cell? ⟨N, 4, none⟩ = some e := h2.cell 4
  have d5 : w.cell? ⟨N, 5, none⟩ = some f := h2.cell 5
  have d6 : w.cell? ⟨N, 6, none⟩ = some g := h2.cell 6
  simp [results, h, hp', hq', go_sem, d0, d1, d2, d3, d4, d5, d6]
theorem ret_prg {fn : Func} {N : Nat} {tmps : Array Value} {w : World} {a b c d e f g r : Value} {R : Ending → World → Prop} (h : fn.results = #[.cell 2 64, .tmp 3]) (hp : tmps.getD 2 undef = .pointer (some ⟨N, 0, none⟩)) (hq : tmps.getD 3 undef = r) (h2 : Own w N #[a, b, c, d, e, f, g] 64) (hR : R (.returned (.tuple #[.agg #[a, b, c, d, e, f, g], r])) w) :
    bodyPost Tryz.prog fn R Exit.ret { tmps := tmps, defers := [] } w := bodyPost_ret (results_prg h hp hq h2) rfl hR
def ToldP (w : World) (r : Prg × Int) (e : Ending) (w' : World) : Prop := ∃ A0 c0 A1 c1 A2 c2 A3 c3, e = .returned (.tuple #[.agg (pgA r.1 A0 c0 A1 c1 A2 c2 A3 c3), .int .i64 r.2]) ∧ PgC w' r.1 A0 c0 A1 c1 A2 c2 A3 c3 ∧ Below w.heap.size w w'
theorem C_nilK {α : Type} (k : Kd α) (w : World) : Kd.C k w none 0 [] := ⟨rfl, by decide, fun h => absurd h (by decide)⟩
theorem toldP_zero {w w1 : World} (n : Int) (hb : Below w.heap.size w w1) : ToldP w (zPrg, n) (.returned (.tuple #[.agg zeroP, .int .i64 n])) w1 :=
  ⟨none, 0, none, 0, none, 0, none, 0, rfl, ⟨C_nilK _ _, Nat.le_refl _, C_nilK _ _, Nat.le_refl _, C_nilK _ _, Nat.le_refl _, ⟨none, 0, rfl, Nat.le_refl _, C_nilK _ _⟩⟩, hb⟩
theorem heapTok : Kd.Heap k106 := Kd.heap_iso _ (Kd.heap_pair (Kd.heap_int _) (Kd.heap_pair Kd.heap_string (Kd.heap_int _)))
theorem piecesC (l : List TokT) (hl : l.length ≤ 549755813888) (A : Option Addr) (c : Nat) (w : World) (hr : Reads w A c l) :
    Calls Tryz.prog 70 #[.slice A l.length c] w fun e w' => ∃ A c, e = .returned (.slice A (piecesL l).length c) ∧ (piecesL l).length ≤ c ∧ Kd.C (Kd.slice 106 k106) w' A (piecesL l).length (piecesL l) ∧ Below w.heap.size w w' := by
  refine (prog_pieces.calls (2 * l.length + 2) (fun k => k < w.heap.size) A c l (piecesL l) w (Kd.V_mk hr.2 (Kd.C_F heapTok hr.1)) (pieces_eq l hl)).mono ?_
  rintro e w' ⟨v, rfl, hN, hb⟩
  obtain ⟨A, c, rfl⟩ := Kd.N_slice hN
  exact ⟨A, c, rfl, (Kd.N_reads' hN).2.1, (Kd.N_reads' hN).2.2, hb⟩
theorem piece_at {w : World} {A : Option Addr} {ls : List (List TokT)} (h : Kd.C (Kd.slice 106 k106) w A ls.length ls) (i : Nat) (hi : i < ls.length) :
    ∃ ad A0 c0, A = some ad ∧ w.cell? (ad.add i) = some (.slice A0 ls[i].length c0) ∧ Pc w.heap.size A0 c0 ls[i] w := by
  obtain ⟨ad, A0, c0, e, h0, hl, hC⟩ := at_L5 h (i : Int) (by omega) (by omega)
  have ht : rd_L5 ls (i : Int) = ls[i] := by unfold rd_L5; simp [List.getD_eq_getElem?_getD, List.getElem?_eq_getElem hi]
  rw [ht, Int.toNat_natCast] at h0
  rw [ht] at hl hC
  refine ⟨ad, A0, c0, e, h0, hC, hl, fun h1 a ha => ?_⟩
  obtain ⟨ad', e', k0, _, _⟩ := at_T106 hC 0 (by omega) (by omega)
  rw [ha] at e'
  injection e' with e'
  subst e'
  have := cell_lt k0
  rw [add_block] at this
  exact this
theorem Pc.to {g : Nat} {A : Option Addr} {c : Nat} {l : List TokT} {w w1 : World} (h : Pc w.heap.size A c l w) (hg : g = w.heap.size) (hb : Below g w w1) : Pc g A c l w1 := by
  subst hg
  exact ⟨Kd.C_below h.rd hb, h.le, h.ah⟩
theorem read_len {p : Prg} {l : List TokT} (h : p.f0.length ≤ 32 ∧ p.f1.length ≤ 32 ∧ p.f2.length ≤ 32) (h0 : (readP p l).2 = 0) : (readP p l).1.f0.length ≤ 32 ∧ (readP p l).1.f1.length ≤ 32 ∧ (readP p l).1.f2.length ≤ 32 := by
  unfold readP at h0 ⊢
  split
  · exact h
  · next hl =>
    rw [if_neg hl] at h0
    split
    · next hd => rw [if_pos hd] at h0; exact absurd h0 hd
    · next hd =>
      rw [if_neg hd] at h0
      split
      · next hm => rw [if_pos hm] at h0; cases h0
      · next hm => omega
theorem piece_mem : ∀ (l : List TokT) (q : List TokT), q ∈ piecesL l → q.length ≤ l.length ∧ ∀ t ∈ q, t ∈ l
  | [], q, h => by
    simp only [piecesL, List.mem_singleton] at h
    subst h; simp
  | t :: l, q, h => by
    rw [piecesL] at h
    have hne := pieces_ne l
    split at h
    · rcases List.mem_cons.1 h with rfl | h
      · simp
      · have := piece_mem l q h
        exact ⟨by simp only [List.length_cons]; omega, fun x hx => List.mem_cons_of_mem _ (this.2 x hx)⟩
    · cases hp : piecesL l with
      | nil => exact absurd hp hne
      | cons a r =>
        rw [hp] at h
        rcases List.mem_cons.1 h with rfl | h
        · have := piece_mem l a (by rw [hp]; simp)
          refine ⟨by simp only [List.headD_cons, List.length_cons]; omega, fun x hx => ?_⟩
          rcases List.mem_cons.1 hx with rfl | hx
          · simp
          · exact List.mem_cons_of_mem _ (this.2 x hx)
        · have := piece_mem l q (by rw [hp]; exact List.mem_cons_of_mem _ h)
          exact ⟨by simp only [List.length_cons]; omega, fun x hx => List.mem_cons_of_mem _ (this.2 x hx)⟩
end Go.Proofs.YtchekgnacodolaaGreatDoor.X
end
