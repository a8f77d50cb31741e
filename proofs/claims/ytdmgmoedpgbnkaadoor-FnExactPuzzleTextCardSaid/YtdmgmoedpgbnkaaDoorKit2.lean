/- A slice of structs of three whole numbers that comes in, opened. No condition beyond those that the law names. -/
import Derived.Test.YtdmgmoedpgbnkaaDoorKit
import Derived.Deep.Slices
namespace Go.Proofs.YtdmgmoedpgbnkaaDoor.Kit
open Go.ChangeShapes Go.WideShapes Go.ChangeAt Go.RowKit
section
variable {H : Type} {enc : TypeId × Value → H} {P : Program} {w : World} {base : Nat} {spare : Nat → Bool} {held : Bool}
/-- A slice of structs of three whole numbers, opened whole. -/
theorem three_get {α : Type} (mk : Int → Int → Int → α) {t e : TypeId} {f0 f1 f2 : Field} {fuel : Nat} {cs : List Value} {x : DataW H × List MemPlace} (ht : P.underlying t = some (.slice e)) (he : P.underlying e = some (.struct #[f0, f1, f2])) (hC : P.cellsOf e = 3)
    (o0 : f0.offset = 0) (o1 : f1.offset = 1) (o2 : f2.offset = 2) (i0 : P.underlying f0.type = some (.int .i64)) (i1 : P.underlying f1.type = some (.int .i64)) (i2 : P.underlying f2.type = some (.int .i64))
    (h : DataW.trod enc P w base spare held fuel t cs = some x) :
    ∃ (A : Option Addr) (c : Nat) (L : List α), cs[0]? = some (.slice A L.length c) ∧ L.length ≤ c ∧ c ≤ maxLen ∧ (A = none → L = []) ∧
      (∀ ad, A = some ad → ∀ j p, L[j]? = some p → ∃ a b d : Int, p = mk a b d ∧ ((Lit.int .i64 a).wf = true ∧ (Lit.int .i64 b).wf = true ∧ (Lit.int .i64 d).wf = true) ∧ w.cell? (ad.add (j * 3)) = some (.int .i64 a) ∧ w.cell? (ad.add (j * 3 + 1)) = some (.int .i64 b) ∧ w.cell? (ad.add (j * 3 + 2)) = some (.int .i64 d)) := by
  rcases Go.Deep.open_slice ht h with ⟨rfl, _⟩ | ⟨a, len, cap, m, n, D, Pl, rfl, hb, hl, hm, hmm, hx, hi⟩
  · exact ⟨none, 0, [], rfl, Nat.le_refl _, by decide, fun _ => rfl, fun ad e => by cases e⟩
  · have hlm : len ≤ m := by rw [hmm]; split <;> omega
    have H : ∀ j, ∃ p : Int × Int × Int, j < len → ((Lit.int .i64 p.1).wf = true ∧ (Lit.int .i64 p.2.1).wf = true ∧ (Lit.int .i64 p.2.2).wf = true) ∧ w.cell? (a.add (j * 3)) = some (.int .i64 p.1) ∧ w.cell? (a.add (j * 3 + 1)) = some (.int .i64 p.2.1) ∧ w.cell? (a.add (j * 3 + 2)) = some (.int .i64 p.2.2) := by
      intro j
      by_cases hj : j < len
      · obtain ⟨cs', hc, ht'⟩ := hi j (by omega)
        rw [hC] at hc
        obtain ⟨_, _, hcell⟩ := World.cells?_some hc
        obtain ⟨_, _, g0⟩ := field_any he ht' 0 rfl
        obtain ⟨z0, e0, w0⟩ := int_get i0 g0
        obtain ⟨_, _, g1⟩ := field_any he ht' 1 rfl
        obtain ⟨z1, e1, w1⟩ := int_get i1 g1
        obtain ⟨_, _, g2⟩ := field_any he ht' 2 rfl
        obtain ⟨z2, e2, w2⟩ := int_get i2 g2
        replace e0 : cs'[f0.offset + 0]? = _ := sub_get e0
        replace e1 : cs'[f1.offset + 0]? = _ := sub_get e1
        replace e2 : cs'[f2.offset + 0]? = _ := sub_get e2
        rw [o0] at e0; rw [o1] at e1; rw [o2] at e2
        have q0 := hcell 0 (by omega)
        have q1 := hcell 1 (by omega)
        have q2 := hcell 2 (by omega)
        rw [Go.Deep.add_add] at q0 q1 q2
        exact ⟨(z0, z1, z2), fun _ => ⟨⟨w0, w1, w2⟩, q0.trans e0, q1.trans e1, q2.trans e2⟩⟩
      · exact ⟨(0, 0, 0), fun h => absurd h hj⟩
    have F : ∃ f : Nat → Int × Int × Int, ∀ j, j < len → ((Lit.int .i64 (f j).1).wf = true ∧ (Lit.int .i64 (f j).2.1).wf = true ∧ (Lit.int .i64 (f j).2.2).wf = true) ∧ w.cell? (a.add (j * 3)) = some (.int .i64 (f j).1) ∧ w.cell? (a.add (j * 3 + 1)) = some (.int .i64 (f j).2.1) ∧ w.cell? (a.add (j * 3 + 2)) = some (.int .i64 (f j).2.2) :=
      ⟨fun j => Classical.choose (H j), fun j => Classical.choose_spec (H j)⟩
    obtain ⟨f, hf⟩ := F
    refine ⟨some a, cap, (List.range len).map fun j => mk (f j).1 (f j).2.1 (f j).2.2, by simp, by simpa using hl, hm, fun h => absurd h (by simp), ?_⟩
    intro ad ead j p hp
    obtain rfl := Option.some.inj ead
    rw [List.getElem?_map] at hp
    by_cases hj : j < len
    · rw [List.getElem?_range hj] at hp
      obtain rfl := Option.some.inj hp
      obtain ⟨h1, h2, h3, h4⟩ := hf j hj
      exact ⟨_, _, _, rfl, h1, h2, h3, h4⟩
    · rw [List.getElem?_eq_none (by simpa using hj)] at hp
      cases hp
end
end Go.Proofs.YtdmgmoedpgbnkaaDoor.Kit
