/- Arrays what a join rests on: joined. No condition. -/
import Derived.Test.YtlnikhijfamakaaPureArrayJoinsX
import Derived.WalkLawsBesides
import Derived.LoopN
namespace Go.Proofs.Ytlnikhijfamakaa.Pure
open Go.Proofs.Ytlnikhijfamakaa.ArrayPlain
open Go Go.RowKit Go.Maps Go.Proofs.Ytlnikhijfamakaa.QArrayJoins Go.Proofs.YtlnikhijfamakaaW.PrintWords Go.Proofs.YtlnikhijfamakaaW.PrintLast Go.Proofs.YtlnikhijfamakaaW.PrintMore
set_option linter.unusedVariables false
set_option linter.unusedSimpArgs false
/-- what a join that stands rests on -/
structure WE (mm : List (List Int)) (k m c : Int) (l : Bool) (Cn rows : Nat) : Prop where
  good : Good k m c l
  hm : (mm.length : Int) = m
  hC : (Cn : Int) = 64 * c
  hS : sizeP mm = rows * Cn
  hS2 : sizeP mm * mm.length ≤ 65536
  ev : evenP (sizeP mm) mm
  lost : ((goneP 0 mm).length : Int) ≤ lostMax k m
theorem we_of (mm : List (List Int)) (k m c : Int) (l : Bool) (h : joinR k m c l mm = 0) : ∃ Cn rows, WE mm k m c l Cn rows := by
  unfold joinR at h
  by_cases hE : arrErrOf k m c l = 0
  · rw [if_neg (by rw [hE]; decide)] at h
    have hg := err_good hE
    have hg2 := hg
    unfold Good at hg2
    by_cases h1 : (mm.length : Int) ≠ m ∨ ¬ evenP (sizeP mm) mm ∨ (sizeP mm : Int) % (64 * c) ≠ 0
    · rw [if_pos h1] at h; exact absurd h (by decide)
    · rw [if_neg h1] at h
      have a1 : (mm.length : Int) = m := Classical.byContradiction fun e => h1 (Or.inl e)
      have a2 : evenP (sizeP mm) mm := Classical.byContradiction fun e => h1 (Or.inr (Or.inl e))
      have a3 : (sizeP mm : Int) % (64 * c) = 0 := Classical.byContradiction fun e => h1 (Or.inr (Or.inr e))
      by_cases h2 : 65536 / m < (sizeP mm : Int)
      · rw [if_pos h2] at h; exact absurd h (by decide)
      · rw [if_neg h2] at h
        by_cases h3 : lostMax k m < ((goneP 0 mm).length : Int)
        · rw [if_pos h3] at h; exact absurd h (by decide)
        · have h4 : (sizeP mm : Int) * m ≤ 65536 := by
            have h5 : ¬ (65536 < (sizeP mm : Int) * m) := fun e => h2 ((Int.ediv_lt_iff_lt_mul (by omega)).2 e)
            omega
          refine ⟨(64 * c).toNat, sizeP mm / (64 * c).toNat, hg, a1, by omega, ?_, ?_, a2, by omega⟩
          · have h6 : sizeP mm % (64 * c).toNat = 0 := by
              have h7 : ((sizeP mm % (64 * c).toNat : Nat) : Int) = 0 := by rw [Int.natCast_emod, Int.toNat_of_nonneg (by omega)]; exact a3
              exact Int.ofNat_inj.1 h7
            exact (Nat.div_mul_cancel (Nat.dvd_of_mod_eq_zero h6)).symm
          · have h8 : ((sizeP mm * mm.length : Nat) : Int) ≤ 65536 := by rw [Int.natCast_mul, a1]; exact h4
            exact Int.ofNat_le.1 h8
  · rw [if_pos hE] at h
    exact absurd h hE
theorem goneP_mem : ∀ (mm : List (List Int)) (i j : Nat), ((j : Int) ∈ goneP (i : Int) mm ↔ i ≤ j ∧ j < i + mm.length ∧ (rd_L3 mm ((j - i : Nat) : Int)).length = 0)
  | [], i, j => by
    simp [goneP]
    omega
  | b :: mm, i, j => by
    have ih := goneP_mem mm (i + 1) j
    rw [Int.natCast_add] at ih
    have hb : rd_L3 (b :: mm) ((0 : Nat) : Int) = b := rfl
    have hs : ∀ n : Nat, rd_L3 (b :: mm) ((n + 1 : Nat) : Int) = rd_L3 mm (n : Int) := fun n => by
      unfold rd_L3; rw [Int.toNat_natCast, Int.toNat_natCast, List.getD_cons_succ]
    unfold goneP
    by_cases h0 : b.length = 0
    · rw [if_pos h0, List.mem_cons]
      constructor
      · rintro (e | e)
        · obtain rfl : j = i := Int.ofNat_inj.1 e
          refine ⟨Nat.le_refl _, by rw [List.length_cons]; omega, by rw [Nat.sub_self, hb]; exact h0⟩
        · obtain ⟨h1, h2, h3⟩ := ih.1 e
          refine ⟨by omega, by rw [List.length_cons]; omega, ?_⟩
          rw [show j - i = (j - (i + 1)) + 1 by omega, hs]
          exact h3
      · rintro ⟨h1, h2, h3⟩
        by_cases e : j = i
        · left; rw [e]
        · right
          refine ih.2 ⟨by omega, by rw [List.length_cons] at h2; omega, ?_⟩
          rw [show j - i = (j - (i + 1)) + 1 by omega, hs] at h3
          exact h3
    · rw [if_neg h0]
      constructor
      · intro e
        obtain ⟨h1, h2, h3⟩ := ih.1 e
        refine ⟨by omega, by rw [List.length_cons]; omega, ?_⟩
        rw [show j - i = (j - (i + 1)) + 1 by omega, hs]
        exact h3
      · rintro ⟨h1, h2, h3⟩
        have e : j ≠ i := by
          rintro rfl
          rw [Nat.sub_self, hb] at h3
          exact h0 h3
        refine ih.2 ⟨by omega, by rw [List.length_cons] at h2; omega, ?_⟩
        rw [show j - i = (j - (i + 1)) + 1 by omega, hs] at h3
        exact h3
theorem two_mem {α : Type} (l : List α) (a b : α) (ha : a ∈ l) (hb : b ∈ l) (h : l.length ≤ 1) : a = b := by
  match l, h with
  | [], _ => simp at ha
  | [x], _ => rw [List.mem_singleton] at ha hb; rw [ha, hb]
theorem firstP_in : ∀ (mm : List (List Int)) (i : Nat), (∃ j, j < mm.length ∧ 0 < (rd_L3 mm (j : Int)).length) → ∃ f : Nat, firstP (i : Int) mm = ((i + f : Nat) : Int) ∧ f < mm.length ∧ 0 < (rd_L3 mm (f : Int)).length
  | [], i, ⟨j, hj, _⟩ => absurd hj (by simp)
  | b :: mm, i, ⟨j, hj, hl⟩ => by
    unfold firstP
    have hs : ∀ n : Nat, rd_L3 (b :: mm) ((n + 1 : Nat) : Int) = rd_L3 mm (n : Int) := fun n => by
      unfold rd_L3; rw [Int.toNat_natCast, Int.toNat_natCast, List.getD_cons_succ]
    by_cases h0 : b.length > 0
    · rw [if_pos h0]
      exact ⟨0, rfl, by simp, h0⟩
    · rw [if_neg h0]
      have hj0 : j ≠ 0 := by
        rintro rfl
        exact h0 hl
      obtain ⟨f, h1, h2, h3⟩ := firstP_in mm (i + 1) ⟨j - 1, by rw [List.length_cons] at hj; omega, by rw [show j = (j - 1) + 1 by omega, hs] at hl; exact hl⟩
      refine ⟨f + 1, ?_, by rw [List.length_cons]; omega, by rw [hs]; exact h3⟩
      rw [show (i : Int) + 1 = ((i + 1 : Nat) : Int) from rfl, h1]
      congr 1
      omega
section
variable {mm : List (List Int)} {k m c : Int} {l : Bool} {Cn rows : Nat}
theorem WE.len (h : WE mm k m c l Cn rows) (i : Nat) (hi : i < mm.length) : (rd_L3 mm (i : Int)).length = 0 ∨ (rd_L3 mm (i : Int)).length = sizeP mm := by
  refine h.ev _ ?_
  unfold rd_L3
  rw [Int.toNat_natCast, List.getD_eq_getElem?_getD, List.getElem?_eq_getElem hi]
  exact List.getElem_mem hi
theorem WE.miss0 (h : WE mm k m c l Cn rows) (hk : k = 0) (i : Nat) (hi : i < mm.length) : (rd_L3 mm (i : Int)).length ≠ 0 := by
  intro e
  have h1 := h.lost
  unfold lostMax at h1
  rw [if_pos hk] at h1
  have h2 := (goneP_mem mm 0 i).2 ⟨by omega, by omega, by rw [Nat.sub_zero]; exact e⟩
  have h3 : goneP ((0 : Nat) : Int) mm = [] := List.eq_nil_of_length_eq_zero (by have : ((goneP 0 mm).length : Int) = ((goneP ((0 : Nat) : Int) mm).length : Int) := rfl; omega)
  rw [h3] at h2
  simp at h2
theorem WE.miss2 (h : WE mm k m c l Cn rows) (hk : k = 2) (i j : Nat) (hi : i < mm.length) (hj : j < mm.length) (ei : (rd_L3 mm (i : Int)).length = 0) (ej : (rd_L3 mm (j : Int)).length = 0) : i = j := by
  have h1 := h.lost
  unfold lostMax at h1
  rw [if_neg (by omega), if_neg (by omega)] at h1
  have h2 := (goneP_mem mm 0 i).2 ⟨by omega, by omega, by rw [Nat.sub_zero]; exact ei⟩
  have h3 := (goneP_mem mm 0 j).2 ⟨by omega, by omega, by rw [Nat.sub_zero]; exact ej⟩
  exact Int.ofNat_inj.1 (two_mem _ _ _ h2 h3 (by have : ((goneP 0 mm).length : Int) = ((goneP ((0 : Nat) : Int) mm).length : Int) := rfl; omega))
end
end Go.Proofs.Ytlnikhijfamakaa.Pure
