/- Arrays its chunks: joined. No condition. -/
import Derived.Test.YtlnikhijfamakaaPureArrayJoinsQ
import Derived.WalkLawsBesides
import Derived.LoopN
namespace Go.Proofs.Ytlnikhijfamakaa.Pure
open Go.Proofs.Ytlnikhijfamakaa.ArrayPlain
open Go Go.RowKit Go.Maps Go.Proofs.Ytlnikhijfamakaa.QArrayJoins Go.Proofs.YtlnikhijfamakaaW.PrintWords Go.Proofs.YtlnikhijfamakaaW.PrintLast Go.Proofs.YtlnikhijfamakaaW.PrintMore
set_option linter.unusedVariables false
set_option linter.unusedSimpArgs false
theorem chunks_lenA {k m c : Int} {l : Bool} (h : Good k m c l) : ∀ (e : Nat) (r : Int), ((chunksFrom k m l e r).length : Int) = e * widthOf k m
  | 0, r => by simp [chunksFrom]
  | e + 1, r => by
    have hw := width_pos h
    have h1 := (row_at h r 0 (by omega)).1
    unfold chunksFrom
    rw [List.length_append, List.length_map, Int.natCast_add, h1, chunks_lenA h e (r + 1), Int.natCast_add, Int.add_mul]
    omega
theorem goneP_all : ∀ (mm : List (List Int)) (i : Int), (∀ b ∈ mm, b.length = 0) → (goneP i mm).length = mm.length
  | [], _, _ => rfl
  | b :: mm, i, h => by
    unfold goneP
    rw [if_pos (h b (by simp)), List.length_cons, List.length_cons, goneP_all mm (i + 1) (fun x hx => h x (List.mem_cons_of_mem _ hx))]
section
variable {mm : List (List Int)} {k m c : Int} {l : Bool} {Cn rows : Nat}
theorem WE.there (h : WE mm k m c l Cn rows) : ∃ j, j < mm.length ∧ 0 < (rd_L3 mm (j : Int)).length := by
  have hg := h.good
  unfold Good at hg
  have hm := h.hm
  by_cases hk0 : k = 0
  · exact ⟨0, by omega, by have := h.miss0 hk0 0 (by omega); omega⟩
  · by_cases hk2 : k = 2
    · by_cases e0 : (rd_L3 mm ((0 : Nat) : Int)).length = 0
      · by_cases e1 : (rd_L3 mm ((1 : Nat) : Int)).length = 0
        · have := h.miss2 hk2 0 1 (by omega) (by omega) e0 e1
          omega
        · exact ⟨1, by omega, by omega⟩
      · exact ⟨0, by omega, by omega⟩
    · refine Classical.byContradiction fun hn => ?_
      have hall : ∀ b ∈ mm, b.length = 0 := by
        intro b hb
        obtain ⟨j, hj, rfl⟩ := List.getElem_of_mem hb
        refine Classical.byContradiction fun e => hn ⟨j, hj, ?_⟩
        unfold rd_L3
        rw [Int.toNat_natCast, List.getD_eq_getElem?_getD, List.getElem?_eq_getElem hj]
        exact Nat.pos_of_ne_zero e
      have h1 := h.lost
      unfold lostMax at h1
      rw [if_neg hk0, if_pos (by omega), goneP_all mm 0 hall] at h1
      omega
theorem WE.pos (h : WE mm k m c l Cn rows) : 0 < sizeP mm := by
  obtain ⟨j, hj, hl⟩ := h.there
  rcases h.len j hj with e | e <;> omega
theorem WE.first (h : WE mm k m c l Cn rows) : ∃ f : Nat, firstP 0 mm = (f : Int) ∧ f < mm.length ∧ (rd_L3 mm (f : Int)).length = sizeP mm := by
  obtain ⟨f, h1, h2, h3⟩ := firstP_in mm 0 h.there
  refine ⟨f, by rw [Nat.zero_add] at h1; exact h1, h2, ?_⟩
  rcases h.len f h2 with e | e
  · omega
  · exact e
theorem step_in {k m c : Int} {l : Bool} (hg : Good k m c l) (r : Int) (j : Int) (h0 : 0 ≤ j) (h1 : j < widthOf k m) : 0 ≤ stepOf (parOf k m l r) j ∧ stepOf (parOf k m l r) j < m := by
  have hp := par_lt hg r
  unfold Good at hg
  unfold widthOf at h1
  by_cases hk2 : k = 2
  · have hp := hp hk2
    rw [if_neg (by omega), if_pos hk2] at h1
    generalize parOf k m l r = p at hp ⊢
    unfold stepOf
    split <;> omega
  · have e : parOf k m l r = -1 := by unfold parOf; rw [if_neg hk2]
    rw [e]
    unfold stepOf
    rw [if_neg (by omega)]
    split at h1 <;> omega
theorem WE.width (h : WE mm k m c l Cn rows) : ∃ W : Nat, widthOf k m = (W : Int) ∧ 1 ≤ W ∧ W ≤ 8 := by
  have := width_pos h.good
  exact ⟨(widthOf k m).toNat, by omega, by omega, by omega⟩
/-- each chunk, by its number -/
theorem WE.chunk (h : WE mm k m c l Cn rows) (W : Nat) (hW : widthOf k m = (W : Int)) (q : Nat) (hq : q < rows * W) : q < (chunksFrom k m l rows 0).length ∧ rd_T93 (chunksFrom k m l rows 0) (q : Int) = ⟨stepOf (parOf k m l ((q / W : Nat) : Int)) ((q % W : Nat) : Int), ((q / W : Nat) : Int)⟩ := by
  have h1 := chunks_at h.good rows 0 q (by rw [hW, ← Int.natCast_mul]; exact Int.ofNat_lt.2 hq)
  rw [show ((0 : Nat) : Int) = 0 from rfl] at h1
  refine ⟨h1.1, ?_⟩
  have h2 := h1.2
  unfold rd_T93
  rw [Int.toNat_natCast, h2, hW]
  simp
theorem WE.chunks (h : WE mm k m c l Cn rows) (W : Nat) (hW : widthOf k m = (W : Int)) : (chunksFrom k m l rows 0).length = rows * W := by
  have h1 := chunks_lenA h.good rows 0
  rw [hW, ← Int.natCast_mul] at h1
  exact Int.ofNat_inj.1 h1
/-- a member of a chunk's bytes is there, or the others are -/
theorem WE.adds (h : WE mm k m c l Cn rows) (mN : Nat) (hmN : mN < mm.length) (hk1 : k = 1 → (rd_L3 mm (mN : Int)).length = sizeP mm) (i : Nat) (hi : i < mm.length) (ha : addB mm mN i) : (rd_L3 mm (i : Int)).length = sizeP mm := by
  have hg := h.good
  unfold Good at hg
  have hp := h.pos
  unfold addB at ha
  by_cases e : i = mN
  · rw [if_pos e] at ha
    rcases h.len i hi with e2 | e2
    · omega
    · exact e2
  · rw [if_neg e] at ha
    rcases h.len i hi with e2 | e2
    · by_cases hk2 : k = 2
      · exact absurd (h.miss2 hk2 i mN hi hmN e2 ha) e
      · by_cases hk0 : k = 0
        · exact absurd e2 (h.miss0 hk0 i hi)
        · have := hk1 (by omega)
          omega
    · exact e2
theorem WE.chOk (h : WE mm k m c l Cn rows) (x : S93) (hx : x ∈ chunksFrom k m l rows 0) : chOk mm (sizeP mm) k (firstP 0 mm) Cn x := by
  obtain ⟨W, hW, hW1, hW8⟩ := h.width
  have hm := h.hm
  obtain ⟨q, hq, rfl⟩ := List.getElem_of_mem hx
  have hql := hq
  rw [h.chunks W hW] at hql
  obtain ⟨_, hc⟩ := h.chunk W hW q hql
  have hx2 : (chunksFrom k m l rows 0)[q] = rd_T93 (chunksFrom k m l rows 0) (q : Int) := by
    unfold rd_T93
    rw [Int.toNat_natCast, List.getD_eq_getElem?_getD, List.getElem?_eq_getElem hq]
    rfl
  rw [hx2, hc]
  have hrow : q / W < rows := Nat.div_lt_of_lt_mul (by rw [Nat.mul_comm]; exact hql)
  have hst := step_in h.good ((q / W : Nat) : Int) ((q % W : Nat) : Int) (by omega) (by rw [hW]; exact Int.ofNat_lt.2 (Nat.mod_lt _ (by omega)))
  obtain ⟨f, hf, hfl, hfs⟩ := h.first
  have hle : q / W * Cn + Cn ≤ sizeP mm := by
    have h2 : (q / W + 1) * Cn ≤ rows * Cn := Nat.mul_le_mul_right _ hrow
    rw [Nat.add_mul, Nat.one_mul, ← h.hS] at h2
    exact h2
  refine ⟨Int.natCast_nonneg _, by simp only [Int.toNat_natCast]; exact hle, ?_, ?_, ?_⟩
  · simp only
    split
    · rw [hf]; omega
    · exact hst.1
  · simp only
    split
    · rw [hf]; omega
    · omega
  · intro i hi ha
    refine h.adds _ ?_ ?_ i hi ha
    · unfold memW
      simp only
      split
      · rw [hf, Int.toNat_natCast]; exact hfl
      · omega
    · intro hk1
      unfold memW
      rw [if_pos hk1, hf, Int.toNat_natCast]
      exact hfs
end
end Go.Proofs.Ytlnikhijfamakaa.Pure
