/- Arrays plain or not: joined. No condition. -/
import Derived.Test.YtlnikhijfamakaaPureArrayJoinsZ
import Derived.WalkLawsBesides
import Derived.LoopN
namespace Go.Proofs.Ytlnikhijfamakaa.Pure
open Go.Proofs.Ytlnikhijfamakaa.ArrayPlain
open Go Go.RowKit Go.Maps Go.Proofs.Ytlnikhijfamakaa.QArrayJoins Go.Proofs.YtlnikhijfamakaaW.PrintWords Go.Proofs.YtlnikhijfamakaaW.PrintLast Go.Proofs.YtlnikhijfamakaaW.PrintMore
set_option linter.unusedVariables false
set_option linter.unusedSimpArgs false
section
variable {mm : List (List Int)} {k m c : Int} {l : Bool} {Cn rows : Nat}
theorem lastG_neg : ∀ (mm : List (List Int)) (go : Int) (i : Nat), (lastG go (i : Int) mm < 0 ↔ go < 0 ∧ goneP (i : Int) mm = [])
  | [], go, i => by simp [lastG, goneP]
  | b :: mm, go, i => by
    have hup : (i : Int) + 1 = ((i + 1 : Nat) : Int) := rfl
    unfold lastG goneP
    by_cases h0 : b.length = 0
    · rw [if_pos h0, if_pos h0, hup, lastG_neg mm (i : Int) (i + 1)]
      constructor
      · rintro ⟨h1, _⟩; omega
      · rintro ⟨_, h1⟩; simp at h1
    · rw [if_neg h0, if_neg h0, hup]
      exact lastG_neg mm go (i + 1)
theorem goneP_pos : ∀ (mm : List (List Int)) (i : Nat) (x : Int), x ∈ goneP (i : Int) mm → 0 ≤ x
  | [], i, x, h => by simp [goneP] at h
  | b :: mm, i, x, h => by
    have hup : (i : Int) + 1 = ((i + 1 : Nat) : Int) := rfl
    unfold goneP at h
    rw [hup] at h
    split at h
    · rcases List.mem_cons.1 h with rfl | h
      · exact Int.natCast_nonneg _
      · exact goneP_pos mm (i + 1) x h
    · exact goneP_pos mm (i + 1) x h
/-- whether bytes stand where the road leads: both say the same -/
theorem WE.plain (h : WE mm k m c l Cn rows) : decide (goneOf k mm < 0) = (if lastG (-1) 0 mm < 0 then true else (k == 1)) := by
  have hg := h.good
  unfold Good at hg
  have hl := h.lost
  have hn := lastG_neg mm (-1) 0
  rw [show ((0 : Nat) : Int) = 0 from rfl] at hn
  by_cases hp : goneP 0 mm = []
  · rw [if_pos (hn.2 ⟨by decide, hp⟩)]
    unfold goneOf
    rw [hp, if_neg (fun e => by simp at e)]
    rfl
  · rw [if_neg (fun e => hp (hn.1 e).2)]
    have hlen : 0 < (goneP 0 mm).length := List.length_pos_iff.2 hp
    unfold lostMax at hl
    by_cases hk1 : k = 1
    · subst hk1
      unfold goneOf
      rw [if_neg (fun e => absurd e.1 (by decide))]
      rfl
    · by_cases hk0 : k = 0
      · rw [if_pos hk0] at hl
        omega
      · have hk2 : k = 2 := by omega
        rw [if_neg hk0, if_neg hk1] at hl
        have h1 : (goneP 0 mm).length = 1 := by omega
        have hb : (k == 1) = false := by simpa using hk1
        rw [hb]
        unfold goneOf
        rw [if_pos ⟨hk2, h1⟩]
        match hgl : goneP 0 mm with
        | [] => exact absurd hgl hp
        | x :: r =>
          have hx : 0 ≤ x := by
            have hmem : x ∈ goneP ((0 : Nat) : Int) mm := by
              rw [show ((0 : Nat) : Int) = 0 from rfl, hgl]
              exact List.mem_cons_self
            exact goneP_pos mm 0 x hmem
          show decide (x < 0) = false
          exact decide_eq_false (by omega)
end
section
variable {mm : List (List Int)} {k m c : Int} {l : Bool} {Cn rows : Nat}
theorem WE.roadF_mir (h : WE mm k m c l Cn rows) (hk : k = 1) (F : Nat) (hF : firstP 0 mm = (F : Int)) (hFl : F < mm.length) (hFs : (rd_L3 mm (F : Int)).length = sizeP mm) : ∀ (f o n : Nat), n ≤ f → o + n ≤ rows * 1 * Cn →
    roadF (allP mm (sizeP mm) k (firstP 0 mm) Cn (chunksFrom k m l rows 0)) Cn f o n = (List.range n).map fun (j : Nat) => (F : Int) * (sizeP mm : Int) + (o : Int) + (j : Int)
  | 0, o, n, hf, ho => by
    obtain rfl : n = 0 := by omega
    rfl
  | f + 1, o, n, hf, ho => by
    have hW : widthOf k m = ((1 : Nat) : Int) := by unfold widthOf; rw [if_pos hk]; rfl
    by_cases hn : n = 0
    · subst hn
      rw [roadF, if_pos rfl]
      rfl
    · have hc := h.cpos
      have hmod := Nat.mod_lt o (show 0 < Cn by omega)
      obtain ⟨q, hq⟩ : ∃ q, q = min n (Cn - o % Cn) := ⟨_, rfl⟩
      have hq1 : 1 ≤ q ∧ q ≤ n ∧ o % Cn + q ≤ Cn := by omega
      have hme : memAt k m l (firstP 0 mm) Cn 1 o = F := by unfold memAt memW; rw [if_pos hk, hF]; rfl
      have ih := WE.roadF_mir h hk F hF hFl hFs f (o + q) (n - q) (by omega) (by omega)
      rw [roadF, if_neg hn, ← hq, h.pieces 1 hW o q (by omega) (by omega) (by omega), ih, hme, locN_one, plcL_one mm (sizeP mm) F o (by rw [hFs]; exact h.pos), if_pos hFl, List.flatMap_cons, List.flatMap_nil, List.append_nil]
      obtain ⟨r, rfl⟩ : ∃ r, n = q + r := ⟨n - q, by omega⟩
      rw [Nat.add_sub_cancel_left, List.range_add, List.map_append, List.map_map]
      congr 1
      apply List.map_congr_left
      intro j _
      simp only [Function.comp]
      rw [Int.natCast_add, Int.natCast_add]
      omega
/-- the run's road: what Roads lays (Mirror) -/
theorem WE.roads_mir (h : WE mm k m c l Cn rows) (hk : k = 1) (f o n : Nat) (hf : n ≤ f) (ho : o + n ≤ rows * 1 * Cn) :
    laid (spansR mm.length (sizeP mm : Int) (goneOf k mm) (runF k m c l (firstP 0 mm) f (o : Int) (n : Int))) = roadF (allP mm (sizeP mm) k (firstP 0 mm) Cn (chunksFrom k m l rows 0)) Cn f o n := by
  obtain ⟨F, hF, hFl, hFs⟩ := h.first
  rw [h.roadF_mir hk F hF hFl hFs f o n hf ho]
  by_cases hn : n = 0
  · subst hn
    rw [show ((0 : Nat) : Int) = 0 from rfl, runF_zero]
    rfl
  · have hS := h.hS
    have hgo : goneOf k mm = -1 := by unfold goneOf; rw [if_neg (fun e => by omega)]
    rw [h.run_mir hk f o n (by omega) hf]
    unfold spansR
    rw [List.flatMap_cons, List.flatMap_nil, List.append_nil]
    simp only
    rw [hF, atP_laid mm (sizeP mm) F o n (goneOf k mm) h.pos h.hS2 hFl (by rw [hS]; rw [Nat.mul_one] at ho; exact ho) (by omega) (fun e => by rw [hgo] at e; omega) (fun _ => hFs), plcL_one mm (sizeP mm) F o (by rw [hFs]; exact h.pos), if_pos hFl, List.flatMap_cons, List.flatMap_nil, List.append_nil]
end
section
variable {mm : List (List Int)} {k m c : Int} {l : Bool} {Cn rows : Nat}
theorem WE.whole (h : WE mm k m c l Cn rows) (hsh : ∀ i, i < mm.length → (rd_L3 mm (i : Int)).length ≤ 140737488355328) : Ev (fun n => wrackref1_Whole.f n mm k m c l) (allV mm k (firstP 0 mm) Cn (chunksFrom k m l rows 0), allP mm (sizeP mm) k (firstP 0 mm) Cn (chunksFrom k m l rows 0), decide (goneOf k mm < 0)) := by
  obtain ⟨W, hW, hW1, hW8⟩ := h.width
  have hg := h.good
  have hm := h.hm
  have hS := h.hS
  have hS2 := h.hS2
  unfold Good at hg
  have hs : sizeP mm ≤ 65536 := by
    have h1 : sizeP mm * 1 ≤ sizeP mm * mm.length := Nat.mul_le_mul_left _ (by omega)
    omega
  rw [h.plain]
  refine whole_ev mm k m c l h.good (by omega) hsh Cn rows h.hC hS hs (fun x hx => h.chOk x hx) ?_
  rw [h.chunks W hW]
  have h2 : rows * W * Cn = sizeP mm * W := by rw [hS, Nat.mul_right_comm]
  have h3 : sizeP mm * W ≤ 65536 * 8 := Nat.mul_le_mul hs hW8
  omega
theorem WE.lens (h : WE mm k m c l Cn rows) (W : Nat) (hW : widthOf k m = (W : Int)) : (allV mm k (firstP 0 mm) Cn (chunksFrom k m l rows 0)).length = rows * W * Cn ∧ (allP mm (sizeP mm) k (firstP 0 mm) Cn (chunksFrom k m l rows 0)).length = rows * W * Cn := by
  rw [allV_len, allP_len, h.chunks W hW]
  exact ⟨rfl, rfl⟩
end
end Go.Proofs.Ytlnikhijfamakaa.Pure
