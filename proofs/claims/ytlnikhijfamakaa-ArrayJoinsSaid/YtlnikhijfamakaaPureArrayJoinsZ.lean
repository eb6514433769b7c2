/- Arrays Mirror, and a run's road: joined. No condition. -/
import Derived.Test.YtlnikhijfamakaaPureArrayJoinsY
import Derived.WalkLawsBesides
import Derived.LoopN
namespace Go.Proofs.Ytlnikhijfamakaa.Pure
open Go.Proofs.Ytlnikhijfamakaa.ArrayPlain
open Go Go.RowKit Go.Maps Go.Proofs.Ytlnikhijfamakaa.QArrayJoins Go.Proofs.YtlnikhijfamakaaW.PrintWords Go.Proofs.YtlnikhijfamakaaW.PrintLast Go.Proofs.YtlnikhijfamakaaW.PrintMore
set_option linter.unusedVariables false
set_option linter.unusedSimpArgs false
section
variable {mm : List (List Int)} {k m c : Int} {l : Bool} {Cn rows : Nat}
theorem locN_one (Cn o : Nat) : locN Cn 1 o = o := by
  unfold locN
  rw [Nat.div_one]
  have := Nat.div_add_mod o Cn
  rw [Nat.mul_comm] at this
  exact this
theorem runF_zero (k m c : Int) (l : Bool) (F : Int) (f : Nat) (o : Int) : runF k m c l F f o 0 = [] := by
  cases f with
  | zero => rfl
  | succ f => exact if_pos (by omega)
theorem WE.run_mir (h : WE mm k m c l Cn rows) (hk : k = 1) (f o n : Nat) (hn : 0 < n) (hf : n ≤ f) : runF k m c l (firstP 0 mm) f (o : Int) (n : Int) = [⟨firstP 0 mm, (o : Int), (n : Int)⟩] := by
  obtain ⟨f, rfl⟩ : ∃ f', f = f' + 1 := ⟨f - 1, by omega⟩
  have hW : widthOf k m = ((1 : Nat) : Int) := by unfold widthOf; rw [if_pos hk]; rfl
  have ha := (h.locs 1 hW o).2
  rw [locN_one] at ha
  have hrq : runQ k m c l (firstP 0 mm) (o : Int) (n : Int) = ⟨firstP 0 mm, (o : Int), (n : Int)⟩ := by
    unfold runQ
    rw [if_pos hk, ha]
  rw [runF, if_neg (by omega), hrq]
  simp only
  rw [Int.sub_self, runF_zero]
/-- the run's bytes: those of the whole (Mirror) -/
theorem WE.runs_mir (h : WE mm k m c l Cn rows) (hk : k = 1) (f o n : Nat) (hf : n ≤ f) (ho : o + n ≤ rows * 1 * Cn) :
    (runF k m c l (firstP 0 mm) f (o : Int) (n : Int)).flatMap (partR mm (sizeP mm : Int) (goneOf k mm)) = ((allV mm k (firstP 0 mm) Cn (chunksFrom k m l rows 0)).drop o).take n := by
  have hW : widthOf k m = ((1 : Nat) : Int) := by unfold widthOf; rw [if_pos hk]; rfl
  by_cases hn : n = 0
  · subst hn
    rw [show ((0 : Nat) : Int) = 0 from rfl, runF_zero]
    simp
  · obtain ⟨F, hF, hFl, hFs⟩ := h.first
    have hS := h.hS
    have hgo : goneOf k mm = -1 := by unfold goneOf; rw [if_neg (fun e => by omega)]
    rw [h.run_mir hk f o n (by omega) hf, List.flatMap_cons, List.flatMap_nil, List.append_nil, hF, partR_val mm (sizeP mm) F o n (goneOf k mm) hFl (by rw [hS]; rw [Nat.mul_one] at ho; exact ho) (by omega) (fun e => by rw [hgo] at e; omega) (fun _ => hFs)]
    apply List.ext_getElem?
    intro j
    by_cases hj : j < n
    · have hat := h.allV_at 1 hW (o + j) (by omega)
      rw [locN_one] at hat
      have hme : memAt k m l (firstP 0 mm) Cn 1 (o + j) = F := by unfold memAt memW; rw [if_pos hk, hF]; rfl
      rw [hme, hF] at hat
      rw [List.getElem?_take_of_lt hj, List.getElem?_drop, hat, List.getElem?_map, List.getElem?_range hj]
      rfl
    · rw [List.getElem?_eq_none (by simp; omega), List.getElem?_eq_none (by rw [List.length_take]; omega)]
/-- a run's road -/
theorem atL_laid (mm : List (List Int)) (s mN aN q : Nat) (hs : 0 < s) (hsM : s * mm.length ≤ 65536) (ha : aN + q ≤ s) (hq : 0 < q) (h0 : (rd_L3 mm (mN : Int)).length = 0) : ∀ i, i ≤ mm.length →
    laid (atL (s : Int) (mN : Int) (aN : Int) (q : Int) i) = (plcL mm s mN aN i).flatMap fun p => (List.range q).map fun (j : Nat) => p + (j : Int)
  | 0, _ => rfl
  | i + 1, hi => by
    have ih := atL_laid mm s mN aN q hs hsM ha hq h0 i (by omega)
    unfold atL plcL
    by_cases e : i = mN
    · rw [if_pos (by rw [e]), if_neg (by unfold addB; rw [if_pos e, e, h0]; omega), ih]
    · rw [if_neg (fun h => e (Int.ofNat_inj.1 h)), if_pos (by unfold addB; rw [if_neg e]; exact h0), laid_app, ih, List.flatMap_append]
      congr 1
      have hle : (i + 1) * s ≤ mm.length * s := Nat.mul_le_mul_right _ hi
      rw [Nat.add_mul, Nat.one_mul, Nat.mul_comm mm.length] at hle
      have hok : okS ⟨(i : Int) * (s : Int) + (aN : Int), (q : Int)⟩ := by
        have e2 : (i : Int) * (s : Int) = ((i * s : Nat) : Int) := (Int.natCast_mul i s).symm
        unfold okS
        simp only
        rw [e2]
        omega
      rw [laid_one _ hok, List.flatMap_cons, List.flatMap_nil, List.append_nil]
      unfold bytesS
      simp only [Int.toNat_natCast]
end
section
variable {mm : List (List Int)} {k m c : Int} {l : Bool} {Cn rows : Nat}
theorem plcL_one (mm : List (List Int)) (s mN aN : Nat) (h : 0 < (rd_L3 mm (mN : Int)).length) : ∀ i, plcL mm s mN aN i = if mN < i then [(mN : Int) * (s : Int) + (aN : Int)] else []
  | 0 => by rw [if_neg (by omega)]; rfl
  | i + 1 => by
    have ih := plcL_one mm s mN aN h i
    unfold plcL
    by_cases e : i = mN
    · subst e
      rw [if_pos (by unfold addB; rw [if_pos rfl]; exact h), ih, if_neg (by omega), if_pos (by omega)]
      rfl
    · rw [if_neg (by unfold addB; rw [if_neg e]; omega), ih]
      by_cases h2 : mN < i
      · rw [if_pos h2, if_pos (by omega)]
      · rw [if_neg h2, if_neg (by omega)]
theorem plcL_shift (mm : List (List Int)) (s mN aN j : Nat) : ∀ i, plcL mm s mN (aN + j) i = (plcL mm s mN aN i).map fun p => p + (j : Int)
  | 0 => rfl
  | i + 1 => by
    have ih := plcL_shift mm s mN aN j i
    unfold plcL
    by_cases e : addB mm mN i
    · rw [if_pos e, if_pos e, List.map_append, ih]
      congr 1
      simp only [List.map_cons, List.map_nil]
      congr 1
      rw [Int.natCast_add]
      omega
    · rw [if_neg e, if_neg e, ih]
/-- a run's spans, laid out -/
theorem atP_laid (mm : List (List Int)) (s mN aN q : Nat) (gone : Int) (hs : 0 < s) (hsM : s * mm.length ≤ 65536) (hm : mN < mm.length) (ha : aN + q ≤ s) (hq : 0 < q) (hg : (mN : Int) = gone → (rd_L3 mm (mN : Int)).length = 0) (hn : (mN : Int) ≠ gone → (rd_L3 mm (mN : Int)).length = s) :
    laid (atP mm.length (s : Int) gone (mN : Int) (aN : Int) (q : Int)) = (plcL mm s mN aN mm.length).flatMap fun p => (List.range q).map fun (j : Nat) => p + (j : Int) := by
  unfold atP
  by_cases e : (mN : Int) = gone
  · rw [if_pos e]
    exact atL_laid mm s mN aN q hs hsM ha hq (hg e) mm.length (Nat.le_refl _)
  · rw [if_neg e, plcL_one mm s mN aN (by rw [hn e]; exact hs), if_pos hm]
    have hle : (mN + 1) * s ≤ mm.length * s := Nat.mul_le_mul_right _ hm
    rw [Nat.add_mul, Nat.one_mul, Nat.mul_comm mm.length] at hle
    have hok : okS ⟨(mN : Int) * (s : Int) + (aN : Int), (q : Int)⟩ := by
      have e2 : (mN : Int) * (s : Int) = ((mN * s : Nat) : Int) := (Int.natCast_mul mN s).symm
      unfold okS
      simp only
      rw [e2]
      omega
    rw [laid_one _ hok, List.flatMap_cons, List.flatMap_nil, List.append_nil]
    unfold bytesS
    simp only [Int.toNat_natCast]
theorem fm_congr {α β : Type} (f g : α → List β) (L : List α) (h : ∀ x ∈ L, f x = g x) : L.flatMap f = L.flatMap g := by
  rw [List.flatMap_def, List.flatMap_def, List.map_congr_left h]
theorem map_range_get (L : List Int) (f : Int → List Int) : ((List.range L.length).flatMap fun (i : Nat) => f (rd L (i : Int))) = L.flatMap f := by
  have h : (List.range L.length).map (fun (i : Nat) => rd L (i : Int)) = L := by
    apply List.ext_getElem?
    intro i
    by_cases hi : i < L.length
    · rw [List.getElem?_map, List.getElem?_range hi, List.getElem?_eq_getElem hi]
      simp [rd, List.getD_eq_getElem?_getD, hi]
    · rw [List.getElem?_eq_none (by simp; omega), List.getElem?_eq_none (by omega)]
  conv => rhs; rw [← h]
  rw [List.flatMap_map]
/-- what Roads lays of a piece of a chunk -/
theorem WE.pieces (h : WE mm k m c l Cn rows) (W : Nat) (hW : widthOf k m = (W : Int)) (o q : Nat) (hq : 0 < q) (ho : o + q ≤ rows * W * Cn) (hqc : o % Cn + q ≤ Cn) :
    piecesW (allP mm (sizeP mm) k (firstP 0 mm) Cn (chunksFrom k m l rows 0)) o q (lenAt (allP mm (sizeP mm) k (firstP 0 mm) Cn (chunksFrom k m l rows 0)) o) = (plcL mm (sizeP mm) (memAt k m l (firstP 0 mm) Cn W o) (locN Cn W o) mm.length).flatMap fun p => (List.range q).map fun (j : Nat) => p + (j : Int) := by
  have hrd : ∀ j, j < q → rd_L7 (allP mm (sizeP mm) k (firstP 0 mm) Cn (chunksFrom k m l rows 0)) ((o + j : Nat) : Int) = (plcL mm (sizeP mm) (memAt k m l (firstP 0 mm) Cn W o) (locN Cn W o) mm.length).map fun p => p + (j : Int) := fun j hj => by
    have h1 := h.allP_at W hW (o + j) (by omega)
    obtain ⟨e1, e2⟩ := mem_step k m l (firstP 0 mm) Cn W o j (by have := h.cpos; omega) (by omega)
    rw [e1, e2, plcL_shift] at h1
    unfold rd_L7
    rw [Int.toNat_natCast, List.getD_eq_getElem?_getD, h1]
    rfl
  obtain ⟨L, hL⟩ : ∃ L, L = plcL mm (sizeP mm) (memAt k m l (firstP 0 mm) Cn W o) (locN Cn W o) mm.length := ⟨_, rfl⟩
  rw [← hL] at hrd ⊢
  have hla : lenAt (allP mm (sizeP mm) k (firstP 0 mm) Cn (chunksFrom k m l rows 0)) o = L.length := by
    have h2 := hrd 0 hq
    rw [Nat.add_zero] at h2
    unfold lenAt
    rw [h2]
    simp
  rw [hla]
  unfold piecesW
  rw [← map_range_get L (fun p => (List.range q).map fun (j : Nat) => p + (j : Int))]
  apply fm_congr
  intro i hi
  have hiL := List.mem_range.1 hi
  unfold pieceW
  apply List.map_congr_left
  intro j hj
  rw [hrd j (List.mem_range.1 hj)]
  unfold rd
  rw [Int.toNat_natCast, List.getD_eq_getElem?_getD, List.getD_eq_getElem?_getD, List.getElem?_map, List.getElem?_eq_getElem hiL]
  rfl
end
section
variable {mm : List (List Int)} {k m c : Int} {l : Bool} {Cn rows : Nat}
/-- the runs' roads, put together: what Roads lays (Stripe, Parity) -/
theorem WE.roads_val (h : WE mm k m c l Cn rows) (W : Nat) (hW : widthOf k m = (W : Int)) (hW1 : 1 ≤ W) (hk1 : k ≠ 1) : ∀ (f o n : Nat), n ≤ f → o + n ≤ rows * W * Cn →
    laid (spansR mm.length (sizeP mm : Int) (goneOf k mm) (runF k m c l (firstP 0 mm) f (o : Int) (n : Int))) = roadF (allP mm (sizeP mm) k (firstP 0 mm) Cn (chunksFrom k m l rows 0)) Cn f o n
  | 0, o, n, hf, ho => rfl
  | f + 1, o, n, hf, ho => by
    by_cases hn : n = 0
    · subst hn
      rw [show ((0 : Nat) : Int) = 0 from rfl, runF_zero, roadF, if_pos rfl]
      rfl
    · have hc := h.cpos
      have hmod := Nat.mod_lt o (show 0 < Cn by omega)
      have hle := h.loc_le W o (by omega)
      obtain ⟨hm1, hm2⟩ := h.memAt_eq W hW hW1 hk1 (firstP 0 mm) o
      have ha := (h.locs W hW o).2
      obtain ⟨q, hq⟩ : ∃ q, q = min n (Cn - o % Cn) := ⟨_, rfl⟩
      have hq1 : 1 ≤ q ∧ q ≤ n ∧ o % Cn + q ≤ Cn := by omega
      have hrq : runQ k m c l (firstP 0 mm) (o : Int) (n : Int) = ⟨(memAt k m l (firstP 0 mm) Cn W o : Int), (locN Cn W o : Int), (q : Int)⟩ := by
        unfold runQ
        rw [if_neg hk1, hm1, ha, ← h.hC]
        have e : (locN Cn W o : Int) % (Cn : Int) = ((o % Cn : Nat) : Int) := by rw [← Int.natCast_emod, locN_mod Cn W o (by omega)]
        rw [e]
        congr 1
        omega
      have hrf : runF k m c l (firstP 0 mm) (f + 1) (o : Int) (n : Int) = ⟨(memAt k m l (firstP 0 mm) Cn W o : Int), (locN Cn W o : Int), (q : Int)⟩ :: runF k m c l (firstP 0 mm) f ((o + q : Nat) : Int) ((n - q : Nat) : Int) := by
        rw [runF, if_neg (by omega), hrq]
        simp only
        rw [show (o : Int) + (q : Int) = ((o + q : Nat) : Int) from rfl, show (n : Int) - (q : Int) = ((n - q : Nat) : Int) by omega]
      have ih := WE.roads_val h W hW hW1 hk1 f (o + q) (n - q) (by omega) (by omega)
      have hsp : ∀ (x : R3) (R : List R3), spansR mm.length (sizeP mm : Int) (goneOf k mm) (x :: R) = atP mm.length (sizeP mm : Int) (goneOf k mm) x.f0 x.f1 x.f2 ++ spansR mm.length (sizeP mm : Int) (goneOf k mm) R := fun x R => by unfold spansR; rw [List.flatMap_cons]
      rw [hrf, hsp, laid_app, ih, roadF, if_neg hn, ← hq, h.pieces W hW o q (by omega) (by omega) (by omega)]
      congr 1
      exact atP_laid mm (sizeP mm) (memAt k m l (firstP 0 mm) Cn W o) (locN Cn W o) q (goneOf k mm) h.pos h.hS2 hm2 (by omega) (by omega) (fun e => (h.gone_yes _ hm2 e).1) (fun e => h.gone_no hk1 _ hm2 e)
end
end Go.Proofs.Ytlnikhijfamakaa.Pure
