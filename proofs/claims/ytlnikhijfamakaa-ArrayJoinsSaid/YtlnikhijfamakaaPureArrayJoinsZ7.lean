/- Arrays joined: what the walks ask of the runs, and the road of the reference. No condition. -/
import Derived.Test.YtlnikhijfamakaaPureArrayJoinsZ4
import Derived.WalkLawsBesides
import Derived.LoopN
namespace Go.Proofs.Ytlnikhijfamakaa.Pure
open Go.Proofs.Ytlnikhijfamakaa.ArrayPlain
open Go Go.RowKit Go.Maps Go.Proofs.Ytlnikhijfamakaa.QArrayJoins Go.Proofs.YtlnikhijfamakaaW.PrintWords Go.Proofs.YtlnikhijfamakaaW.PrintLast Go.Proofs.YtlnikhijfamakaaW.PrintMore
set_option linter.unusedVariables false
set_option linter.unusedSimpArgs false
theorem one_ok (mm : List (List Int)) (s i aN q : Nat) (hi : i < mm.length) (hl : (rd_L3 mm (i : Int)).length = s) (ha : aN + q ≤ s) (hq : 0 < q) : spanOk mm (s : Int) (q : Int) ⟨(i : Int) * (s : Int) + (aN : Int), (q : Int)⟩ := by
  have e1 : ((i : Int) * (s : Int) + (aN : Int)) / (s : Int) = (i : Int) := by
    rw [Int.add_comm, Int.add_mul_ediv_right _ _ (by omega), Int.ediv_eq_zero_of_lt (by omega) (by omega), Int.zero_add]
  have e2 : ((i : Int) * (s : Int) + (aN : Int)) % (s : Int) = (aN : Int) := by
    rw [Int.add_comm, Int.add_mul_emod_self_right, Int.emod_eq_of_lt (by omega) (by omega)]
  have e3 : 0 ≤ (i : Int) * (s : Int) := Int.mul_nonneg (Int.natCast_nonneg _) (Int.natCast_nonneg _)
  unfold spanOk
  simp only
  rw [e1, e2]
  exact ⟨by omega, by omega, by omega, by omega, trivial⟩
theorem atL_ok (mm : List (List Int)) (s mN aN q : Nat) (ha : aN + q ≤ s) (hq : 0 < q) (hs : ∀ j, j < mm.length → j ≠ mN → (rd_L3 mm (j : Int)).length = s) : ∀ i, i ≤ mm.length → ∀ sp ∈ atL (s : Int) (mN : Int) (aN : Int) (q : Int) i, spanOk mm (s : Int) (q : Int) sp
  | 0, _, sp, h => by simp [atL] at h
  | i + 1, hi, sp, h => by
    unfold atL at h
    by_cases e : (i : Int) = (mN : Int)
    · rw [if_pos e] at h
      exact atL_ok mm s mN aN q ha hq hs i (by omega) sp h
    · rw [if_neg e, List.mem_append, List.mem_singleton] at h
      rcases h with h | rfl
      · exact atL_ok mm s mN aN q ha hq hs i (by omega) sp h
      · exact one_ok mm s i aN q (by omega) (hs i (by omega) (fun h => e (by rw [h]))) ha hq
theorem atP_ok (mm : List (List Int)) (s mN aN q : Nat) (gone : Int) (hm : mN < mm.length) (ha : aN + q ≤ s) (hq : 0 < q) (hg : (mN : Int) = gone → (rd_L3 mm (mN : Int)).length = 0 ∧ ∀ j, j < mm.length → j ≠ mN → (rd_L3 mm (j : Int)).length = s) (hn : (mN : Int) ≠ gone → (rd_L3 mm (mN : Int)).length = s) :
    ∀ sp ∈ atP mm.length (s : Int) gone (mN : Int) (aN : Int) (q : Int), spanOk mm (s : Int) (q : Int) sp := by
  intro sp h
  unfold atP at h
  by_cases e : (mN : Int) = gone
  · rw [if_pos e] at h
    exact atL_ok mm s mN aN q ha hq (hg e).2 mm.length (Nat.le_refl _) sp h
  · rw [if_neg e, List.mem_singleton] at h
    subst h
    exact one_ok mm s mN aN q hm (hn e) ha hq
/-- what the walks ask of a run -/
def runOk (mm : List (List Int)) (s gone : Int) (q : R3) : Prop := 0 ≤ q.f0 ∧ q.f0 ≤ 8 ∧ 0 ≤ q.f1 ∧ q.f1 ≤ 65536 ∧ 1 ≤ q.f2 ∧ q.f2 ≤ 65536 ∧ ∀ sp ∈ atP mm.length s gone q.f0 q.f1 q.f2, spanOk mm s q.f2 sp
section
variable {mm : List (List Int)} {k m c : Int} {l : Bool} {Cn rows : Nat}
theorem WE.small (h : WE mm k m c l Cn rows) : sizeP mm ≤ 65536 ∧ mm.length ≤ 8 := by
  have hg := h.good
  have hm := h.hm
  have hS2 := h.hS2
  unfold Good at hg
  have h1 : sizeP mm * 1 ≤ sizeP mm * mm.length := Nat.mul_le_mul_left _ (by omega)
  omega
theorem WE.tot (h : WE mm k m c l Cn rows) (W : Nat) (hW : widthOf k m = (W : Int)) : totW k m (sizeP mm : Int) = ((rows * W * Cn : Nat) : Int) ∧ rows * W * Cn ≤ 65536 := by
  have hg := h.good
  have hm := h.hm
  have hS := h.hS
  have hS2 := h.hS2
  unfold Good at hg
  have h2 : rows * W * Cn = sizeP mm * W := by rw [hS, Nat.mul_right_comm]
  have hWm : W ≤ mm.length := by
    unfold widthOf at hW
    split at hW
    · omega
    · split at hW <;> omega
  have h3 : sizeP mm * W ≤ sizeP mm * mm.length := Nat.mul_le_mul_left _ hWm
  constructor
  · unfold totW
    rw [hW, h2, Int.natCast_mul]
  · omega
theorem WE.run_one (h : WE mm k m c l Cn rows) (mN aN q : Nat) (hm : mN < mm.length) (ha : aN + q ≤ sizeP mm) (hq : 0 < q) (hn : (mN : Int) ≠ goneOf k mm → (rd_L3 mm (mN : Int)).length = sizeP mm) : runOk mm (sizeP mm : Int) (goneOf k mm) ⟨(mN : Int), (aN : Int), (q : Int)⟩ := by
  obtain ⟨hs, hM⟩ := h.small
  unfold runOk
  simp only
  exact ⟨by omega, by omega, by omega, by omega, by omega, by omega, atP_ok mm (sizeP mm) mN aN q _ hm ha hq (fun e => h.gone_yes _ hm e) hn⟩
theorem WE.run_any (h : WE mm k m c l Cn rows) (W : Nat) (hW : widthOf k m = (W : Int)) (hW1 : 1 ≤ W) (hk1 : k ≠ 1) : ∀ (f o n : Nat), n ≤ f → o + n ≤ rows * W * Cn →
    ∀ q ∈ runF k m c l (firstP 0 mm) f (o : Int) (n : Int), runOk mm (sizeP mm : Int) (goneOf k mm) q
  | 0, o, n, hf, ho, q, hq => by simp [runF] at hq
  | f + 1, o, n, hf, ho, x, hx => by
    by_cases hn : n = 0
    · subst hn
      simp [runF] at hx
    · have hc := h.cpos
      have hmod := Nat.mod_lt o (show 0 < Cn by omega)
      have hle := h.loc_le W o (by omega)
      obtain ⟨hm1, hm2⟩ := h.memAt_eq W hW hW1 hk1 (firstP 0 mm) o
      have ha := (h.locs W hW o).2
      obtain ⟨q, hq⟩ : ∃ q, q = min n (Cn - o % Cn) := ⟨_, rfl⟩
      have hq1 : 1 ≤ q ∧ q ≤ n ∧ o % Cn + q ≤ Cn := by omega
      have hrq : runQ k m c l (firstP 0 mm) (o : Int) (n : Int) = ⟨(memAt k m l (firstP 0 mm) Cn W o : Int), (locN Cn W o : Int), (q : Int)⟩ := by
        unfold runQ
        rw [if_neg hk1, hm1, ha, ← h.hC]
        have e : (locN Cn W o : Int) % (Cn : Int) = ((o % Cn : Nat) : Int) := by rw [← Int.natCast_emod, locN_mod Cn W o (by omega)]
        rw [e]
        congr 1
        omega
      have hrf : runF k m c l (firstP 0 mm) (f + 1) (o : Int) (n : Int) = ⟨(memAt k m l (firstP 0 mm) Cn W o : Int), (locN Cn W o : Int), (q : Int)⟩ :: runF k m c l (firstP 0 mm) f ((o + q : Nat) : Int) ((n - q : Nat) : Int) := by
        rw [runF, if_neg (by omega), hrq]
        simp only
        rw [show (o : Int) + (q : Int) = ((o + q : Nat) : Int) from rfl, show (n : Int) - (q : Int) = ((n - q : Nat) : Int) by omega]
      rw [hrf, List.mem_cons] at hx
      rcases hx with rfl | hx
      · exact h.run_one _ _ q hm2 (by omega) (by omega) (fun e => h.gone_no hk1 _ hm2 e)
      · exact WE.run_any h W hW hW1 hk1 f (o + q) (n - q) (by omega) (by omega) x hx
theorem WE.run_all (h : WE mm k m c l Cn rows) (W : Nat) (hW : widthOf k m = (W : Int)) (hW1 : 1 ≤ W) (o n : Nat) (ho : o + n ≤ rows * W * Cn) :
    ∀ q ∈ runF k m c l (firstP 0 mm) n (o : Int) (n : Int), runOk mm (sizeP mm : Int) (goneOf k mm) q := by
  by_cases hk1 : k = 1
  · intro q hq
    by_cases hn : n = 0
    · subst hn
      simp [runF] at hq
    · have hW2 : W = 1 := by unfold widthOf at hW; rw [if_pos hk1] at hW; omega
      subst hW2
      obtain ⟨F, hF, hFl, hFs⟩ := h.first
      have hS := h.hS
      rw [h.run_mir hk1 n o n (by omega) (Nat.le_refl _), List.mem_singleton] at hq
      subst hq
      rw [hF]
      exact h.run_one F o n hFl (by rw [hS]; rw [Nat.mul_one] at ho; exact ho) (by omega) (fun _ => hFs)
  · exact h.run_any W hW hW1 hk1 n o n (Nat.le_refl _) ho
theorem WE.vals (h : WE mm k m c l Cn rows) (W : Nat) (hW : widthOf k m = (W : Int)) (hW1 : 1 ≤ W) (o n : Nat) (ho : o + n ≤ rows * W * Cn) :
    (runF k m c l (firstP 0 mm) n (o : Int) (n : Int)).flatMap (partR mm (sizeP mm : Int) (goneOf k mm)) = ((allV mm k (firstP 0 mm) Cn (chunksFrom k m l rows 0)).drop o).take n := by
  by_cases hk1 : k = 1
  · have hW2 : W = 1 := by unfold widthOf at hW; rw [if_pos hk1] at hW; omega
    subst hW2
    exact h.runs_mir hk1 n o n (Nat.le_refl _) ho
  · exact h.runs_val W hW hW1 hk1 n o n (Nat.le_refl _) ho
theorem WE.roads (h : WE mm k m c l Cn rows) (W : Nat) (hW : widthOf k m = (W : Int)) (hW1 : 1 ≤ W) (o n : Nat) (ho : o + n ≤ rows * W * Cn) :
    laid (spansR mm.length (sizeP mm : Int) (goneOf k mm) (runF k m c l (firstP 0 mm) n (o : Int) (n : Int))) = roadF (allP mm (sizeP mm) k (firstP 0 mm) Cn (chunksFrom k m l rows 0)) Cn n o n := by
  by_cases hk1 : k = 1
  · have hW2 : W = 1 := by unfold widthOf at hW; rw [if_pos hk1] at hW; omega
    subst hW2
    exact h.roads_mir hk1 n o n (Nat.le_refl _) ho
  · exact h.roads_val W hW hW1 hk1 n o n (Nat.le_refl _) ho
theorem flat_take {α β : Type} (f : α → List β) (L : List α) (i : Nat) : ((L.take i).flatMap f).length ≤ (L.flatMap f).length := by
  have e : L.flatMap f = (L.take i).flatMap f ++ (L.drop i).flatMap f := by rw [← List.flatMap_append, List.take_append_drop]
  rw [e, List.length_append]
  omega
theorem WE.sums (h : WE mm k m c l Cn rows) (W : Nat) (hW : widthOf k m = (W : Int)) (hW1 : 1 ≤ W) (o n : Nat) (ho : o + n ≤ rows * W * Cn) (i : Nat) :
    (((runF k m c l (firstP 0 mm) n (o : Int) (n : Int)).take i).flatMap (partR mm (sizeP mm : Int) (goneOf k mm))).length ≤ 65536 := by
  have h1 := flat_take (partR mm (sizeP mm : Int) (goneOf k mm)) (runF k m c l (firstP 0 mm) n (o : Int) (n : Int)) i
  rw [h.vals W hW hW1 o n ho, List.length_take] at h1
  have h2 := (h.tot W hW).2
  omega
theorem WE.lenAt_of (h : WE mm k m c l Cn rows) (W : Nat) (hW : widthOf k m = (W : Int)) (o : Nat) (ho : o < rows * W * Cn) : lenAt (allP mm (sizeP mm) k (firstP 0 mm) Cn (chunksFrom k m l rows 0)) o = (plcL mm (sizeP mm) (memAt k m l (firstP 0 mm) Cn W o) (locN Cn W o) mm.length).length := by
  have h1 := h.allP_at W hW o ho
  unfold lenAt rd_L7
  rw [Int.toNat_natCast, List.getD_eq_getElem?_getD, h1]
  rfl
theorem roadF_len (from_ : List (List Int)) (Cn : Nat) (N : Nat) (h8 : ∀ o, o < N → lenAt from_ o ≤ 8) : ∀ (f o n : Nat), o + n ≤ N → (roadF from_ Cn f o n).length ≤ 8 * n
  | 0, o, n, ho => by simp [roadF]
  | f + 1, o, n, ho => by
    unfold roadF
    by_cases hn : n = 0
    · rw [if_pos hn]; simp
    · rw [if_neg hn, List.length_append, piecesW_len]
      obtain ⟨q, hq⟩ : ∃ q, q = min n (Cn - o % Cn) := ⟨_, rfl⟩
      rw [← hq]
      have h1 := roadF_len from_ Cn N h8 f (o + q) (n - q) (by omega)
      have h2 : lenAt from_ o * q ≤ 8 * q := Nat.mul_le_mul_right _ (h8 o (by omega))
      omega
/-- the reference's road -/
theorem WE.refRoad (h : WE mm k m c l Cn rows) (W : Nat) (hW : widthOf k m = (W : Int)) (hW1 : 1 ≤ W) (o n : Nat) (ho : o + n ≤ rows * W * Cn) :
    Ev (fun t => wrackref1_Roads.f t (allP mm (sizeP mm) k (firstP 0 mm) Cn (chunksFrom k m l rows 0)) (Cn : Int) (o : Int) (n : Int)) (gluedP [] (laid (spansR mm.length (sizeP mm : Int) (goneOf k mm) (runF k m c l (firstP 0 mm) n (o : Int) (n : Int))))) := by
  have hc := h.cpos
  have hl := (h.lens W hW).2
  have ht := (h.tot W hW).2
  obtain ⟨hs, hM⟩ := h.small
  have h8 : ∀ o, o < rows * W * Cn → lenAt (allP mm (sizeP mm) k (firstP 0 mm) Cn (chunksFrom k m l rows 0)) o ≤ 8 := fun o ho => by
    rw [h.lenAt_of W hW o ho]
    have := plcL_len mm (sizeP mm) (memAt k m l (firstP 0 mm) Cn W o) (locN Cn W o) mm.length
    omega
  have hr := h.roads W hW hW1 o n ho
  have hlen := roadF_len (allP mm (sizeP mm) k (firstP 0 mm) Cn (chunksFrom k m l rows 0)) Cn (rows * W * Cn) h8 n o n ho
  have hin := laid_in (spansR mm.length (sizeP mm : Int) (goneOf k mm) (runF k m c l (firstP 0 mm) n (o : Int) (n : Int)))
  rw [hr] at hin ⊢
  refine roads_ev _ Cn (by omega) hc.2 (by rw [hl]; exact ht) (fun o j h1 h2 => ?_) (fun o h1 => h8 o (by rw [hl] at h1; exact h1)) o n (by rw [hl]; exact ho) (by omega) hin
  rw [hl] at h1
  obtain ⟨e1, e2⟩ := mem_step k m l (firstP 0 mm) Cn W o j (by omega) h2
  rw [h.lenAt_of W hW (o + j) h1, h.lenAt_of W hW o (by omega), e1, e2, plcL_shift, List.length_map]
end
end Go.Proofs.Ytlnikhijfamakaa.Pure
