/- Arrays the runs' bytes: joined. No condition. -/
import Derived.Test.YtlnikhijfamakaaPureArrayJoinsU
import Derived.WalkLawsBesides
import Derived.LoopN
namespace Go.Proofs.Ytlnikhijfamakaa.Pure
open Go.Proofs.Ytlnikhijfamakaa.ArrayPlain
open Go Go.RowKit Go.Maps Go.Proofs.Ytlnikhijfamakaa.QArrayJoins Go.Proofs.YtlnikhijfamakaaW.PrintWords Go.Proofs.YtlnikhijfamakaaW.PrintLast Go.Proofs.YtlnikhijfamakaaW.PrintMore
set_option linter.unusedVariables false
set_option linter.unusedSimpArgs false
section
variable {mm : List (List Int)} {k m c : Int} {l : Bool} {Cn rows : Nat}
theorem WE.goneP1 (h : WE mm k m c l Cn rows) (hk : k = 2) (mN : Nat) (hm : mN < mm.length) (h0 : (rd_L3 mm (mN : Int)).length = 0) : goneP 0 mm = [(mN : Int)] := by
  have h1 := h.lost
  unfold lostMax at h1
  rw [if_neg (by omega), if_neg (by omega)] at h1
  have h2 : (mN : Int) ∈ goneP 0 mm := (goneP_mem mm 0 mN).2 ⟨by omega, by omega, by rw [Nat.sub_zero]; exact h0⟩
  match hg : goneP 0 mm with
  | [] => rw [hg] at h2; simp at h2
  | [x] => rw [hg, List.mem_singleton] at h2; rw [h2]
  | x :: y :: r => rw [hg, List.length_cons, List.length_cons] at h1; omega
theorem WE.gone_yes (h : WE mm k m c l Cn rows) (mN : Nat) (hm : mN < mm.length) (hg : (mN : Int) = goneOf k mm) : (rd_L3 mm (mN : Int)).length = 0 ∧ ∀ j, j < mm.length → j ≠ mN → (rd_L3 mm (j : Int)).length = sizeP mm := by
  unfold goneOf at hg
  by_cases hc : k = 2 ∧ (goneP 0 mm).length = 1
  · rw [if_pos hc] at hg
    have hmem : (mN : Int) ∈ goneP 0 mm := by
      match hl : goneP 0 mm with
      | [] => rw [hl] at hc; simp at hc
      | x :: r =>
        rw [hl] at hg
        rw [hg]
        exact List.mem_cons_self
    have h0 := ((goneP_mem mm 0 mN).1 hmem).2.2
    rw [Nat.sub_zero] at h0
    refine ⟨h0, fun j hj hne => ?_⟩
    rcases h.len j hj with e | e
    · exact absurd (h.miss2 hc.1 j mN hj hm e h0) hne
    · exact e
  · rw [if_neg hc] at hg
    omega
theorem WE.gone_no (h : WE mm k m c l Cn rows) (hk1 : k ≠ 1) (mN : Nat) (hm : mN < mm.length) (hg : (mN : Int) ≠ goneOf k mm) : (rd_L3 mm (mN : Int)).length = sizeP mm := by
  have hgd := h.good
  unfold Good at hgd
  rcases h.len mN hm with e | e
  · by_cases hk2 : k = 2
    · have hl := h.goneP1 hk2 mN hm e
      refine absurd ?_ hg
      unfold goneOf
      rw [hl, if_pos ⟨hk2, rfl⟩]
      rfl
    · exact absurd e (h.miss0 (by omega) mN hm)
  · exact e
theorem WE.locs (h : WE mm k m c l Cn rows) (W : Nat) (hW : widthOf k m = (W : Int)) (o : Nat) : locM k m c l (o : Int) = stepOf (parOf k m l ((o / Cn / W : Nat) : Int)) ((o / Cn % W : Nat) : Int) ∧ locA k m c l (o : Int) = (locN Cn W o : Int) := by
  unfold locM locA locN
  rw [hW, ← h.hC]
  exact ⟨rfl, rfl⟩
theorem WE.memAt_eq (h : WE mm k m c l Cn rows) (W : Nat) (hW : widthOf k m = (W : Int)) (hW1 : 1 ≤ W) (hk1 : k ≠ 1) (F : Int) (o : Nat) : locM k m c l (o : Int) = (memAt k m l F Cn W o : Int) ∧ memAt k m l F Cn W o < mm.length := by
  have hst := step_in h.good ((o / Cn / W : Nat) : Int) ((o / Cn % W : Nat) : Int) (Int.natCast_nonneg _) (by rw [hW]; exact Int.ofNat_lt.2 (Nat.mod_lt _ (by omega)))
  have hm := h.hm
  rw [(h.locs W hW o).1]
  unfold memAt memW
  simp only
  rw [if_neg hk1]
  constructor
  · exact (Int.toNat_of_nonneg hst.1).symm
  · omega
theorem locN_mod (Cn W o : Nat) (hC : 0 < Cn) : locN Cn W o % Cn = o % Cn := by
  unfold locN
  rw [Nat.add_comm, Nat.add_mul_mod_self_right, Nat.mod_mod]
theorem WE.loc_le (h : WE mm k m c l Cn rows) (W : Nat) (o : Nat) (ho : o < rows * W * Cn) : locN Cn W o + (Cn - o % Cn) ≤ sizeP mm := by
  have hc := h.cpos
  have hq : o / Cn < rows * W := Nat.div_lt_of_lt_mul (by rw [Nat.mul_comm]; exact ho)
  have hrow : o / Cn / W < rows := Nat.div_lt_of_lt_mul (by rw [Nat.mul_comm]; exact hq)
  have h2 : (o / Cn / W + 1) * Cn ≤ rows * Cn := Nat.mul_le_mul_right _ hrow
  rw [Nat.add_mul, Nat.one_mul, ← h.hS] at h2
  have h3 := Nat.mod_lt o (show 0 < Cn by omega)
  unfold locN
  omega
/-- the runs' bytes, put together: those of the whole (Stripe, Parity) -/
theorem WE.runs_val (h : WE mm k m c l Cn rows) (W : Nat) (hW : widthOf k m = (W : Int)) (hW1 : 1 ≤ W) (hk1 : k ≠ 1) : ∀ (f o n : Nat), n ≤ f → o + n ≤ rows * W * Cn →
    (runF k m c l (firstP 0 mm) f (o : Int) (n : Int)).flatMap (partR mm (sizeP mm : Int) (goneOf k mm)) = ((allV mm k (firstP 0 mm) Cn (chunksFrom k m l rows 0)).drop o).take n
  | 0, o, n, hf, ho => by
    obtain rfl : n = 0 := by omega
    simp [runF]
  | f + 1, o, n, hf, ho => by
    by_cases hn : n = 0
    · subst hn
      simp [runF]
    · have hc := h.cpos
      have hmod := Nat.mod_lt o (show 0 < Cn by omega)
      have hle := h.loc_le W o (by omega)
      obtain ⟨hm1, hm2⟩ := h.memAt_eq W hW hW1 hk1 (firstP 0 mm) o
      have ha := (h.locs W hW o).2
      obtain ⟨q, hq⟩ : ∃ q, q = min n (Cn - o % Cn) := ⟨_, rfl⟩
      have hq1 : 1 ≤ q ∧ q ≤ n ∧ o % Cn + q ≤ Cn := by omega
      have hrq : runQ k m c l (firstP 0 mm) (o : Int) (n : Int) = ⟨(memAt k m l (firstP 0 mm) Cn W o : Int), (locN Cn W o : Int), (q : Int)⟩ := by
        unfold runQ
        rw [if_neg hk1, hm1, ha, ← h.hC]
        have e : (locN Cn W o : Int) % (Cn : Int) = ((o % Cn : Nat) : Int) := by rw [← Int.natCast_emod, locN_mod Cn W o (by omega)]
        rw [e]
        congr 1
        omega
      have hrf : runF k m c l (firstP 0 mm) (f + 1) (o : Int) (n : Int) = ⟨(memAt k m l (firstP 0 mm) Cn W o : Int), (locN Cn W o : Int), (q : Int)⟩ :: runF k m c l (firstP 0 mm) f ((o + q : Nat) : Int) ((n - q : Nat) : Int) := by
        rw [runF, if_neg (by omega), hrq]
        simp only
        rw [show (o : Int) + (q : Int) = ((o + q : Nat) : Int) from rfl, show (n : Int) - (q : Int) = ((n - q : Nat) : Int) by omega]
      rw [hrf, List.flatMap_cons, WE.runs_val h W hW hW1 hk1 f (o + q) (n - q) (by omega) (by omega), partR_val mm (sizeP mm) (memAt k m l (firstP 0 mm) Cn W o) (locN Cn W o) q (goneOf k mm) hm2 (by omega) (by omega) (fun e => h.gone_yes _ hm2 e) (fun e => h.gone_no hk1 _ hm2 e), ← h.piece W hW o q (by omega) (by omega)]
      obtain ⟨A, hA⟩ : ∃ A, A = allV mm k (firstP 0 mm) Cn (chunksFrom k m l rows 0) := ⟨_, rfl⟩
      rw [← hA]
      have e := List.take_add (l := A.drop o) (i := q) (j := n - q)
      rw [show q + (n - q) = n by omega, List.drop_drop] at e
      exact e.symm
end
end Go.Proofs.Ytlnikhijfamakaa.Pure
