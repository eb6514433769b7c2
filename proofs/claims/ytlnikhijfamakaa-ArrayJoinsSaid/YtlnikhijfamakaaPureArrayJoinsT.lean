/- Arrays its bytes: joined. No condition. -/
import Derived.Test.YtlnikhijfamakaaPureArrayJoinsS
import Derived.WalkLawsBesides
import Derived.LoopN
namespace Go.Proofs.Ytlnikhijfamakaa.Pure
open Go.Proofs.Ytlnikhijfamakaa.ArrayPlain
open Go Go.RowKit Go.Maps Go.Proofs.Ytlnikhijfamakaa.QArrayJoins Go.Proofs.YtlnikhijfamakaaW.PrintWords Go.Proofs.YtlnikhijfamakaaW.PrintLast Go.Proofs.YtlnikhijfamakaaW.PrintMore
set_option linter.unusedVariables false
set_option linter.unusedSimpArgs false
theorem flat_get {α β : Type} (f : α → List β) (n : Nat) (hn : 0 < n) (h : ∀ x, (f x).length = n) : ∀ (l : List α) (o : Nat), o < l.length * n → (l.flatMap f)[o]? = (l[o / n]?).bind fun x => (f x)[o % n]?
  | [], o, ho => by simp at ho
  | x :: l, o, ho => by
    rw [List.flatMap_cons]
    by_cases h1 : o < n
    · rw [List.getElem?_append_left (by rw [h x]; exact h1), Nat.div_eq_of_lt h1, Nat.mod_eq_of_lt h1]
      rfl
    · have h2 : n ≤ o := by omega
      rw [List.length_cons, Nat.add_mul, Nat.one_mul] at ho
      rw [List.getElem?_append_right (by rw [h x]; exact h2), h x, flat_get f n hn h l (o - n) (by omega)]
      have e1 : o / n = (o - n) / n + 1 := by rw [Nat.div_eq_sub_div hn h2]
      have e2 : o % n = (o - n) % n := Nat.mod_eq_sub_mod h2
      rw [e1, ← e2, List.getElem?_cons_succ]
section
variable {mm : List (List Int)} {k m c : Int} {l : Bool} {Cn rows : Nat}
theorem WE.cpos (h : WE mm k m c l Cn rows) : 64 ≤ Cn ∧ Cn ≤ 1024 := by
  have hg := h.good
  unfold Good at hg
  have := h.hC
  omega
/-- where byte o of the whole stands: the member and the place -/
def memAt (k m : Int) (l : Bool) (F : Int) (Cn W o : Nat) : Nat := memW k F ⟨stepOf (parOf k m l ((o / Cn / W : Nat) : Int)) ((o / Cn % W : Nat) : Int), ((o / Cn / W : Nat) : Int)⟩
def locN (Cn W o : Nat) : Nat := o / Cn / W * Cn + o % Cn
theorem WE.allV_at (h : WE mm k m c l Cn rows) (W : Nat) (hW : widthOf k m = (W : Int)) (o : Nat) (ho : o < rows * W * Cn) : (allV mm k (firstP 0 mm) Cn (chunksFrom k m l rows 0))[o]? = some (valL mm (memAt k m l (firstP 0 mm) Cn W o) (locN Cn W o) mm.length) := by
  have hc := h.cpos
  have hq : o / Cn < rows * W := Nat.div_lt_of_lt_mul (by rw [Nat.mul_comm]; exact ho)
  obtain ⟨h1, h2⟩ := h.chunk W hW (o / Cn) hq
  unfold allV
  rw [flat_get _ Cn (by omega) (fun x => by unfold chV; simp) _ o (by rw [h.chunks W hW]; exact ho)]
  have h3 : (chunksFrom k m l rows 0)[o / Cn]? = some (rd_T93 (chunksFrom k m l rows 0) ((o / Cn : Nat) : Int)) := by
    unfold rd_T93
    rw [Int.toNat_natCast, List.getD_eq_getElem?_getD, List.getElem?_eq_getElem h1]
    rfl
  rw [h3, h2, Option.bind_some]
  unfold chV
  rw [List.getElem?_map, List.getElem?_range (Nat.mod_lt _ (by omega))]
  rfl
theorem WE.allP_at (h : WE mm k m c l Cn rows) (W : Nat) (hW : widthOf k m = (W : Int)) (o : Nat) (ho : o < rows * W * Cn) : (allP mm (sizeP mm) k (firstP 0 mm) Cn (chunksFrom k m l rows 0))[o]? = some (plcL mm (sizeP mm) (memAt k m l (firstP 0 mm) Cn W o) (locN Cn W o) mm.length) := by
  have hc := h.cpos
  have hq : o / Cn < rows * W := Nat.div_lt_of_lt_mul (by rw [Nat.mul_comm]; exact ho)
  obtain ⟨h1, h2⟩ := h.chunk W hW (o / Cn) hq
  unfold allP
  rw [flat_get _ Cn (by omega) (fun x => by unfold chP; simp) _ o (by rw [h.chunks W hW]; exact ho)]
  have h3 : (chunksFrom k m l rows 0)[o / Cn]? = some (rd_T93 (chunksFrom k m l rows 0) ((o / Cn : Nat) : Int)) := by
    unfold rd_T93
    rw [Int.toNat_natCast, List.getD_eq_getElem?_getD, List.getElem?_eq_getElem h1]
    rfl
  rw [h3, h2, Option.bind_some]
  unfold chP
  rw [List.getElem?_map, List.getElem?_range (Nat.mod_lt _ (by omega))]
  rfl
/-- within a chunk the member stays and the place goes on -/
theorem mem_step (k m : Int) (l : Bool) (F : Int) (Cn W o j : Nat) (hC : 0 < Cn) (h : o % Cn + j < Cn) : memAt k m l F Cn W (o + j) = memAt k m l F Cn W o ∧ locN Cn W (o + j) = locN Cn W o + j := by
  have e1 : (o + j) / Cn = o / Cn := by
    have := Nat.div_add_mod o Cn
    rw [show o + j = (o % Cn + j) + Cn * (o / Cn) by omega, Nat.add_mul_div_left _ _ hC, Nat.div_eq_of_lt h, Nat.zero_add]
  have e2 : (o + j) % Cn = o % Cn + j := by
    have := Nat.div_add_mod o Cn
    rw [show o + j = (o % Cn + j) + Cn * (o / Cn) by omega, Nat.add_mul_mod_self_left, Nat.mod_eq_of_lt h]
  unfold memAt locN
  rw [e1, e2]
  exact ⟨rfl, by omega⟩
/-- the bytes of a piece of a chunk -/
theorem WE.piece (h : WE mm k m c l Cn rows) (W : Nat) (hW : widthOf k m = (W : Int)) (o q : Nat) (ho : o + q ≤ rows * W * Cn) (hq : o % Cn + q ≤ Cn) :
    ((allV mm k (firstP 0 mm) Cn (chunksFrom k m l rows 0)).drop o).take q = (List.range q).map fun j => valL mm (memAt k m l (firstP 0 mm) Cn W o) (locN Cn W o + j) mm.length := by
  apply List.ext_getElem?
  intro j
  by_cases hj : j < q
  · rw [List.getElem?_take_of_lt hj, List.getElem?_drop, h.allV_at W hW (o + j) (by omega), List.getElem?_map, List.getElem?_range hj]
    obtain ⟨e1, e2⟩ := mem_step k m l (firstP 0 mm) Cn W o j (by have := h.cpos; omega) (by omega)
    rw [e1, e2]
    rfl
  · rw [List.getElem?_eq_none (by rw [List.length_take]; omega), List.getElem?_eq_none (by simp; omega)]
end
end Go.Proofs.Ytlnikhijfamakaa.Pure
