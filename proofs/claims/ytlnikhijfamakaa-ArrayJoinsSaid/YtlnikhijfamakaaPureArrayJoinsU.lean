/- Arrays a run's bytes: joined. No condition. -/
import Derived.Test.YtlnikhijfamakaaPureArrayJoinsT
import Derived.WalkLawsBesides
import Derived.LoopN
namespace Go.Proofs.Ytlnikhijfamakaa.Pure
open Go.Proofs.Ytlnikhijfamakaa.ArrayPlain
open Go Go.RowKit Go.Maps Go.Proofs.Ytlnikhijfamakaa.QArrayJoins Go.Proofs.YtlnikhijfamakaaW.PrintWords Go.Proofs.YtlnikhijfamakaaW.PrintLast Go.Proofs.YtlnikhijfamakaaW.PrintMore
set_option linter.unusedVariables false
set_option linter.unusedSimpArgs false
theorem map_rd (f : Nat → Int) (q j : Nat) (h : j < q) : rd ((List.range q).map f) (j : Int) = f j := by
  unfold rd
  rw [Int.toNat_natCast, List.getD_eq_getElem?_getD, List.getElem?_map, List.getElem?_range h]
  rfl
theorem xor_map (f : Nat → Int) (q : Nat) (ys : List Int) (hy : ys.length = q) : xorAt ((List.range q).map f) 0 ys = (List.range q).map fun j => bx (f j) (rd ys (j : Int)) := by
  have hl : ((List.range q).map f).length = q := by simp
  apply List.ext_getElem?
  intro j
  by_cases hj : j < q
  · rw [xorAt_get (by omega), if_pos (by omega), map_rd f q j hj, List.getElem?_map, List.getElem?_range hj, Nat.sub_zero]
    rfl
  · rw [List.getElem?_eq_none (by rw [xorAt_len (by omega)]; omega), List.getElem?_eq_none (by simp; omega)]
theorem span_bytes (mm : List (List Int)) (s i aN q : Nat) (ha : aN < s) : spByte mm (s : Int) ⟨(i : Int) * (s : Int) + (aN : Int), (q : Int)⟩ = ((rd_L3 mm (i : Int)).drop aN).take q := by
  have e1 : ((i : Int) * (s : Int) + (aN : Int)) / (s : Int) = (i : Int) := by
    rw [Int.add_comm, Int.add_mul_ediv_right _ _ (by omega), Int.ediv_eq_zero_of_lt (by omega) (by omega), Int.zero_add]
  have e2 : ((i : Int) * (s : Int) + (aN : Int)) % (s : Int) = (aN : Int) := by
    rw [Int.add_comm, Int.add_mul_emod_self_right, Int.emod_eq_of_lt (by omega) (by omega)]
  unfold spByte
  simp only
  rw [e1, e2, Int.toNat_natCast, Int.toNat_natCast]
theorem cut_rd (x : List Int) (aN q j : Nat) (h : j < q) : rd ((x.drop aN).take q) (j : Int) = rd x ((aN + j : Nat) : Int) := by
  unfold rd
  rw [Int.toNat_natCast, Int.toNat_natCast, List.getD_eq_getElem?_getD, List.getD_eq_getElem?_getD, List.getElem?_take_of_lt h, List.getElem?_drop]
theorem valL_one (mm : List (List Int)) (mN aN : Nat) (h : 0 < (rd_L3 mm (mN : Int)).length) : ∀ i, valL mm mN aN i = if mN < i then bx 0 (rd (rd_L3 mm (mN : Int)) (aN : Int)) else 0
  | 0 => by rw [if_neg (by omega)]; rfl
  | i + 1 => by
    have ih := valL_one mm mN aN h i
    unfold valL
    by_cases e : i = mN
    · subst e
      rw [if_pos (by unfold addB; rw [if_pos rfl]; exact h), ih, if_neg (by omega), if_pos (by omega)]
    · rw [if_neg (by unfold addB; rw [if_neg e]; omega), ih]
      by_cases h2 : mN < i
      · rw [if_pos h2, if_pos (by omega)]
      · rw [if_neg h2, if_neg (by omega)]
theorem partX_app (mm : List (List Int)) (s : Int) (row : List Int) (S T : List S41) : partX mm s row (S ++ T) = partX mm s (partX mm s row S) T := by
  unfold partX; rw [List.foldl_append]
theorem zero_map (q : Nat) : List.replicate q (0 : Int) = (List.range q).map fun _ => (0 : Int) := by
  apply List.ext_getElem?
  intro j
  by_cases hj : j < q
  · rw [List.getElem?_map, List.getElem?_range hj, List.getElem?_replicate, if_pos hj]
    rfl
  · rw [List.getElem?_eq_none (by simp; omega), List.getElem?_eq_none (by simp; omega)]
/-- the others' bytes put together -/
theorem partX_gone (mm : List (List Int)) (s mN aN q : Nat) (ha : aN + q ≤ s) (hq : 0 < q) (h0 : (rd_L3 mm (mN : Int)).length = 0) : ∀ i, (∀ j, j < i → j ≠ mN → (rd_L3 mm (j : Int)).length = s) →
    partX mm (s : Int) (List.replicate q 0) (atL (s : Int) (mN : Int) (aN : Int) (q : Int) i) = (List.range q).map fun j => valL mm mN (aN + j) i
  | 0, _ => by
    unfold atL partX
    exact zero_map q
  | i + 1, hs => by
    have ih := partX_gone mm s mN aN q ha hq h0 i (fun j hj => hs j (by omega))
    unfold atL
    by_cases e : i = mN
    · rw [if_pos (by rw [e]), ih]
      apply List.map_congr_left
      intro j _
      show _ = if addB mm mN i then bx (valL mm mN (aN + j) i) (rd (rd_L3 mm (i : Int)) ((aN + j : Nat) : Int)) else valL mm mN (aN + j) i
      rw [if_neg (by unfold addB; rw [if_pos e, e, h0]; omega)]
    · rw [if_neg (fun h => e (Int.ofNat_inj.1 h)), partX_app, ih]
      have hl := hs i (by omega) e
      unfold partX
      rw [List.foldl_cons, List.foldl_nil, span_bytes mm s i aN q (by omega), xor_map _ q _ (by rw [List.length_take, List.length_drop, hl]; omega)]
      apply List.map_congr_left
      intro j hj
      show _ = if addB mm mN i then bx (valL mm mN (aN + j) i) (rd (rd_L3 mm (i : Int)) ((aN + j : Nat) : Int)) else valL mm mN (aN + j) i
      rw [if_pos (by unfold addB; rw [if_neg e]; exact h0), cut_rd _ aN q j (List.mem_range.1 hj)]
/-- a run's bytes -/
theorem partR_val (mm : List (List Int)) (s mN aN q : Nat) (gone : Int) (hm : mN < mm.length) (ha : aN + q ≤ s) (hq : 0 < q) (hg : (mN : Int) = gone → (rd_L3 mm (mN : Int)).length = 0 ∧ ∀ j, j < mm.length → j ≠ mN → (rd_L3 mm (j : Int)).length = s) (hn : (mN : Int) ≠ gone → (rd_L3 mm (mN : Int)).length = s) :
    partR mm (s : Int) gone ⟨(mN : Int), (aN : Int), (q : Int)⟩ = (List.range q).map fun j => valL mm mN (aN + j) mm.length := by
  unfold partR atP
  simp only
  rw [Int.toNat_natCast]
  by_cases e : (mN : Int) = gone
  · rw [if_pos e]
    obtain ⟨h0, h1⟩ := hg e
    exact partX_gone mm s mN aN q ha hq h0 mm.length h1
  · rw [if_neg e]
    have hl := hn e
    unfold partX
    rw [List.foldl_cons, List.foldl_nil, span_bytes mm s mN aN q (by omega), zero_map, xor_map _ q _ (by rw [List.length_take, List.length_drop, hl]; omega)]
    apply List.map_congr_left
    intro j hj
    rw [valL_one mm mN (aN + j) (by omega) mm.length, if_pos hm, cut_rd _ aN q j (List.mem_range.1 hj)]
end Go.Proofs.Ytlnikhijfamakaa.Pure
