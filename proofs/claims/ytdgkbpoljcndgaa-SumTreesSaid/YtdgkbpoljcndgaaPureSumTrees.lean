/- The statement SumTrees over numbers and lists alone: blocks, levels, root, and the way of a block to the root, as the reference does, for all bytes and numbers. No condition. -/
import Derived.Test.YtdgkbpoljcndgaaQSumTreesx5
import Derived.Test.YtdgkbpoljcndgaaSumPlain
import Derived.Test.YtdgkbpoljcndgaaSumTreePlain
namespace Go.Proofs.Ytdgkbpoljcndgaa.Pure
open Go Go.RowKit Go.Proofs.Ytdgkbpoljcndgaa.QSumTrees Go.Proofs.YtdgkbpoljcndgaaW.PrintWords Go.Proofs.YtdgkbpoljcndgaaW.PrintLast Go.Proofs.YtdgkbpoljcndgaaW.PrintMore Go.Proofs.Ytdgkbpoljcndgaa.SumPlain
/-- the neighbours on the way to the root -/
def way : List (List Int) → Int → List Int → List Int
  | [], _, acc => acc
  | L :: Ls, i, acc => way Ls (i / 2) (if 1 < L.length ∧ i + 1 - i % 2 * 2 < L.length then acc ++ [rd L (i + 1 - i % 2 * 2)] else acc)
theorem tot_levels (f : Int → Int → Int) : ∀ (n : Nat) (l : List Int), l.length = n → totLen (levelsOf f l) ≤ 3 * n := by
  intro n
  induction n using Nat.strongRecOn with
  | _ n ih =>
    intro l hl
    by_cases h : l.length ≤ 1
    · rw [levelsOf_stop f l h]; simp [totLen]; omega
    · rw [levelsOf_go f l h]
      have := ih ((n + 1) / 2) (by omega) (upOf f l) (by rw [upOf_length, hl])
      unfold totLen at this ⊢
      simp only [List.flatten_cons, List.length_append]
      omega
theorem len_levels (f : Int → Int → Int) : ∀ (n : Nat) (l : List Int), l.length = n → (levelsOf f l).length ≤ n + 1 := by
  intro n
  induction n using Nat.strongRecOn with
  | _ n ih =>
    intro l hl
    by_cases h : l.length ≤ 1
    · rw [levelsOf_stop f l h]; simp
    · rw [levelsOf_go f l h]
      have := ih ((n + 1) / 2) (by omega) (upOf f l) (by rw [upOf_length, hl])
      simp only [List.length_cons]
      omega
theorem last_level (f : Int → Int → Int) : ∀ (n : Nat) (l : List Int), l.length = n → 1 ≤ n → ∃ Ls r, levelsOf f l = Ls ++ [[r]] := by
  intro n
  induction n using Nat.strongRecOn with
  | _ n ih =>
    intro l hl hn
    by_cases h : l.length ≤ 1
    · rw [levelsOf_stop f l h]
      match l, hl, h with
      | [], hl, _ => simp at hl; omega
      | [r], _, _ => exact ⟨[], r, rfl⟩
      | _ :: _ :: _, _, h => simp at h
    · rw [levelsOf_go f l h]
      obtain ⟨Ls, r, e⟩ := ih ((n + 1) / 2) (by omega) (upOf f l) (by rw [upOf_length, hl]) (by omega)
      exact ⟨l :: Ls, r, by rw [e]; rfl⟩
theorem equal_l0 (xs : List Int) (hn : xs.length ≤ 140737488351232) : ∀ (d i : Nat), i + d = xs.length →
    Ev (fun k => slices_Equal_uint64_uint64.l0 k xs xs (xs.length : Int) (i : Int)) true
  | 0, i, hi => by
    refine Ev.step (f := fun _ => some _) (fun k => ?_) (Ev.now _)
    simp only [slices_Equal_uint64_uint64.l0]
    rw [if_neg (by omega)]
  | d + 1, i, hi => by
    refine Ev.step (f := fun k => slices_Equal_uint64_uint64.l0 k xs xs (xs.length : Int) ((i + 1 : Nat) : Int)) (fun k => ?_) (equal_l0 xs hn d (i + 1) (by omega))
    simp only [slices_Equal_uint64_uint64.l0]
    rw [if_pos (by omega), if_pos (by omega), if_pos (by omega), if_pos (by omega), next i xs.length (by omega) hn]
    simp
theorem equal_ev (xs : List Int) (hn : xs.length ≤ 140737488351232) : Ev (fun k => slices_Equal_uint64_uint64.f k xs xs) true := by
  refine Ev.congr (fun k => ?_) (equal_l0 xs hn xs.length 0 (by omega))
  unfold slices_Equal_uint64_uint64.f
  rw [if_pos rfl]; rfl
theorem xor_one (x : Int) (h0 : 0 ≤ x) (h1 : x ≤ 4611686018427387904) : bits .xor .i64 x 1 = x + 1 - x % 2 * 2 := by
  obtain ⟨n, rfl⟩ := Int.eq_ofNat_of_zero_le h0
  show IntKind.i64.wrap ((BitVec.ofInt 64 (n : Int) ^^^ BitVec.ofInt 64 1).toNat : Int) = _
  have hx : (BitVec.ofInt 64 (n : Int) ^^^ BitVec.ofInt 64 1).toNat = n ^^^ 1 := by
    rw [BitVec.toNat_xor, BitVec.ofInt_natCast, BitVec.toNat_ofNat, Nat.mod_eq_of_lt (by omega)]; rfl
  rw [hx]
  have h2 : n ^^^ 1 = n + 1 - n % 2 * 2 := by
    have hd : (n ^^^ 1) / 2 = n / 2 := by
      have := Nat.xor_div_two_pow (a := n) (b := 1) (n := 1)
      simpa using this
    have hm : (n ^^^ 1) % 2 = (n + 1) % 2 := by
      have h := Nat.xor_mod_two_pow (a := n) (b := 1) (n := 1)
      rw [Nat.pow_one] at h
      rw [h]
      rcases Nat.mod_two_eq_zero_or_one n with e | e
      · rw [e]; show 1 = _; omega
      · rw [e]; show 0 = _; omega
    omega
  rw [h2, i64_w]
  unfold wrap64
  omega
theorem drop_level (Ls : List (List Int)) (j : Nat) (h : j < Ls.length) : Ls.drop j = rd_L5 Ls (j : Int) :: Ls.drop (j + 1) := by
  rw [List.drop_eq_getElem_cons h]
  simp [rd_L5, List.getD_eq_getElem?_getD, h]
theorem prove_l0 (Ls : List (List Int)) (hn : Ls.length ≤ 4611686018427387904) : ∀ (d j : Nat) (i : Int) (acc : List Int), j + d = Ls.length → 0 ≤ i → i ≤ 2199023255552 → acc.length + d ≤ 17592186044416 →
    Ev (fun k => sum_Prove.l0 k i acc Ls (Ls.length : Int) (j : Int)) (way (Ls.drop j) i acc, 0)
  | 0, j, i, acc, hj, h0, h1, ha => by
    refine Ev.step (f := fun _ => some _) (fun k => ?_) (Ev.now _)
    simp only [sum_Prove.l0]
    rw [if_neg (by omega), List.drop_of_length_le (by omega)]; rfl
  | d + 1, j, i, acc, hj, h0, h1, ha => by
    have hw : wrap64 ((j : Int) + 1) = ((j + 1 : Nat) : Int) := by unfold wrap64; omega
    have hi2 : wrap64 (Int.tdiv i 2) = i / 2 := by rw [Int.tdiv_eq_ediv_of_nonneg h0]; unfold wrap64; omega
    rw [drop_level Ls j (by omega)]
    unfold way
    generalize hL : rd_L5 Ls (j : Int) = L
    by_cases ht : 1 < L.length ∧ i + 1 - i % 2 * 2 < L.length
    · rw [if_pos ht]
      refine Ev.step (fun k => ?_) (prove_l0 Ls hn d (j + 1) (i / 2) (acc ++ [rd L (i + 1 - i % 2 * 2)]) (by omega) (by omega) (by omega) (by simp; omega))
      simp only [sum_Prove.l0]
      rw [if_pos (by omega), if_pos (by omega), if_pos (by omega), hL, xor_one i h0 (by omega), if_pos ht.2, if_pos (by omega), if_pos (by omega), if_pos (by omega), hw, hi2]
    · rw [if_neg ht]
      refine Ev.step (fun k => ?_) (prove_l0 Ls hn d (j + 1) (i / 2) acc (by omega) (by omega) (by omega) (by omega))
      simp only [sum_Prove.l0]
      rw [if_pos (by omega), if_pos (by omega), if_pos (by omega), hL, xor_one i h0 (by omega), hw, hi2]
      split
      · rw [if_neg (by omega)]
      · rfl
theorem peers_l0 (Ls : List (List Int)) (hn : Ls.length ≤ 4611686018427387904) : ∀ (d j : Nat) (i : Int) (acc : List Int), j + d = Ls.length → 0 ≤ i → i ≤ 2199023255552 → acc.length + d ≤ 17592186044416 →
    Ev (fun k => wrackref1_Peers.l0 k i acc Ls (Ls.length : Int) (j : Int)) (way (Ls.drop j) i acc)
  | 0, j, i, acc, hj, h0, h1, ha => by
    refine Ev.step (f := fun _ => some _) (fun k => ?_) (Ev.now _)
    simp only [wrackref1_Peers.l0]
    rw [if_neg (by omega), List.drop_of_length_le (by omega)]; rfl
  | d + 1, j, i, acc, hj, h0, h1, ha => by
    have hw : wrap64 ((j : Int) + 1) = ((j + 1 : Nat) : Int) := by unfold wrap64; omega
    have hi2 : wrap64 (Int.tdiv i 2) = i / 2 := by rw [Int.tdiv_eq_ediv_of_nonneg h0]; unfold wrap64; omega
    have hi3 : wrap64 ((wrap64 (i + 1)) - (wrap64 ((Int.tmod i 2) * 2))) = i + 1 - i % 2 * 2 := by rw [Int.tmod_eq_emod_of_nonneg h0]; unfold wrap64; omega
    rw [drop_level Ls j (by omega)]
    unfold way
    generalize hL : rd_L5 Ls (j : Int) = L
    by_cases ht : 1 < L.length ∧ i + 1 - i % 2 * 2 < L.length
    · rw [if_pos ht]
      refine Ev.step (fun k => ?_) (peers_l0 Ls hn d (j + 1) (i / 2) (acc ++ [rd L (i + 1 - i % 2 * 2)]) (by omega) (by omega) (by omega) (by simp; omega))
      simp only [wrackref1_Peers.l0]
      rw [if_pos (by omega), if_pos (by omega), if_pos (by omega), hL, hi3, if_pos (by omega), if_pos ht.2, if_pos (by omega), if_pos (by omega), hw, hi2]
    · rw [if_neg ht]
      refine Ev.step (fun k => ?_) (peers_l0 Ls hn d (j + 1) (i / 2) acc (by omega) (by omega) (by omega) (by omega))
      simp only [wrackref1_Peers.l0]
      rw [if_pos (by omega), if_pos (by omega), if_pos (by omega), hL, hi3, hw, hi2]
      split
      · rw [if_neg (by omega)]
      · rfl
theorem way_len (Ls : List (List Int)) : ∀ (i : Int) (acc : List Int), (way Ls i acc).length ≤ acc.length + Ls.length := by
  induction Ls with
  | nil => intro i acc; simp [way]
  | cons L Ls ih =>
    intro i acc
    unfold way
    have := ih (i / 2) (if 1 < L.length ∧ i + 1 - i % 2 * 2 < L.length then acc ++ [rd L (i + 1 - i % 2 * 2)] else acc)
    have h2 : (if 1 < L.length ∧ i + 1 - i % 2 * 2 < L.length then acc ++ [rd L (i + 1 - i % 2 * 2)] else acc).length ≤ acc.length + 1 := by split <;> simp
    simp only [List.length_cons]
    omega

theorem SumTrees : wracklaw1_SumTrees.Pure := by
  intro xs a hm hn hw ha
  have hb := bytes_of_wf hw
  have hl : xs.length ≤ 140737488351232 := by omega
  have hN : 1 ≤ nBlocks xs ∧ nBlocks xs ≤ 2199023255552 := by unfold nBlocks; omega
  have hll := leaves_len xs
  obtain ⟨Ls, r, hLs⟩ := last_level pairOf _ (leaves xs) rfl (by omega)
  have htot := tot_levels pairOf _ (leaves xs) rfl
  have hlen := len_levels pairOf _ (leaves xs) rfl
  have hf1 : wrackref1_Levels.f xs = some (levelsOf pairOf (leaves xs)) := by unfold wrackref1_Levels.f; rw [if_pos ⟨hl, hb⟩]
  have hf2 : sum_levels.f xs = some (levelsOf pairOf (leaves xs)) := by unfold sum_levels.f; rw [if_pos ⟨hl, hb⟩]
  have hbl : sum_Blocks.f xs = some (nBlocks xs : Int) := by
    unfold sum_Blocks.f nBlocks
    congr 1
    have e : Int.tdiv (wrap64 ((wrap64 ((xs.length : Int) + 64)) - 1)) 64 = (((xs.length + 63) / 64 : Nat) : Int) := by
      have : wrap64 ((wrap64 ((xs.length : Int) + 64)) - 1) = ((xs.length + 63 : Nat) : Int) := by unfold wrap64; omega
      rw [this, Int.tdiv_eq_ediv_of_nonneg (by omega)]; omega
    rw [e]
    unfold mx wrap64
    split <;> omega
  have h0 : rd_L5 (levelsOf pairOf (leaves xs)) 0 = leaves xs := by rw [levelsOf_head]; rfl
  have hcat : slices_Concat_uint64.f (levelsOf pairOf (leaves xs)) = some (levelsOf pairOf (leaves xs)).flatten := by
    unfold slices_Concat_uint64.f; rw [if_pos (by omega)]
  have htree : sum_Tree.f xs = some (levelsOf pairOf (leaves xs)).flatten := by unfold sum_Tree.f; rw [hf2, Option.bind_some, hcat]; rfl
  have hfl : (levelsOf pairOf (leaves xs)).flatten = Ls.flatten ++ [r] := by rw [hLs]; simp
  have hroot : sum_Root.f xs = some r := by
    unfold sum_Root.f
    rw [htree, Option.bind_some, hfl]
    have : wrap64 (((Ls.flatten ++ [r]).length : Int) - 1) = (Ls.flatten.length : Nat) := by
      have h2 : (Ls.flatten ++ [r]).length ≤ 3 * (leaves xs).length := by rw [← hfl]; exact htot
      simp at h2 ⊢
      unfold wrap64; omega
    rw [this, if_pos (by omega), if_pos (by rw [List.length_append, List.length_singleton]; omega), rd_nat]
    simp [List.getD_eq_getElem?_getD]
  have hlast : rd_L5 (levelsOf pairOf (leaves xs)) (wrap64 (((levelsOf pairOf (leaves xs)).length : Int) - 1)) = [r] := by
    have h2 : wrap64 (((levelsOf pairOf (leaves xs)).length : Int) - 1) = (Ls.length : Nat) := by
      rw [hLs] at hlen ⊢
      simp at hlen ⊢
      unfold wrap64; omega
    rw [h2, hLs]
    simp [rd_L5, List.getD_eq_getElem?_getD]
  have hll2 : wrap64 (((levelsOf pairOf (leaves xs)).length : Int) - 1) = ((levelsOf pairOf (leaves xs)).length : Int) - 1 := by unfold wrap64; omega
  have hpos : 0 < (levelsOf pairOf (leaves xs)).length := by rw [hLs]; simp
  have hin : ∃ p e, Ev (fun k => sum_Prove.f k xs a) (p, e) ∧ ((a < 0 ∨ a ≥ nBlocks xs) → p = [] ∧ e = 4) ∧ (¬ (a < 0 ∨ a ≥ nBlocks xs) → p = way (levelsOf pairOf (leaves xs)) a [] ∧ e = 0) := by
    by_cases hneg : a < 0
    · refine ⟨[], 4, ?_, fun _ => ⟨rfl, rfl⟩, fun h => absurd (Or.inl hneg) h⟩
      unfold sum_Prove.f
      refine Ev.congr (fun k => if_pos hneg) ?_
      exact Ev.step (f := fun _ => some _) (fun k => by simp [sum_Prove.j0]) (Ev.now _)
    · by_cases hge : a ≥ nBlocks xs
      · refine ⟨[], 4, ?_, fun _ => ⟨rfl, rfl⟩, fun h => absurd (Or.inr hge) h⟩
        unfold sum_Prove.f
        refine Ev.congr (fun k => if_neg hneg) ?_
        refine Ev.congr (f := fun k => sum_Prove.j0 k xs a true) (fun k => by rw [hbl, Option.bind_some, decide_eq_true hge]) ?_
        exact Ev.step (f := fun _ => some _) (fun k => by simp [sum_Prove.j0]) (Ev.now _)
      · refine ⟨way (levelsOf pairOf (leaves xs)) a [], 0, ?_, fun h => by omega, fun _ => ⟨rfl, rfl⟩⟩
        unfold sum_Prove.f
        refine Ev.congr (fun k => if_neg hneg) ?_
        refine Ev.congr (f := fun k => sum_Prove.j0 k xs a false) (fun k => by rw [hbl, Option.bind_some, decide_eq_false hge]) ?_
        have := prove_l0 (levelsOf pairOf (leaves xs)) (by omega) (levelsOf pairOf (leaves xs)).length 0 a [] (by omega) (by omega) (by omega) (by simp; omega)
        refine Ev.step (fun k => ?_) this
        simp only [sum_Prove.j0]
        rw [if_neg (by decide), hf2, Option.bind_some]; rfl
  obtain ⟨p, e, hpe, hout, hok⟩ := hin
  apply Ev.rounds
  unfold wracklaw1_SumTrees.f
  refine Ev.congr (fun k => by rw [hf1, Option.bind_some]) ?_
  refine Ev.bind hpe ?_
  refine Ev.bind (Ev.of (g := fun k => wracklaw1_sums.f k) wracklaw1_sums.mono sums_true) ?_
  refine Ev.congr (fun k => if_pos rfl) ?_
  refine Ev.congr (fun k => by rw [hbl, Option.bind_some, if_pos (by omega), h0, if_pos (by omega), htree, Option.bind_some, hcat, Option.bind_some]) ?_
  refine Ev.bind (equal_ev _ (by show totLen _ ≤ _; omega)) ?_
  refine Ev.congr (fun k => if_pos rfl) ?_
  have hb1 : (r != rd [r] 0) = false := by simp [rd]
  refine Ev.congr (f := fun k => wracklaw1_SumTrees.j0 k xs a (levelsOf pairOf (leaves xs)) p e false) (fun k => by rw [hroot, Option.bind_some, hlast, hll2, if_pos (by omega), if_pos (by omega), if_pos (by simp), hb1]) ?_
  by_cases hc : a < 0 ∨ a ≥ nBlocks xs
  · obtain ⟨rfl, rfl⟩ := hout hc
    have hj1 : Ev (fun k => wracklaw1_SumTrees.j1 k xs a [] 4 true) true := by
      refine Ev.step (f := fun _ => some _) (fun k => ?_) (Ev.now _)
      simp [wracklaw1_SumTrees.j1]
    refine Ev.step (fun k => ?_) hj1
    simp only [wracklaw1_SumTrees.j0]
    rw [if_neg (by simp)]
    by_cases hneg : a < 0
    · rw [if_pos hneg]
    · rw [if_neg hneg, if_pos (by omega), h0, decide_eq_true (by omega)]
  · obtain ⟨rfl, rfl⟩ := hok hc
    have hpeers : Ev (fun k => wrackref1_Peers.f k xs a) (way (levelsOf pairOf (leaves xs)) a []) := by
      have := peers_l0 (levelsOf pairOf (leaves xs)) (by omega) (levelsOf pairOf (leaves xs)).length 0 a [] (by omega) (by omega) (by omega) (by simp; omega)
      refine Ev.congr (fun k => ?_) this
      unfold wrackref1_Peers.f
      rw [hf1, Option.bind_some]; rfl
    have hj1 : Ev (fun k => wracklaw1_SumTrees.j1 k xs a (way (levelsOf pairOf (leaves xs)) a []) 0 false) true := by
      have hwl : (way (levelsOf pairOf (leaves xs)) a []).length ≤ 140737488351232 := by have := way_len (levelsOf pairOf (leaves xs)) a []; simp at this; omega
      refine Ev.step (f := fun k => (wrackref1_Peers.f k xs a).bind fun t => (slices_Equal_uint64_uint64.f k (way (levelsOf pairOf (leaves xs)) a []) t).bind fun u => some u) (fun k => ?_) (Ev.bind (f := fun k t => (slices_Equal_uint64_uint64.f k (way (levelsOf pairOf (leaves xs)) a []) t).bind fun u => some u) hpeers (Ev.bind (f := fun _ u => some u) (equal_ev _ hwl) (Ev.now true)))
      simp only [wracklaw1_SumTrees.j1]
      rw [if_neg (by decide), if_true]
    refine Ev.step (fun k => ?_) hj1
    simp only [wracklaw1_SumTrees.j0]
    rw [if_neg (by simp), if_neg (by omega), if_pos (by omega), h0, decide_eq_false (by omega)]

end Go.Proofs.Ytdgkbpoljcndgaa.Pure
