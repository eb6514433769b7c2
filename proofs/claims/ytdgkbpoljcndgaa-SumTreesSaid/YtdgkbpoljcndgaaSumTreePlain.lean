/- PLAIN FACTS on a tree of hashes: blocks, leaves, levels. -/
import Derived.Test.YtdgkbpoljcndgaaMWords
import Derived.Test.YtdgkbpoljcndgaaSumPlain
namespace Go.Proofs.Ytdgkbpoljcndgaa.SumPlain
open Go Go.RowKit Go.Proofs.YtdgkbpoljcndgaaW.PrintWords
set_option linter.unusedVariables false
set_option linter.unusedSimpArgs false
/-- a level, of the one below -/
def upOf {α : Type} (f : α → α → α) : List α → List α
  | a :: b :: r => f a b :: upOf f r
  | l => l
theorem upOf_length {α : Type} (f : α → α → α) : ∀ (l : List α), (upOf f l).length = (l.length + 1) / 2
  | [] => by simp [upOf]
  | [_] => by simp [upOf]
  | a :: b :: r => by simp only [upOf, List.length_cons, upOf_length f r]; omega
theorem upOf_append {α : Type} (f : α → α → α) : ∀ (l m : List α), l.length % 2 = 0 → upOf f (l ++ m) = upOf f l ++ upOf f m
  | [], m, _ => rfl
  | [_], m, h => by simp at h
  | a :: b :: r, m, h => by
    simp only [List.cons_append, upOf]
    rw [upOf_append f r m (by simp at h; omega)]
def levelsOf {α : Type} (f : α → α → α) (l : List α) : List (List α) := if h : l.length ≤ 1 then [l] else l :: levelsOf f (upOf f l)
termination_by l.length
decreasing_by rw [upOf_length]; omega
theorem levelsOf_stop {α : Type} (f : α → α → α) (l : List α) (h : l.length ≤ 1) : levelsOf f l = [l] := by rw [levelsOf]; simp [h]
theorem levelsOf_go {α : Type} (f : α → α → α) (l : List α) (h : ¬ l.length ≤ 1) : levelsOf f l = l :: levelsOf f (upOf f l) := by
  rw [levelsOf]; simp [h]
theorem up_two {α : Type} (f : α → α → α) (z : α) (l : List α) (j : Nat) (h : 2 * j + 1 < l.length) : upOf f (l.take (2 * (j + 1))) = upOf f (l.take (2 * j)) ++ [f (l.getD (2 * j) z) (l.getD (2 * j + 1) z)] := by
  have e : l.take (2 * (j + 1)) = l.take (2 * j) ++ [l.getD (2 * j) z, l.getD (2 * j + 1) z] := by
    have h1 : l.take (2 * j + 1) = l.take (2 * j) ++ [l[2 * j]] := List.take_succ_eq_append_getElem (by omega)
    have h2 : l.take (2 * j + 1 + 1) = l.take (2 * j + 1) ++ [l[2 * j + 1]] := List.take_succ_eq_append_getElem h
    rw [show 2 * (j + 1) = 2 * j + 1 + 1 by omega, h2, h1, List.append_assoc]
    simp [List.getD_eq_getElem?_getD, h, show 2 * j < l.length by omega]
  rw [e, upOf_append _ _ _ (by simp; omega)]
  rfl
theorem up_one {α : Type} (f : α → α → α) (z : α) (l : List α) (j : Nat) (h : 2 * j + 1 = l.length) : upOf f (l.take (2 * (j + 1))) = upOf f (l.take (2 * j)) ++ [l.getD (2 * j) z] := by
  have e : l.take (2 * (j + 1)) = l.take (2 * j) ++ [l.getD (2 * j) z] := by
    rw [List.take_of_length_le (by omega)]
    have := List.take_succ_eq_append_getElem (l := l) (i := 2 * j) (by omega)
    rw [show 2 * j + 1 = l.length from h, List.take_length] at this
    rw [List.getD_eq_getElem?_getD, List.getElem?_eq_getElem (by omega)]
    exact this
  rw [e, upOf_append _ _ _ (by simp; omega)]
  rfl
/-- the hash of two hashes -/
def pairOf (a b : Int) : Int := hashOf (numList a.toNat ++ numList b.toNat)
/-- the blocks of 64 -/
def blockAt (b : List Int) (i : Nat) : List Int := (b.drop (64 * i)).take 64
def nBlocks (b : List Int) : Nat := max 1 ((b.length + 63) / 64)
def leaves (b : List Int) : List Int := (List.range (nBlocks b)).map fun i => hashOf (blockAt b i)
def U64 (x : Int) : Prop := 0 ≤ x ∧ x < 18446744073709551616
theorem levelsOf_head {α : Type} (f : α → α → α) (l : List α) : levelsOf f l = l :: (levelsOf f l).tail := by
  by_cases h : l.length ≤ 1
  · rw [levelsOf_stop _ _ h]; rfl
  · rw [levelsOf_go _ _ h]; rfl
theorem upOf_all {P : Int → Prop} (f : Int → Int → Int) (hf : ∀ a b, P (f a b)) : ∀ l : List Int, (∀ x ∈ l, P x) → ∀ x ∈ upOf f l, P x
  | [], h => h
  | [_], h => h
  | a :: b :: r, h => by
    intro x hx
    simp only [upOf, List.mem_cons] at hx
    rcases hx with rfl | hx
    · exact hf a b
    · exact upOf_all f hf r (fun y hy => h y (by simp [hy])) x hx
theorem hash_u64 (xs : List Int) : U64 (hashOf xs) := by
  unfold hashOf
  have : ∀ (l : List Int) (h : Int), U64 h → U64 (l.foldl hashStep h) := by
    intro l
    induction l with
    | nil => intro h hh; exact hh
    | cons x l ih =>
      intro h hh
      refine ih _ ?_
      unfold hashStep
      simp only
      rw [bits_xor64]
      have := (BitVec.ofInt 64 (IntKind.u64.wrap (bits BinOp.xor IntKind.u64 h (IntKind.u64.wrap x) * 1099511628211)) ^^^ BitVec.ofInt 64 (IntKind.u64.wrap (bits BinOp.xor IntKind.u64 h (IntKind.u64.wrap x) * 1099511628211) / 536870912)).isLt
      exact ⟨by omega, by omega⟩
  exact this xs _ ⟨by omega, by omega⟩
theorem blockAt_mid (b : List Int) (i : Nat) : (b.take (min b.length (64 * i + 64))).drop (64 * i) = blockAt b i := by
  unfold blockAt
  rw [List.drop_take]
  by_cases h : b.length ≤ 64 * i + 64
  · rw [Nat.min_eq_left h, List.take_of_length_le (by rw [List.length_drop]; omega), List.take_of_length_le (by rw [List.length_drop]; omega)]
  · rw [Nat.min_eq_right (by omega), show 64 * i + 64 - 64 * i = 64 by omega]
theorem blockAt_bytes (b : List Int) (i : Nat) (hb : Bytes b) : Bytes (blockAt b i) := fun x hx => hb x (List.mem_of_mem_drop (List.mem_of_mem_take hx))
theorem blockAt_len (b : List Int) (i : Nat) : (blockAt b i).length ≤ 64 := by unfold blockAt; rw [List.length_take]; omega
theorem leaves_take (b : List Int) (k : Nat) (hk : k < nBlocks b) : ((List.range (nBlocks b)).map fun i => hashOf (blockAt b i)).take (k + 1) = ((List.range (nBlocks b)).map fun i => hashOf (blockAt b i)).take k ++ [hashOf (blockAt b k)] := by
  rw [List.take_succ_eq_append_getElem (by simpa using hk)]; simp
theorem leaves_len (b : List Int) : (leaves b).length = nBlocks b := by simp [leaves]
theorem bytes_str (xs : List Int) (h : Bytes xs) : bytesOf (strOfNums xs) = xs := by
  unfold bytesOf strOfNums
  simp only [List.map_map]
  conv => rhs; rw [← List.map_id xs]
  apply List.map_congr_left
  intro x hx
  have := h x hx
  simp only [Function.comp, id]
  rw [UInt8.toNat_ofNat']
  omega
theorem digs_bytes : ∀ (d n : Nat), Bytes (digs d n)
  | 0, _ => fun x hx => by cases hx
  | d + 1, n => fun x hx => by
    simp only [digs, List.mem_cons] at hx
    rcases hx with rfl | hx
    · omega
    · exact digs_bytes d _ x hx
theorem str_append (xs ys : List Int) : strOfNums xs ++ strOfNums ys = strOfNums (xs ++ ys) := by
  unfold strOfNums
  apply ByteArray.ext
  simp
theorem bytes_append {xs ys : List Int} (h : Bytes xs) (k : Bytes ys) : Bytes (xs ++ ys) := fun x hx => by
  rcases List.mem_append.1 hx with hx | hx
  · exact h x hx
  · exact k x hx
theorem numList_bytes (n : Nat) : Bytes (numList n) := by rw [← digs_num]; exact digs_bytes 8 n
def partsOf (b : List Int) : List ByteArray := (List.range (nBlocks b)).map fun i => strOfNums (blockAt b i)
theorem leavesM_take (b : List Int) (k : Nat) (hk : k < nBlocks b) : (partsOf b).getD k ByteArray.empty = strOfNums (blockAt b k) := by
  unfold partsOf
  rw [List.getD_eq_getElem?_getD, List.getElem?_eq_getElem (by simpa using hk)]; simp
def sliceLen : Value → Nat | .slice _ n _ => n | _ => 0
end Go.Proofs.Ytdgkbpoljcndgaa.SumPlain
