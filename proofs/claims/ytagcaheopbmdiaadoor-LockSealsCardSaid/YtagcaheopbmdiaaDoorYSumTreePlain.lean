/- PLAIN FACTS on a tree of hashes: blocks, leaves, levels. -/
import Derived.Test.YtagcaheopbmdiaaDoorYMWords
import Derived.Test.YtagcaheopbmdiaaDoorYSumPlain
namespace Go.Proofs.YtagcaheopbmdiaaDoor.SumPlain
open Go Go.RowKit Go.Proofs.YtagcaheopbmdiaaDoorW.PrintWords
set_option linter.unusedVariables false
set_option linter.unusedSimpArgs false
def U64 (x : Int) : Prop := 0 ≤ x ∧ x < 18446744073709551616
theorem hash_u64 (xs : List Int) : U64 (hashOf xs) := by
 unfold hashOf
 have : ∀ (l : List Int) (h : Int), U64 h → U64 (l.foldl hashStep h) := by
  intro l
  induction l with
  | nil => intro h hh; exact hh
  | cons x l ih =>
   intro h hh
   refine ih _ ?_
   unfold hashStep
   simp only
   rw [bits_xor64]
   have := (BitVec.ofInt 64 (IntKind.u64.wrap (bits BinOp.xor IntKind.u64 h (IntKind.u64.wrap x) * 1099511628211)) ^^^ BitVec.ofInt 64 (IntKind.u64.wrap (bits BinOp.xor IntKind.u64 h (IntKind.u64.wrap x) * 1099511628211) / 536870912)).isLt
   exact ⟨by omega, by omega⟩
 exact this xs _ ⟨by omega, by omega⟩
theorem digs_bytes : ∀ (d n : Nat), Bytes (digs d n)
 | 0, _ => fun x hx => by cases hx
 | d + 1, n => fun x hx => by
  simp only [digs, List.mem_cons] at hx
  rcases hx with rfl | hx
  · omega
  · exact digs_bytes d _ x hx
theorem numList_bytes (n : Nat) : Bytes (numList n) := by rw [← digs_num]; exact digs_bytes 8 n
end Go.Proofs.YtagcaheopbmdiaaDoor.SumPlain
