/- PLAIN FACTS, without a program: the checksum that begins with the lowest bit and the one that begins with the highest, as numbers of 32 bits. -/
import Derived.Laws.Entries
import Derived.Laws.BitsLemmas
import Derived.Laws.Bits64
import Derived.RowKit
namespace Go.Proofs.YtagcaheopbmdiaaDoor.SumPlain
open Go Go.RowKit
theorem bits_xor64 (x y : Int) : bits .xor .u64 x y = ((BitVec.ofInt 64 x ^^^ BitVec.ofInt 64 y).toNat : Int) := by
 show IntKind.u64.wrap ((BitVec.ofInt 64 x ^^^ BitVec.ofInt 64 y).toNat : Int) = _
 rw [IntKind.wrap_u64]
 have := (BitVec.ofInt 64 x ^^^ BitVec.ofInt 64 y).isLt
 omega
/-- the two forms of the hash's step -/
def hashStep (h x : Int) : Int :=
 let g := IntKind.u64.wrap ((bits .xor .u64 h (IntKind.u64.wrap x)) * 1099511628211)
 bits .xor .u64 g (g / 536870912)
theorem mix_mul (y : Int) : IntKind.u64.wrap ((IntKind.u64.wrap (y * 1099511627776)) + (IntKind.u64.wrap (y * 435))) = IntKind.u64.wrap (y * 1099511628211) := by
 rw [IntKind.wrap_u64, IntKind.wrap_u64, IntKind.wrap_u64, IntKind.wrap_u64]; omega
theorem u64_lo (y : Int) : 0 ≤ IntKind.u64.wrap y := by rw [IntKind.wrap_u64]; omega
theorem mix_div (g : Int) (h0 : 0 ≤ g) (h1 : g < 18446744073709551616) : IntKind.u64.wrap (Int.tdiv g 536870912) = g / 536870912 := by
 rw [Int.tdiv_eq_ediv_of_nonneg h0, IntKind.wrap_u64]; omega
theorem u64_hi (y : Int) : IntKind.u64.wrap y < 18446744073709551616 := by rw [IntKind.wrap_u64]; omega
def hashOf (xs : List Int) : Int := xs.foldl hashStep 11400714819323198485
def numList (a : Nat) : List Int := [((a % 256 : Nat) : Int), ((a / 256 % 256 : Nat) : Int), ((a / 65536 % 256 : Nat) : Int), ((a / 16777216 % 256 : Nat) : Int), ((a / 4294967296 % 256 : Nat) : Int), ((a / 1099511627776 % 256 : Nat) : Int), ((a / 281474976710656 % 256 : Nat) : Int), ((a / 72057594037927936 % 256 : Nat) : Int)]
def digs : Nat → Nat → List Int
 | 0, _ => []
 | d + 1, n => ((n % 256 : Nat) : Int) :: digs d (n / 256)
theorem digs_length : ∀ (d n : Nat), (digs d n).length = d
 | 0, _ => rfl
 | d + 1, n => by simp [digs, digs_length d]
theorem digs_num (n : Nat) : digs 8 n = numList n := by
 simp only [digs, numList, Nat.div_div_eq_div_mul]
end Go.Proofs.YtagcaheopbmdiaaDoor.SumPlain
