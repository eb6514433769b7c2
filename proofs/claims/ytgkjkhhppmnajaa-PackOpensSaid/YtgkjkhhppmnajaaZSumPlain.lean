/- PLAIN FACTS, without a program: the checksum that begins with the lowest bit and the one that begins with the highest, as numbers of 32 bits. -/
import Derived.Laws.Entries
import Derived.Laws.BitsLemmas
import Derived.Laws.Bits64
import Derived.RowKit
namespace Go.Proofs.Ytgkjkhhppmnajaa.SumPlain
open Go Go.RowKit
def crcBit (c : BitVec 32) : BitVec 32 := (c >>> 1) ^^^ (if c.getLsbD 0 then 0xEDB88320#32 else 0#32)
def refBit (c : BitVec 32) : BitVec 32 := (c <<< 1) ^^^ (if c.getMsbD 0 then 0x04C11DB7#32 else 0#32)
theorem bits_xor32 (x y : Int) : bits .xor .u32 x y = ((BitVec.ofInt 32 x ^^^ BitVec.ofInt 32 y).toNat : Int) := by
 show IntKind.u32.wrap ((BitVec.ofInt 32 x ^^^ BitVec.ofInt 32 y).toNat : Int) = _
 rw [IntKind.wrap_u32]
 have := (BitVec.ofInt 32 x ^^^ BitVec.ofInt 32 y).isLt
 omega
theorem bits_and32 (x y : Int) : bits .and .u32 x y = ((BitVec.ofInt 32 x &&& BitVec.ofInt 32 y).toNat : Int) := by
 show IntKind.u32.wrap ((BitVec.ofInt 32 x &&& BitVec.ofInt 32 y).toNat : Int) = _
 rw [IntKind.wrap_u32]
 have := (BitVec.ofInt 32 x &&& BitVec.ofInt 32 y).isLt
 omega
theorem ofInt_nat {w : Nat} (c : BitVec w) : BitVec.ofInt w (c.toNat : Int) = c := by
 rw [BitVec.ofInt_natCast]; simp
theorem crc_step (c : BitVec 32) : bits .xor .u32 ((c.toNat : Int) / 2) ((bits .and .u32 (c.toNat : Int) 1 * 3988292384) % 4294967296) = ((crcBit c).toNat : Int) := by
 rw [bits_and32, ofInt_nat, bits_xor32]
 congr 2
 unfold crcBit
 have e1 : (c.toNat : Int) / (2 : Int) = ((c >>> 1).toNat : Int) := by
  rw [BitVec.toNat_ushiftRight, Nat.shiftRight_eq_div_pow]; omega
 rw [e1, ofInt_nat]
 congr 1
 have e2 : (BitVec.ofInt 32 1) = 1#32 := by decide
 rw [e2]
 have e3 : c.getLsbD 0 = decide (c.toNat % 2 = 1) := by
  rw [← BitVec.testBit_toNat, Nat.testBit_zero]
 have e4 : (c &&& 1#32).toNat = c.toNat % 2 := by
  rw [BitVec.toNat_and]; show c.toNat &&& 1 = _; exact Nat.and_one_is_mod _
 rw [e3, e4]
 rcases Nat.mod_two_eq_zero_or_one c.toNat with h | h
 · rw [h]; decide
 · rw [h]; decide
theorem ref_step (c : BitVec 32) : (if IntKind.u64.wrap ((c.toNat : Int) * 2) ≥ 4294967296 then bits .xor .u64 (IntKind.u64.wrap (IntKind.u64.wrap ((c.toNat : Int) * 2) - 4294967296)) 79764919 else IntKind.u64.wrap ((c.toNat : Int) * 2)) = ((refBit c).toNat : Int) := by
 have hc := c.isLt
 have e0 : IntKind.u64.wrap ((c.toNat : Int) * 2) = ((c.toNat * 2 : Nat) : Int) := by rw [IntKind.wrap_u64]; omega
 have em : c.getMsbD 0 = decide (2147483648 ≤ c.toNat) := by
  have : c.getMsbD 0 = c.msb := by rw [BitVec.msb]
  rw [this, BitVec.msb_eq_decide]
 have es : (c <<< 1).toNat = c.toNat * 2 % 4294967296 := by
  rw [BitVec.toNat_shiftLeft, Nat.shiftLeft_eq]
 rw [e0]; unfold refBit; rw [em]
 by_cases h : 2147483648 ≤ c.toNat
 ·
  rw [if_pos (by omega)]
  have e1 : IntKind.u64.wrap (((c.toNat * 2 : Nat) : Int) - 4294967296) = ((c.toNat * 2 - 4294967296 : Nat) : Int) := by rw [IntKind.wrap_u64]; omega
  have e2 : (79764919 : Int) = ((79764919 : Nat) : Int) := rfl
  rw [e1, e2, bits_xor_u64_nat _ _ (by omega) (by omega)]
  rw [if_pos (by simpa using h), BitVec.toNat_xor, es]
  have e3 : c.toNat * 2 % 4294967296 = c.toNat * 2 - 4294967296 := by omega
  rw [e3]; rfl
 ·
  rw [if_neg (by omega)]
  rw [if_neg (by simpa using h), BitVec.xor_zero, es]
  omega
theorem rev_shl (x : BitVec 32) : (x <<< 1).reverse = x.reverse >>> 1 := by
 apply BitVec.eq_of_getLsbD_eq
 intro i hi
 rw [BitVec.getLsbD_reverse, BitVec.getLsbD_ushiftRight, BitVec.getLsbD_reverse]
 simp only [BitVec.getMsbD, BitVec.getLsbD_shiftLeft]
 by_cases h : i = 31
 · subst h; simp
 ·
  have h1 : (decide (32 - 1 - i < 1)) = false := by simp; omega
  have e : 32 - 1 - i - 1 = 32 - 1 - (1 + i) := by omega
  rw [h1, e]
  simp [hi, show 1 + i < 32 by omega, show 31 - i < 32 by omega]
theorem rev_xor (x y : BitVec 32) : (x ^^^ y).reverse = x.reverse ^^^ y.reverse := by
 apply BitVec.eq_of_getLsbD_eq
 intro i hi
 rw [BitVec.getLsbD_xor, BitVec.getLsbD_reverse, BitVec.getLsbD_reverse, BitVec.getLsbD_reverse, BitVec.getMsbD_xor]
theorem rev_P : (0x04C11DB7#32).reverse = 0xEDB88320#32 := by decide +kernel
theorem rev_0 : (0#32).reverse = 0#32 := by decide +kernel
theorem rev_ones : (0xFFFFFFFF#32).reverse = 0xFFFFFFFF#32 := by decide +kernel
theorem rev_bit (c : BitVec 32) : (refBit c).reverse = crcBit c.reverse := by
 unfold refBit crcBit
 rw [rev_xor, rev_shl, BitVec.getLsbD_reverse]
 cases c.getMsbD 0 <;> simp [rev_P, rev_0]
def it (f : BitVec 32 → BitVec 32) : Nat → BitVec 32 → BitVec 32
 | 0, c => c
 | n + 1, c => it f n (f c)
theorem rev_it (n : Nat) : ∀ c : BitVec 32, (it refBit n c).reverse = it crcBit n c.reverse := by
 induction n with
 | zero => intro c; rfl
 | succ n ih => intro c; rw [it, it, ih, rev_bit]
def crcFold (c : BitVec 32) (xs : List Int) : BitVec 32 := xs.foldl (fun c x => it crcBit 8 (c ^^^ BitVec.ofInt 32 x)) c
def refFold (c : BitVec 32) (xs : List Int) : BitVec 32 := xs.foldl (fun c x => it refBit 8 (c ^^^ (BitVec.ofInt 32 x).reverse)) c
theorem rev_rev (x : BitVec 32) : x.reverse.reverse = x := by
 apply BitVec.eq_of_getLsbD_eq
 intro i hi
 rw [BitVec.getLsbD_reverse, BitVec.getMsbD, BitVec.getLsbD_reverse]
 simp only [BitVec.getMsbD]
 simp [hi, show 31 - i < 32 by omega, show 31 - (31 - i) = i by omega]
theorem rev_fold (xs : List Int) : ∀ c : BitVec 32, (refFold c xs).reverse = crcFold c.reverse xs := by
 induction xs with
 | nil => intro c; rfl
 | cons x xs ih =>
  intro c
  simp only [refFold, crcFold, List.foldl_cons] at *
  rw [ih, rev_it, rev_xor, rev_rev]
/-- the lowest bits in the opposite order -/
def turnedN : Nat → Nat → Nat → Nat
 | 0, _, out => out
 | k+1, n, out => turnedN k (n/2) (out*2 + n%2)
theorem turnedN_testBit (k : Nat) : ∀ (n out i : Nat), (turnedN k n out).testBit i = if i < k then n.testBit (k - 1 - i) else out.testBit (i - k) := by
 induction k with
 | zero => intro n out i; simp [turnedN]
 | succ k ih =>
  intro n out i
  rw [turnedN, ih]
  by_cases h : i < k
  ·
   rw [if_pos h, if_pos (by omega), Nat.testBit_div_two]
   congr 1; omega
  ·
   rw [if_neg h]
   by_cases h2 : i = k
   ·
    subst h2
    rw [if_pos (by omega)]
    simp [Nat.testBit_zero]
   ·
    rw [if_neg (by omega)]
    rw [show i - k = (i - (k+1)) + 1 by omega, Nat.testBit_succ]
    congr 1; omega
theorem turnedN_rev (c : BitVec 32) : turnedN 32 c.toNat 0 = c.reverse.toNat := by
 apply Nat.eq_of_testBit_eq
 intro i
 rw [turnedN_testBit]
 by_cases h : i < 32
 ·
  rw [if_pos h, BitVec.testBit_toNat, BitVec.testBit_toNat, BitVec.getLsbD_reverse, BitVec.getMsbD]
  simp [h]
 ·
  rw [if_neg h, BitVec.testBit_toNat]
  simp
  rw [BitVec.getLsbD_of_ge _ _ (by omega)]
theorem turnedN_8 (x : Nat) (hx : x < 256) : turnedN 8 x 0 * 16777216 = (BitVec.ofNat 32 x).reverse.toNat := by
 have h : ∀ x : Fin 256, turnedN 8 x.val 0 * 16777216 = (BitVec.ofNat 32 x.val).reverse.toNat := by decide +kernel
 exact h ⟨x, hx⟩
theorem lo_compl (c : BitVec 32) : wrap64 (bits .xor .u32 4294967295 (c.toNat : Int)) = ((c ^^^ 0xFFFFFFFF#32).toNat : Int) := by
 rw [bits_xor32, ofInt_nat]
 have e : BitVec.ofInt 32 4294967295 = 0xFFFFFFFF#32 := by decide
 rw [e, BitVec.xor_comm]
 have := (c ^^^ 0xFFFFFFFF#32).isLt
 unfold wrap64
 omega
theorem compl_nat (c : BitVec 32) : 4294967295 - c.toNat = (c ^^^ 0xFFFFFFFF#32).toNat := by
 have h : c ^^^ 0xFFFFFFFF#32 = ~~~ c := by
  apply BitVec.eq_of_getLsbD_eq
  intro i hi
  rw [BitVec.getLsbD_xor, BitVec.getLsbD_not]
  have : (0xFFFFFFFF#32).getLsbD i = true := by
   have hh : ∀ j : Fin 32, (0xFFFFFFFF#32).getLsbD j.val = true := by decide
   exact hh ⟨i, hi⟩
  rw [this]; simp [hi]
 rw [h, BitVec.toNat_not]
theorem fold_same (xs : List Int) : turnedN 32 (4294967295 - (refFold 0xFFFFFFFF#32 xs).toNat) 0 = (crcFold 0xFFFFFFFF#32 xs ^^^ 0xFFFFFFFF#32).toNat := by
 rw [compl_nat, turnedN_rev, rev_xor, rev_fold, rev_ones]
/-- the checksum, as the program computes it -/
def crcOf (xs : List Int) : Int := ((crcFold 0xFFFFFFFF#32 xs ^^^ 0xFFFFFFFF#32).toNat : Int)
end Go.Proofs.Ytgkjkhhppmnajaa.SumPlain
