/- PLAIN FACTS on a tree of hashes: blocks, leaves, levels. -/
import Derived.Test.YtagcaheopbmdiaaGreatProg
import Derived.Below
import Derived.Deep.Draws
import Derived.Deep.AppendLies
import Derived.Maps.AppendAt
import Derived.OwnWalk
import Derived.Laws.BytesArg
import Derived.Laws.MakeOwn
import Derived.Laws.OwnMore
import Derived.Deep.OwnRows
import Derived.Tactics
import Derived.Lib.ConvBytes
import Derived.Laws.Slices
import Derived.WalkKit
import Derived.KernelRfl
import Derived.RowKit3
import Derived.Deep.LoopGhost
import Derived.Deep.QuietTactic
import Derived.BigQuiet
import Derived.WideLaws
import Derived.Deep.DeepCutAuto
import Derived.Deep.CutBlock
import Derived.Deep.RegionHeld3
import Derived.Laws.Rows
import Derived.Lib.AppendStr
import Derived.ArgAppend
import Derived.Laws.IdiomCopy
import Derived.OrdersHeld
import Derived.Laws.BitsLemmas
import Derived.RowKit
import Derived.Test.YtagcaheopbmdiaaGreatYWWords
import Derived.Test.YtagcaheopbmdiaaGreatYWLast
import Derived.Test.YtagcaheopbmdiaaGreatYWTab
import Derived.Test.YtagcaheopbmdiaaGreatYWArr
import Derived.Test.YtagcaheopbmdiaaGreatYWZeros
import Derived.Test.YtagcaheopbmdiaaGreatYWShare
import Derived.Test.YtagcaheopbmdiaaGreatYWN
import Derived.Test.YtagcaheopbmdiaaGreatYWNEv
import Derived.Test.YtagcaheopbmdiaaGreatYWMore
import Derived.Test.YtagcaheopbmdiaaGreatYMWords
import Derived.Laws.Entries
import Derived.Laws.Bits64
namespace Go.Proofs.YtagcaheopbmdiaaGreat.QLockOpens
open Go.RowKit Go.Proofs.YtagcaheopbmdiaaGreatW.PrintWords Go.Proofs.YtagcaheopbmdiaaGreatW.PrintLast Go.Proofs.YtagcaheopbmdiaaGreatW.PrintMore
attribute [local go_sem] max2_int min2_int max_two min_two max_three min_three max_four min_four   -- for this text's walks alone
set_option linter.unusedVariables false
set_option linter.unusedSimpArgs false
def errW : Option Int → Value
 | none => .nilIface
 | some c => .iface 0 (.int .i64 c)
theorem errW_none : errW none = .nilIface := rfl
theorem errW_some (c : Int) : errW (some c) = .iface 0 (.int .i64 c) := rfl
theorem info3 : (Tryz.prog.info? 3).map (fun i => (i.zero, i.size, i.bytes)) = some (some (.int .i64 0), 1, 8) := by kernel_rfl
theorem info4 : (Tryz.prog.info? 4).map (fun i => (i.zero, i.size, i.bytes)) = some (some (.bool false), 1, 1) := by kernel_rfl
theorem info5 : (Tryz.prog.info? 5).map (fun i => (i.zero, i.size, i.bytes)) = some (some (.int .u8 0), 1, 1) := by kernel_rfl
theorem info9 : (Tryz.prog.info? 9).map (fun i => (i.zero, i.size, i.bytes)) = some (some (.string ⟨#[]⟩), 1, 16) := by kernel_rfl
theorem info52 : (Tryz.prog.info? 52).map (fun i => (i.zero, i.size, i.bytes)) = some (some (.agg #[(.int .i64 0), (.int .i64 0)]), 2, 16) := by kernel_rfl
-- the values' own types
structure S52 where
 f0 : Int
 f1 : Int
def z52 : S52 := ⟨(0 : Int), (0 : Int)⟩
def k52 : Kd S52 := Kd.iso (Kd.pair (Kd.int .i64) (Kd.int .i64)) (fun x : S52 => (x.f0, x.f1))
theorem k52_open {w : World} {x : S52} {cs : List Value} (h : k52.K w x cs) : cs = [.int .i64 x.f0, .int .i64 x.f1] := by
 obtain ⟨_, _, rfl, rfl, rfl⟩ := h
 exact rfl
theorem k52_openM {w : World} {base : Nat} {ok : Nat → Prop} {x : S52} {cs : List Value} (h : k52.M w base ok x cs) : cs = [.int .i64 x.f0, .int .i64 x.f1] := by
 obtain ⟨_, _, rfl, rfl, rfl⟩ := h
 exact rfl
theorem k52_mk (w : World) (x : S52)  : k52.K w x [.int .i64 x.f0, .int .i64 x.f1] := ⟨[.int .i64 x.f0], [.int .i64 x.f1], rfl, rfl, rfl⟩
theorem k52_mkM (w : World) (base : Nat) (ok : Nat → Prop) (x : S52)  : k52.M w base ok x [.int .i64 x.f0, .int .i64 x.f1] := ⟨[.int .i64 x.f0], [.int .i64 x.f1], rfl, rfl, rfl⟩
def rd_T52 (xs : List S52) (i : Int) : S52 := xs.getD i.toNat z52
theorem at_T52 {w : World} {A : Option Addr} {n : Nat} {xs : List S52} (h : Kd.C k52 w A n xs) (i : Int) (h0 : 0 ≤ i) (h1 : i < n) : ∃ ad , A = some ad ∧ w.cell? (ad.add (i.toNat * 2)) = some (.int .i64 (rd_T52 xs i).f0) ∧ w.cell? ⟨(ad.add (i.toNat * 2)).block, (ad.add (i.toNat * 2)).off + 1, none⟩ = some (.int .i64 (rd_T52 xs i).f1) := by
 obtain ⟨ad, c, e, _, hK, hc0⟩ := Kd.C_get h z52 i h0 h1
 have hc : ∀ j u, c[j]? = some u → w.cell? (ad.add (i.toNat * 2 + j)) = some u := hc0
 obtain rfl := k52_open hK
 exact ⟨ad, e, hc 0 _ rfl, by rw [← add_field _ _ 1 (by omega)]; exact hc 1 _ rfl⟩
end Go.Proofs.YtagcaheopbmdiaaGreat.QLockOpens
namespace Go.Proofs.YtagcaheopbmdiaaGreat.SumPlain
open Go Go.RowKit
theorem bits_xor64 (x y : Int) : bits .xor .u64 x y = ((BitVec.ofInt 64 x ^^^ BitVec.ofInt 64 y).toNat : Int) := by
 show IntKind.u64.wrap ((BitVec.ofInt 64 x ^^^ BitVec.ofInt 64 y).toNat : Int) = _
 rw [IntKind.wrap_u64]
 have := (BitVec.ofInt 64 x ^^^ BitVec.ofInt 64 y).isLt
 omega
/-- the two forms of the hash's step -/
def hashStep (h x : Int) : Int :=
 let g := IntKind.u64.wrap ((bits .xor .u64 h (IntKind.u64.wrap x)) * 1099511628211)
 bits .xor .u64 g (g / 536870912)
theorem mix_mul (y : Int) : IntKind.u64.wrap ((IntKind.u64.wrap (y * 1099511627776)) + (IntKind.u64.wrap (y * 435))) = IntKind.u64.wrap (y * 1099511628211) := by
 rw [IntKind.wrap_u64, IntKind.wrap_u64, IntKind.wrap_u64, IntKind.wrap_u64]; omega
theorem u64_lo (y : Int) : 0 ≤ IntKind.u64.wrap y := by rw [IntKind.wrap_u64]; omega
theorem mix_div (g : Int) (h0 : 0 ≤ g) (h1 : g < 18446744073709551616) : IntKind.u64.wrap (Int.tdiv g 536870912) = g / 536870912 := by
 rw [Int.tdiv_eq_ediv_of_nonneg h0, IntKind.wrap_u64]; omega
theorem u64_hi (y : Int) : IntKind.u64.wrap y < 18446744073709551616 := by rw [IntKind.wrap_u64]; omega
def hashOf (xs : List Int) : Int := xs.foldl hashStep 11400714819323198485
def numList (a : Nat) : List Int := [((a % 256 : Nat) : Int), ((a / 256 % 256 : Nat) : Int), ((a / 65536 % 256 : Nat) : Int), ((a / 16777216 % 256 : Nat) : Int), ((a / 4294967296 % 256 : Nat) : Int), ((a / 1099511627776 % 256 : Nat) : Int), ((a / 281474976710656 % 256 : Nat) : Int), ((a / 72057594037927936 % 256 : Nat) : Int)]
def digs : Nat → Nat → List Int
 | 0, _ => []
 | d + 1, n => ((n % 256 : Nat) : Int) :: digs d (n / 256)
theorem digs_num (n : Nat) : digs 8 n = numList n := by
 simp only [digs, numList, Nat.div_div_eq_div_mul]
end Go.Proofs.YtagcaheopbmdiaaGreat.SumPlain
namespace Go.Proofs.YtagcaheopbmdiaaGreat.SumPlain
open Go Go.RowKit Go.Proofs.YtagcaheopbmdiaaGreatW.PrintWords
set_option linter.unusedVariables false
set_option linter.unusedSimpArgs false
def U64 (x : Int) : Prop := 0 ≤ x ∧ x < 18446744073709551616
theorem hash_u64 (xs : List Int) : U64 (hashOf xs) := by
 unfold hashOf
 have : ∀ (l : List Int) (h : Int), U64 h → U64 (l.foldl hashStep h) := by
  intro l
  induction l with
  | nil => intro h hh; exact hh
  | cons x l ih =>
   intro h hh
   refine ih _ ?_
   unfold hashStep
   simp only
   rw [bits_xor64]
   have := (BitVec.ofInt 64 (IntKind.u64.wrap (bits BinOp.xor IntKind.u64 h (IntKind.u64.wrap x) * 1099511628211)) ^^^ BitVec.ofInt 64 (IntKind.u64.wrap (bits BinOp.xor IntKind.u64 h (IntKind.u64.wrap x) * 1099511628211) / 536870912)).isLt
   exact ⟨by omega, by omega⟩
 exact this xs _ ⟨by omega, by omega⟩
theorem digs_bytes : ∀ (d n : Nat), Bytes (digs d n)
 | 0, _ => fun x hx => by cases hx
 | d + 1, n => fun x hx => by
  simp only [digs, List.mem_cons] at hx
  rcases hx with rfl | hx
  · omega
  · exact digs_bytes d _ x hx
theorem numList_bytes (n : Nat) : Bytes (numList n) := by rw [← digs_num]; exact digs_bytes 8 n
end Go.Proofs.YtagcaheopbmdiaaGreat.SumPlain
