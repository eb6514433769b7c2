/- Sealed layers: slots, as the program and the reference compute them. No condition. -/
import Derived.Test.YtagcaheopbmdiaaDoorYPureLockSealsLA
namespace Go.Proofs.YtagcaheopbmdiaaDoor.Lk
open Go Go.RowKit Go.Proofs.YtagcaheopbmdiaaDoor.QLockSeals Go.Proofs.YtagcaheopbmdiaaDoorW.PrintWords Go.Proofs.YtagcaheopbmdiaaDoorW.PrintLast Go.Proofs.YtagcaheopbmdiaaDoorW.PrintMore Go.Proofs.YtagcaheopbmdiaaDoor.SumPlain
set_option linter.unusedVariables false
set_option linter.unusedSimpArgs false
/-- 'in', 'ok' -/
def wIn : ByteArray := ⟨#[105, 110]⟩
def wOk : ByteArray := ⟨#[111, 107]⟩
theorem xor_u64 (a b : Int) : U64 (Go.bits .xor .u64 a b) := by
 rw [bits_xor64]
 have := (BitVec.ofInt 64 a ^^^ BitVec.ofInt 64 b).isLt
 exact ⟨by omega, by omega⟩
/-- a slot -/
def slotP (salt inner : Int) (key : ByteArray) : List Int := numList salt.toNat ++ (numList (Go.bits .xor .u64 inner (mixedP (mixedP salt key) wIn)).toNat ++ numList (mixedP inner wOk).toNat)
theorem slotP_len (salt inner : Int) (key : ByteArray) : (slotP salt inner key).length = 24 := by unfold slotP; simp [numList_len]
theorem slot_ev (salt inner : Int) (hs : U64 salt) (hi : U64 inner) (key : ByteArray) (hk : key.size ≤ 1000000) : Ev (fun k => lock_slot.f k salt inner key) (slotP salt inner key) := by
 unfold lock_slot.f
 refine Ev.bind (mixed_ev salt hs key hk) ?_
 refine Ev.bind (number_ev' salt hs) ?_
 refine Ev.bind (mixed_ev _ (mixedP_u64 _ _) wIn (by decide)) ?_
 refine Ev.bind (number_ev' _ (xor_u64 _ _)) ?_
 refine Ev.bind (mixed_ev inner hi wOk (by decide)) ?_
 refine Ev.bind (number_ev' _ (mixedP_u64 _ _)) ?_
 refine Ev.congr (fun k => ?_) (Ev.now (slotP salt inner key))
 unfold slices_Concat_byte.f
 rw [if_pos (by simp [totLen, numList_len]), Option.bind_some]
 simp [slotP]
theorem slotText_ev (salt inner : Int) (hs : U64 salt) (hi : U64 inner) (key : ByteArray) (hk : key.size ≤ 1000000) : Ev (fun k => wrackref1_SlotText.f k salt inner key) (strOfNums (slotP salt inner key)) := by
 unfold wrackref1_SlotText.f
 refine Ev.bind (eight_ev' salt hs) ?_
 refine Ev.bind (keyed_ev salt hs key hk) ?_
 refine Ev.bind (keyed_ev _ (mixedP_u64 _ _) wIn (by decide)) ?_
 refine Ev.bind (eight_ev' _ (xor_u64 _ _)) ?_
 refine Ev.congr (fun k => if_pos (by rw [str_size, str_size, numList_len, numList_len]; decide)) ?_
 refine Ev.bind (keyed_ev inner hi wOk (by decide)) ?_
 refine Ev.bind (eight_ev' _ (mixedP_u64 _ _)) ?_
 refine Ev.congr (fun k => if_pos (by rw [ByteArray.size_append, str_size, str_size, str_size, numList_len, numList_len, numList_len]; decide)) ?_
 rw [kstr_add, kstr_add, List.append_assoc]
 exact Ev.now _
end Go.Proofs.YtagcaheopbmdiaaDoor.Lk
