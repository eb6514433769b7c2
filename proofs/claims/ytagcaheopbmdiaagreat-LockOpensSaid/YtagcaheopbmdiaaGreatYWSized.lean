/- A text of the seat, without what this claim does not use. No condition. -/
import Derived.Test.YtagcaheopbmdiaaGreatYPureLockOpensO
import Derived.Test.YtagcaheopbmdiaaGreatYPureLockOpensR
import Derived.Test.YtagcaheopbmdiaaGreatYPureLockOpensS
import Derived.SizedLaws
import Derived.ChangeSlices
namespace Go.Proofs.YtagcaheopbmdiaaGreat.Pure
open Go.Proofs.YtagcaheopbmdiaaGreat.SumPlain Go.Maps Go.Proofs.YtagcaheopbmdiaaGreat.Lk
open Go Go.RowKit Go.Proofs.YtagcaheopbmdiaaGreat.QLockOpens Go.Proofs.YtagcaheopbmdiaaGreatW.PrintWords Go.Proofs.YtagcaheopbmdiaaGreatW.PrintLast Go.Proofs.YtagcaheopbmdiaaGreatW.PrintMore
set_option linter.unusedVariables false
set_option linter.unusedSimpArgs false
/-- all bytes, bad spans, keys and ranges -/
theorem lo_main (A0 : Option Addr) (c0 : Nat) (b : List Int) (A1 : Option Addr) (c1 : Nat) (bad : List S52) (key : ByteArray) (off n : Int) (w : World) (hrb : Kd.C (Kd.int .u8) w A0 b.length b) (hcb : b.length ≤ c0) (hrl : Kd.C k52 w A1 bad.length bad) (hcl : bad.length ≤ c1) (hl : bad.length * 16 ≤ 140737488351232) (hb : Bytes b) :
  Calls Tryz.prog 3 #[.slice A0 b.length c0, .slice A1 bad.length c1, .string key, .int .i64 off, .int .i64 n] w fun e w' => e = .returned (.bool true) ∧ Below w.heap.size w w' := by
 obtain ⟨p, hp⟩ : ∃ p, p = b.take (min b.length 65536) := ⟨_, rfl⟩
 obtain ⟨bd, hbd⟩ : ∃ d, d = badOf p.length bad := ⟨_, rfl⟩
 by_cases hok : rOk p bd
 ·
  cases hk : nameP key with
  | false => exact lo_name A0 c0 b A1 c1 bad key off n w hrb hcb hrl hcl hl hb p hp bd hbd hok hk
  | true =>
   cases h3 : (slotsP p key).2.2 with
   | false => exact lo_key A0 c0 b A1 c1 bad key off n w hrb hcb hrl hcl hl hb p hp bd hbd hok hk h3
   | true =>
    obtain ⟨i, hi, hi4⟩ := slots_at p hok.2 key h3
    obtain ⟨inner, hin⟩ : ∃ x, x = (slotsP p key).2.1 := ⟨_, rfl⟩
    have hsl : slotsP p key = ((i : Int), inner, true) := by rw [hin, ← hi, ← h3]
    have hpb : Bytes p := by rw [hp]; exact b_tk hb _
    have hpm : p.length ≤ 65536 := by rw [hp, List.length_take]; omega
    obtain ⟨Z, hZ⟩ : ∃ Z : Nat, leK ((p.drop 4).take 4) = (Z : Int) := Int.eq_ofNat_of_zero_le (leK_pos _ (b_cut hpb 4 4)).1
    have h6 := hok.2.2.2.2.2.2
    rw [hZ] at h6
    have hz : Z ≤ 65536 := by omega
    by_cases hR : inR (Z : Int) off n
    ·
     obtain ⟨o, rfl⟩ := Int.eq_ofNat_of_zero_le hR.1
     obtain ⟨m, rfl⟩ := Int.eq_ofNat_of_zero_le hR.2.1
     have hom : o + m ≤ Z := by have := hR.2.2; omega
     by_cases he : readErr p.length bd (128 + (o : Int)) (m : Int) = 0
     ·
      rcases Nat.eq_zero_or_pos m with hm | hm
      · exact lo_zero A0 c0 b A1 c1 bad key w hrb hcb hrl hcl hl hb p hp bd hbd hok hk i inner hsl Z hZ hz o m hom hm he
      · exact lo_ok A0 c0 b A1 c1 bad key w hrb hcb hrl hcl hl hb p hp bd hbd hok hk i inner hsl Z hZ hz o m hom hm he
     ·
      rcases Nat.eq_zero_or_pos m with hm | hm
      ·
       refine absurd ?_ he
       subst hm
       unfold readErr
       rw [if_pos (show inR (p.length : Int) (128 + (o : Int)) ((0 : Nat) : Int) from ⟨by omega, by omega, by omega⟩)]
       unfold hit
       simp
      · exact lo_bad A0 c0 b A1 c1 bad key w hrb hcb hrl hcl hl hb p hp bd hbd hok hk i inner hsl Z hZ hz o m hom hm he
    · exact lo_out A0 c0 b A1 c1 bad key off n w hrb hcb hrl hcl hl hb p hp bd hbd hok hk i inner hsl Z hZ hz hR
 · exact lo_no A0 c0 b A1 c1 bad key off n w hrb hcb hrl hcl hl hb p hp bd hbd hok
end Go.Proofs.YtagcaheopbmdiaaGreat.Pure
-- PRINTED BY print.sh 35421559b90ae4d0a3588c463048766b98c2df88dd9212a6774a882060cdf62d: not written by this session
-- PRINTED WORDS (module Derived/Print/Sized.lean): go-gate-2's, for the rows of laws over slices: an AI agent of Go's test side, Tue Nov 17 2026; no person has read it. Lean checks it.
namespace Go.Proofs.YtagcaheopbmdiaaGreatW.PrintWords
open Go.ChangeShapes Go.WideShapes
/-- A row's slice of whole numbers is no longer than its weight allows. -/
theorem sized_ints {H : Type} {enc : TypeId × Value → H} {P : Program} {W : World} {base : Nat} {spare : Nat → Bool} {held : Bool} {t e : TypeId} {k : IntKind} {a : Option Addr} {len cap : Nat} {d : DataW H} {ps : List MemPlace} {ts : List TypeId} {ds : List (DataW H)} {j : Nat}
  (hsz : (DataW.weightsEach P ts ds).all (· ≤ reachBytes) = true) (ht : ts[j]? = some t) (hd : ds[j]? = some d) (hu : P.underlying t = some (.slice e)) (he : P.underlying e = some (.int k)) (hc : P.cellsOf e = 1) {B : Nat} (hB : P.bytesOf e = B)
  (h : DataW.Trod enc P W base spare held t (.slice a len cap) d ps) : len * B ≤ 140737488351232 := by
 obtain ⟨fuel, hf⟩ := h
 rcases open_ints hu he hc hf with ⟨hcs, _⟩ | ⟨x, l, c, zs, hcs, _, hl, _, hz, hx, _, _⟩
 ·
  simp [Value.cells] at hcs
  obtain ⟨rfl, rfl, rfl⟩ := hcs
  simp
 ·
  simp [Value.cells] at hcs
  obtain ⟨rfl, rfl, rfl⟩ := hcs
  obtain ⟨hx, _⟩ := Prod.mk.inj hx
  subst hx
  have z := sized_slice hsz ht hd hu
  rw [hB] at z
  have hl2 : len ≤ zs.length := by
   rw [hz]
   split
   · exact hl
   · exact Nat.le_refl _
  have h1 : (lits (H := H) k (zs.take len)).length + (lits (H := H) k (zs.drop len)).length = zs.length := by
   simp [lits]
   omega
  rw [h1] at z
  exact Nat.le_trans (Nat.mul_le_mul_right _ hl2) z
end Go.Proofs.YtagcaheopbmdiaaGreatW.PrintWords
