/- Packed layers: the law. No condition. -/
import Derived.Test.YtgkjkhhppmnajaaZPurePackOpensS
import Derived.Test.YtgkjkhhppmnajaaZPurePackOpensT
import Derived.Test.YtgkjkhhppmnajaaZPurePackOpensV
namespace Go.Proofs.Ytgkjkhhppmnajaa.Pure
open Go.Proofs.Ytgkjkhhppmnajaa.SumPlain Go.Maps
open Go Go.RowKit Go.Proofs.Ytgkjkhhppmnajaa.QPackOpens Go.Proofs.YtgkjkhhppmnajaaW.PrintWords Go.Proofs.YtgkjkhhppmnajaaW.PrintLast Go.Proofs.YtgkjkhhppmnajaaW.PrintMore
set_option linter.unusedVariables false
set_option linter.unusedSimpArgs false
/-- all bytes, bad spans and ranges -/
theorem po_main (A0 : Option Addr) (c0 : Nat) (b : List Int) (A1 : Option Addr) (c1 : Nat) (bad : List S45) (off n : Int) (w : World) (hrb : Kd.C (Kd.int .u8) w A0 b.length b) (hcb : b.length ≤ c0) (hrl : Kd.C k45 w A1 bad.length bad) (hcl : bad.length ≤ c1) (hl : bad.length * 16 ≤ 140737488351232) (hb : Bytes b) :
  Calls Try.prog 3 #[.slice A0 b.length c0, .slice A1 bad.length c1, .int .i64 off, .int .i64 n] w fun e w' => e = .returned (.bool true) ∧ Below w.heap.size w w' := by
 obtain ⟨p, hp⟩ : ∃ p, p = b.take (min b.length 65536) := ⟨_, rfl⟩
 obtain ⟨bd, hbd⟩ : ∃ d, d = badOf p.length bad := ⟨_, rfl⟩
 cases hk : pkOpen p bd with
 | none => exact po_none A0 c0 b A1 c1 bad off n w hrb hcb hrl hcl hl hb p hp bd hbd hk
 | some q =>
  obtain ⟨size, l⟩ := q
  have hs := (pk_says p bd (by rw [hp]; exact b_tk hb _) (by rw [hp, List.length_take]; omega) size l hk).1
  by_cases hR : inR (size : Int) off n
  ·
   by_cases hn0 : n = 0
   ·
    subst hn0
    exact po_zero A0 c0 b A1 c1 bad off w hrb hcb hrl hcl hl hb p hp bd hbd size l hk hs hR
   ·
    obtain ⟨o, rfl⟩ := Int.eq_ofNat_of_zero_le hR.1
    obtain ⟨m, rfl⟩ := Int.eq_ofNat_of_zero_le hR.2.1
    exact po_in A0 c0 b A1 c1 bad o m w hrb hcb hrl hcl hl hb p hp bd hbd size l hk hs (by omega) (by unfold inR at hR; omega)
  · exact po_out A0 c0 b A1 c1 bad off n w hrb hcb hrl hcl hl hb p hp bd hbd size l hk hs hR
end Go.Proofs.Ytgkjkhhppmnajaa.Pure
