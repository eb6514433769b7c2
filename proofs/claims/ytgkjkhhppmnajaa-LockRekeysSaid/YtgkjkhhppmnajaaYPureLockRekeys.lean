/- The law LockRekeys. No condition. -/
import Derived.Test.YtgkjkhhppmnajaaYPureLockRekeysJ
namespace Go.Proofs.Ytgkjkhhppmnajaa.Lk
open Go Go.RowKit Go.Proofs.Ytgkjkhhppmnajaa.QLockRekeys Go.Proofs.YtgkjkhhppmnajaaW.PrintWords Go.Proofs.YtgkjkhhppmnajaaW.PrintLast Go.Proofs.YtgkjkhhppmnajaaW.PrintMore Go.Proofs.Ytgkjkhhppmnajaa.SumPlain
set_option linter.unusedVariables false
set_option linter.unusedSimpArgs false
/-- all bytes, keys and numbers -/
theorem lk_main (A0 : Option Addr) (c0 : Nat) (b : List Int) (old key : ByteArray) (seed : Int) (w : World) (hC : Kd.C (Kd.int .u8) w A0 b.length b) (hc0 : b.length ≤ c0) (hl : b.length ≤ 140737488351232) (hb : Bytes b) :
  Calls Try.prog 6 #[.slice A0 b.length c0, .string old, .string key, .int .i64 seed] w fun e w' => e = .returned (.bool true) ∧ Below w.heap.size w w' := by
 by_cases hf : formOk b
 ·
  by_cases h2 : b.length ≤ 65536
  ·
   cases n1 : nameP old with
   | false => exact lk_f3 A0 c0 b old key seed w hC hc0 hl hb hf h2 n1
   | true =>
    cases n2 : nameP key with
    | false => exact lk_f4 A0 c0 b old key seed w hC hc0 hl hb hf h2 n1 n2
    | true =>
     obtain ⟨i1, inner, p1, ho⟩ : ∃ i1 inner p1, slotsP b old = (i1, inner, p1) := ⟨_, _, _, rfl⟩
     obtain ⟨i2, inn2, p2, ht⟩ : ∃ i1 inner p1, slotsP b key = (i1, inner, p1) := ⟨_, _, _, rfl⟩
     cases p1 with
     | false => exact lk_f5 A0 c0 b old key seed w hC hc0 hl hb hf h2 n1 n2 i1 inner ho
     | true =>
      cases p2 with
      | true => exact lk_f6 A0 c0 b old key seed w hC hc0 hl hb hf h2 n1 n2 i1 inner i2 inn2 ho ht
      | false =>
       obtain ⟨i, hi, hi4⟩ := slots_at b hf old (by rw [ho])
       rw [ho] at hi
       simp only at hi
       subst hi
       exact lk_ok A0 c0 b old key seed w hC hc0 hl hb hf h2 n1 n2 i inner i2 inn2 ho ht hi4
  · exact lk_f2 A0 c0 b old key seed w hC hc0 hl hb hf (by omega)
 · exact lk_f1 A0 c0 b old key seed w hC hc0 hl hb hf
end Go.Proofs.Ytgkjkhhppmnajaa.Lk
