/- Packed layers: a fact. No condition. -/
import Derived.Test.YtgkjkhhppmnajaaZPurePackOpensI
import Derived.Lib.Bytes
import Derived.Lib.Repeat
import Derived.Lib.EndianBits
namespace Go.Proofs.Ytgkjkhhppmnajaa.Pure
open Go.Proofs.Ytgkjkhhppmnajaa.SumPlain Go.Maps
open Go Go.RowKit Go.Proofs.Ytgkjkhhppmnajaa.QPackOpens Go.Proofs.YtgkjkhhppmnajaaW.PrintWords Go.Proofs.YtgkjkhhppmnajaaW.PrintLast Go.Proofs.YtgkjkhhppmnajaaW.PrintMore
set_option linter.unusedVariables false
set_option linter.unusedSimpArgs false
set_option maxHeartbeats 4000000 in
set_option maxRecDepth 100000 in
/-- the fact on packed bytes -/
theorem packs_calls (w : World) : Calls Try.prog 8 #[] w fun e w' => e = .returned (.bool true) ∧ Below w.heap.size w w' := by
 have hF : pack_Unpack.f 40 [130, 7] 5 = some ([7, 7, 7, 7, 7], 0) := by decide +kernel
 have hss : strOfNums [7, 7, 7, 7, 7] = ⟨#[7, 7, 7, 7, 7]⟩ := by decide
 have HF := Aside0.mk hF
 have HB := Aside0.mk (Below.refl w.heap.size w)
 clear hF
 go_enter Try.func8, Try.ntmps8
 go_wp2_with (first
  | ((with_reducible refine gate_dst (N:=4) rfl ?_); refine Kd.R_lit (Kd.int .u8) (w0 := w) w.heap.size 5 ?hg (N:=4) ?hd (xs := ([130, 7] : List Int)) (inner := [.int .u8 130, .int .u8 7]) (ok := fun _ => True) (okp := fun _ => True) ?hr ?hp (fun _ hk => hk) trivial HB.out HB.out.size (by simp) ?_; (case hd => rfl); (case hg => rfl); (case hr => first | (go_simp; done) | (go_simp; rfl)); (case hp => exact ⟨rfl, fun j p hj => by match j, hj with | 0, hj => (obtain rfl := Option.some.inj hj; rfl) | 1, hj => (obtain rfl := Option.some.inj hj; rfl)⟩); intro vF w2 hF2 hB2 hG2 hn2_; obtain ⟨AF, cF, eF⟩ := Kd.R_slice hF2; rw [show ([130, 7] : List Int).length = 2 from rfl] at eF; subst eF; have HF2 := Aside0.mk hF2; have HB2 := Aside0.mk hB2; clear hF2 hB2 hG2 hn2_)
  | (go_at_call 37; refine (pack_Unpack.calls 40 (fun _ => True) AF cF [130, 7] 5 [7, 7, 7, 7, 7] 0 _ (Kd.R_V HF2.out) HF.out).mono ?_; rintro e w3 ⟨v3, rfl, hv3, hb3⟩; obtain ⟨A3, c3, e3⟩ := Kd.R_slice hv3; rw [show ([7, 7, 7, 7, 7] : List Int).length = 5 from rfl] at e3; subst e3; have HB3 := Aside0.mk (below_step HB2.out hb3); have hcv : (convert 22 9 (.slice A3 5 c3)).run Try.prog w3 = .ok (.string ⟨#[7, 7, 7, 7, 7]⟩) w3 := (Kd.C_string (P := Try.prog) (c := c3) (xs := [7, 7, 7, 7, 7]) Try.underlying22 Try.underlying5 Try.underlying9 (Kd.R_reads' hv3).2.2).trans (by rw [hss]); clear hv3 hb3)
  | (go_at_call 38; refine (sources_calls _).mono ?_; rintro e w4 ⟨rfl, hb4⟩; have HB4 := Aside0.mk (below_step HB3.out hb4); clear hb4))
 go_ret
 exact ⟨rfl, HB4.out⟩
end Go.Proofs.Ytgkjkhhppmnajaa.Pure
