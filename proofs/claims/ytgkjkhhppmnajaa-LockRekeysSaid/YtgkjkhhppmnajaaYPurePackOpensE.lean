/- The reference's model of an image. No condition. -/
import Derived.Test.YtgkjkhhppmnajaaYPurePackOpensD
import Derived.Outline
namespace Go.Proofs.Ytgkjkhhppmnajaa.Pure
open Go Go.RowKit Go.Maps Go.Proofs.Ytgkjkhhppmnajaa.QPackOpens Go.Proofs.YtgkjkhhppmnajaaW.PrintWords Go.Proofs.YtgkjkhhppmnajaaW.PrintLast Go.Proofs.YtgkjkhhppmnajaaW.PrintMore
set_option linter.unusedVariables false
set_option linter.unusedSimpArgs false
/-- the reference's model while it is made -/
structure IM (w0 w : World) (rb mb : Nat) (A0 : Option Addr) (n c0 : Nat) (vF vB vM : Value) (fl : List Int) (bl ml : List Bool) : Prop where
 b : Below w0.heap.size w0 w
 r : w.heap[rb]? = some (.cells #[.slice none 0 0, .slice none 0 0, .slice none 0 0] 29 (0, 0))
 m : w.heap[mb]? = some (.cells #[.slice A0 n c0, vF, vB] 29 (0, 0))
 F : (Kd.int .i64).R 3 w w0.heap.size (fun k => some k = vF.ownBlock) vF fl
 B : Kd.bool.R 4 w w0.heap.size (fun k => some k = vB.ownBlock) vB bl
 M : Kd.bool.R 4 w w0.heap.size (fun k => some k = vM.ownBlock) vM ml
 apart : ∀ q, vB.ownBlock = some q → vM.ownBlock ≠ some q
 le : w0.heap.size ≤ rb ∧ w0.heap.size ≤ mb ∧ rb ≠ mb
section
variable {w0 w W : World} {rb mb : Nat} {A0 : Option Addr} {n c0 : Nat} {vF vB vM : Value} {fl : List Int} {bl ml : List Bool}
theorem IM.step (h : IM w0 w rb mb A0 n c0 vF vB vM fl bl ml) (hb : Below w0.heap.size w0 W) (hr : W.heap[rb]? = w.heap[rb]?) (hm : W.heap[mb]? = w.heap[mb]?) (hF : ∀ q, vF.ownBlock = some q → W.heap[q]? = w.heap[q]?) (hB : ∀ q, vB.ownBlock = some q → W.heap[q]? = w.heap[q]?) (hM : ∀ q, vM.ownBlock = some q → W.heap[q]? = w.heap[q]?) : IM w0 W rb mb A0 n c0 vF vB vM fl bl ml :=
 ⟨hb, hr.trans h.r, hm.trans h.m, Kd.R_move h.F fun q hq => hF q hq.symm, Kd.R_move h.B fun q hq => hB q hq.symm, Kd.R_move h.M fun q hq => hM q hq.symm, h.apart, h.le⟩
theorem IM.below (h : IM w0 w rb mb A0 n c0 vF vB vM fl bl ml) (hb : Below w.heap.size w W) : IM w0 W rb mb A0 n c0 vF vB vM fl bl ml :=
 h.step (below_step h.b hb) (hb.block _ (blk_lt h.r)) (hb.block _ (blk_lt h.m)) (fun q hq => hb.block q (Kd.R_lt h.F q hq)) (fun q hq => hb.block q (Kd.R_lt h.B q hq)) (fun q hq => hb.block q (Kd.R_lt h.M q hq))
theorem IM.drew (h : IM w0 w rb mb A0 n c0 vF vB vM fl bl ml) : IM w0 w.drew rb mb A0 n c0 vF vB vM fl bl ml := h.below (below_drew (Below.refl _ _))
end
end Go.Proofs.Ytgkjkhhppmnajaa.Pure
