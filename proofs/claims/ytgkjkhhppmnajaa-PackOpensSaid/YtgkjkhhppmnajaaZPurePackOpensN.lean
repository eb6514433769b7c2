/- Packed layers: what the reference reads of one. No condition. -/
import Derived.Test.YtgkjkhhppmnajaaZPurePackOpensL
import Derived.Lib.Bytes
import Derived.Lib.Repeat
import Derived.Lib.EndianBits
namespace Go.Proofs.Ytgkjkhhppmnajaa.Pure
open Go.Proofs.Ytgkjkhhppmnajaa.SumPlain Go.Maps
open Go Go.RowKit Go.Proofs.Ytgkjkhhppmnajaa.QPackOpens Go.Proofs.YtgkjkhhppmnajaaW.PrintWords Go.Proofs.YtgkjkhhppmnajaaW.PrintLast Go.Proofs.YtgkjkhhppmnajaaW.PrintMore
set_option linter.unusedVariables false
set_option linter.unusedSimpArgs false
/-- where the reference reads a packed layer: its result's block, its own struct's, the units, the index -/
structure PO (w0 w : World) (rb pb : Nat) (Z hd : Int) (vc v vX : Value) (l : List S45) (IX : List Int) : Prop where
 b : Below w0.heap.size w0 w
 r : w.heap[rb]? = some (.cells #[.int .i64 0, .int .i64 0, .slice none 0 0] 37 (0, 0))
 p : w.heap[pb]? = some (.cells #[.int .i64 Z, .int .i64 hd, vc] 37 (0, 0))
 u : k45.R 45 w w0.heap.size (fun _ => True) v l
 x : (Kd.int .u8).R 5 w w0.heap.size (fun _ => True) vX IX
 le : w0.heap.size ≤ rb ∧ w0.heap.size ≤ pb ∧ rb ≠ pb
section
variable {w0 w W : World} {rb pb : Nat} {Z hd : Int} {vc v vX : Value} {l : List S45} {IX : List Int}
theorem PO.below (h : PO w0 w rb pb Z hd vc v vX l IX) (hb : Below w.heap.size w W) : PO w0 W rb pb Z hd vc v vX l IX :=
 ⟨below_step h.b hb, blk_below h.r hb, blk_below h.p hb, Kd.R_below h.u hb, Kd.R_below h.x hb, h.le⟩
theorem PO.head (h : PO w0 w rb pb Z hd vc v vX l IX) (hd' : Int) : PO w0 (w.setCell ⟨pb, 1, none⟩ (.int .i64 hd')) rb pb Z hd' vc v vX l IX :=
 ⟨h.b.setCell h.le.2.1 (p := ⟨pb, 1, none⟩) _, blk_far h.r (p := ⟨pb, 1, none⟩) h.le.2.2 _, blk_put h.p 1 _ rfl,
 Kd.R_mono (Kd.R_far (p := ⟨pb, 1, none⟩) (Kd.R_types h.u h.p (by decide)) (fun x hx => hx.2) _) (fun _ hx => hx.1),
 Kd.R_mono (Kd.R_far (p := ⟨pb, 1, none⟩) (Kd.R_types h.x h.p (by decide)) (fun x hx => hx.2) _) (fun _ hx => hx.1), h.le⟩
theorem PO.put (h : PO w0 w rb pb Z hd vc v vX l IX) : PO w0 (w.setCell ⟨pb, 2, none⟩ v) rb pb Z hd v v vX l IX :=
 ⟨h.b.setCell h.le.2.1 (p := ⟨pb, 2, none⟩) _, blk_far h.r (p := ⟨pb, 2, none⟩) h.le.2.2 _, blk_put h.p 2 _ rfl,
 Kd.R_mono (Kd.R_far (p := ⟨pb, 2, none⟩) (Kd.R_types h.u h.p (by decide)) (fun x hx => hx.2) _) (fun _ hx => hx.1),
 Kd.R_mono (Kd.R_far (p := ⟨pb, 2, none⟩) (Kd.R_types h.x h.p (by decide)) (fun x hx => hx.2) _) (fun _ hx => hx.1), h.le⟩
theorem PO.app (h : PO w0 w rb pb Z hd vc v vX l IX) {v' : Value} {l' : List S45} (hB : Below w0.heap.size w0 W) (hR : k45.R 45 W w0.heap.size (fun _ => True) v' l') (hg : w.grownBy W v.ownBlock) : PO w0 W rb pb Z hd vc v' vX l' IX :=
 have ht := fun k hk => Kd.R_typed h.u k hk
 ⟨hB, blk_grown h.r hg (fun he => (typed_ne ⟨_, h.r⟩ (ht _ he.symm) (by decide)) rfl), blk_grown h.p hg (fun he => (typed_ne ⟨_, h.p⟩ (ht _ he.symm) (by decide)) rfl), hR, Kd.R_over' h.x ht (by decide) hg, h.le⟩
end
end Go.Proofs.Ytgkjkhhppmnajaa.Pure
