/- The reference's members: in plain Lean, and what is known on the way. No condition. -/
import Derived.Test.YtdgkbpoljcndgaaPureArraySplitsM
namespace Go.Proofs.Ytdgkbpoljcndgaa.Pure
open Go Go.RowKit Go.Maps Go.Proofs.Ytdgkbpoljcndgaa.QArraySplits Go.Proofs.YtdgkbpoljcndgaaW.PrintWords Go.Proofs.YtdgkbpoljcndgaaW.PrintLast Go.Proofs.YtdgkbpoljcndgaaW.PrintMore Go.Proofs.Ytdgkbpoljcndgaa.ArrayPlain
set_option linter.unusedVariables false
set_option linter.unusedSimpArgs false
theorem chunks_len {k m c : Int} {l : Bool} (h : Good k m c l) : ∀ (e : Nat) (r : Int), ((chunksFrom k m l e r).length : Int) = e * widthOf k m
  | 0, r => by simp [chunksFrom]
  | e + 1, r => by
    have hw := width_pos h
    have h1 := (row_at h r 0 (by omega)).1
    unfold chunksFrom
    rw [List.length_append, List.length_map, Int.natCast_add, h1, chunks_len h e (r + 1), Int.natCast_add, Int.add_mul]
    omega
theorem odd_len (k m : Int) (l : Bool) : ∀ (e : Nat) (r : Int), (oddFrom k m l e r).length = e
  | 0, r => rfl
  | e + 1, r => by unfold oddFrom; rw [List.length_cons, odd_len k m l e (r + 1)]
theorem odd_at (k m : Int) (l : Bool) : ∀ (e n : Nat) (r : Int), n < e → (oddFrom k m l e r).getD n 0 = parOf k m l (r + n)
  | 0, n, r, h => absurd h (by omega)
  | e + 1, 0, r, h => by unfold oddFrom; simp
  | e + 1, n + 1, r, h => by
    unfold oddFrom
    rw [List.getD_cons_succ, odd_at k m l e n (r + 1) (by omega)]
    congr 1
    omega
/-- a member's row while the q-th chunk is laid onto it -/
def rowK (E : SE) (q mm k : Nat) : List Int :=
  if mm = E.x q ∨ E.mir = true then putAt (memb E q mm) (E.lo q) ((E.part q).take k) else if (mm : Int) = E.p q then xorAt (memb E q mm) (E.lo q) ((E.part q).take k) else memb E q mm
section
variable {E : SE}
theorem SE.Fits.order (h : E.Fits) : ∃ kq, wrackref1_Order.f kq E.k E.m E.c E.l (E.R : Int) = some (chunksFrom E.k E.m E.l E.R 0, oddFrom E.k E.m E.l E.R 0) := by
  have hn := h.nums
  have h2 : E.R ≤ E.n := Nat.le_mul_of_pos_right _ (by omega)
  have h3 : E.n ≤ E.n * E.M := Nat.le_mul_of_pos_right _ (by omega)
  have h4 := h.h2
  have := order_l0 h.good (E.R : Int) (by omega) E.R 0 [] [] (by omega) (by omega) (by simp; omega) (by simp; omega)
  have h5 : Ev (fun q => wrackref1_Order.f q E.k E.m E.c E.l (E.R : Int)) (chunksFrom E.k E.m E.l E.R 0, oddFrom E.k E.m E.l E.R 0) := by simpa [wrackref1_Order.f] using this
  exact h5.rounds
theorem SE.Fits.wide (h : E.Fits) : ∃ kq, wrackref1_Wide.f kq E.k E.m E.c E.l = some (E.W : Int) := by
  have hn := h.nums
  have := order_l0 h.good 1 (by omega) 1 0 [] [] (by omega) (by omega) (by simp) (by simp)
  have h5 : Ev (fun q => wrackref1_Order.f q E.k E.m E.c E.l 1) (chunksFrom E.k E.m E.l 1 0, oddFrom E.k E.m E.l 1 0) := by simpa [wrackref1_Order.f] using this
  obtain ⟨kq, hk⟩ := h5.rounds
  refine ⟨kq, ?_⟩
  unfold wrackref1_Wide.f
  rw [hk, Option.bind_some, chunks_len h.good 1 0, h.hW]
  simp
theorem SE.Fits.chunks (h : E.Fits) : (chunksFrom E.k E.m E.l E.R 0).length = E.Q := by
  have h1 := chunks_len h.good E.R 0
  rw [← h.hW, ← Int.natCast_mul] at h1
  exact Int.ofNat_inj.mp h1
theorem SE.Fits.chunk_at (h : E.Fits) {q : Nat} (hq : q < E.Q) : rd_T40 (chunksFrom E.k E.m E.l E.R 0) (q : Int) = ⟨(E.x q : Int), ((q / E.W : Nat) : Int)⟩ := by
  have h1 := (chunks_at h.good E.R 0 q (by rw [← h.hW, ← Int.natCast_mul]; exact Int.ofNat_lt.mpr hq)).2
  have h2 := (h.step_lt hq).2.1
  unfold SE.p at h2
  unfold rd_T40
  rw [Int.toNat_natCast]
  rw [show ((0 : Nat) : Int) = 0 from rfl] at h1
  rw [h1, h2, ← h.hW, Int.zero_add, Int.natCast_ediv, Int.natCast_emod]
theorem SE.Fits.odd_at (h : E.Fits) {q : Nat} (hq : q < E.Q) : rd (oddFrom E.k E.m E.l E.R 0) ((q / E.W : Nat) : Int) = E.p q := by
  have h1 := Pure.odd_at E.k E.m E.l E.R (q / E.W) 0 (h.row hq)
  unfold rd SE.p
  rw [Int.toNat_natCast, h1, Int.zero_add]
theorem SE.Fits.part_at (h : E.Fits) {q : Nat} (hq : q < E.Q) {k : Nat} (hk : k < E.C) : rd E.b ((q * E.C + k : Nat) : Int) = rd (E.part q) (k : Int) := by
  unfold rd SE.part
  rw [Int.toNat_natCast, Int.toNat_natCast, List.getD_eq_getElem?_getD, List.getD_eq_getElem?_getD, List.getElem?_take_of_lt hk, List.getElem?_drop]
theorem rowK_zero (q mm : Nat) : rowK E q mm 0 = memb E q mm := by
  unfold rowK
  rw [List.take_zero, putAt_nil, xorAt_nil]
  repeat' split
  all_goals rfl
theorem rowK_full (h : E.Fits) {q : Nat} (hq : q < E.Q) (mm : Nat) : rowK E q mm E.C = memb E (q + 1) mm := by
  unfold rowK
  rw [List.take_of_length_le (by rw [h.part_len hq]; exact Nat.le_refl _)]
  rfl
theorem SE.Fits.fit (h : E.Fits) {q : Nat} (hq : q < E.Q) (mm : Nat) : E.lo q + (E.part q).length ≤ (memb E q mm).length := by
  rw [h.part_len hq, h.memb_len q (by omega)]; exact h.lo_le hq
theorem rowK_put (h : E.Fits) {q : Nat} (hq : q < E.Q) {mm k : Nat} (hc : mm = E.x q ∨ E.mir = true) (hk : k < E.C) : (rowK E q mm k).set (E.lo q + k) (rd (E.part q) (k : Int)) = rowK E q mm (k + 1) := by
  unfold rowK
  rw [if_pos hc, if_pos hc]
  exact putAt_snoc (h.fit hq mm) (by rw [h.part_len hq]; exact hk)
theorem rowK_xor (h : E.Fits) {q : Nat} (hq : q < E.Q) {mm k : Nat} (hc : ¬ (mm = E.x q ∨ E.mir = true)) (hp : (mm : Int) = E.p q) (hk : k < E.C) :
    (rowK E q mm k).set (E.lo q + k) (bx (rd (rowK E q mm k) ((E.lo q + k : Nat) : Int)) (rd (E.part q) (k : Int))) = rowK E q mm (k + 1) := by
  have hl := h.part_len hq
  unfold rowK
  rw [if_neg hc, if_pos hp, if_neg hc, if_pos hp, xorAt_at (h.fit hq mm) (by omega)]
  exact xorAt_snoc (h.fit hq mm) (by omega)
theorem rowK_none {q mm k : Nat} (hc : ¬ (mm = E.x q ∨ E.mir = true)) (hp : (mm : Int) ≠ E.p q) : rowK E q mm k = rowK E q mm (k + 1) := by
  unfold rowK
  rw [if_neg hc, if_neg hp, if_neg hc, if_neg hp]
theorem rowK_len (h : E.Fits) {q : Nat} (hq : q < E.Q) {mm k : Nat} (hk : k ≤ E.C) : (rowK E q mm k).length = E.n := by
  have h1 := h.fit hq mm
  have h2 := h.part_len hq
  have h3 : ((E.part q).take k).length ≤ (E.part q).length := List.length_take_le' _ _
  unfold rowK
  repeat' split
  · rw [putAt_len (by omega)]; exact h.memb_len q (by omega) mm
  · rw [xorAt_len (by omega)]; exact h.memb_len q (by omega) mm
  · exact h.memb_len q (by omega) mm
end
/-- what is known while the reference lays chunks -/
structure MS (E : SE) (w0 w : World) (g cO : Nat) (V : Nat → Value) (f : Nat → List Int) (hs : Nat) (v0 v1 : Value) : Prop where
  mat : Mat w w0.heap.size g cO E.M E.M V f
  b : Below w0.heap.size w0 w
  box : w.heap[w0.heap.size]? = some (.cells #[.int .i64 E.k, .int .i64 E.m, .int .i64 E.c, .bool E.l] 31 (0, 0))
  ch : Kd.R k40 40 w w0.heap.size (fun k => hs ≤ k) v0 (chunksFrom E.k E.m E.l E.R 0)
  od : Kd.R (Kd.int .i64) 3 w w0.heap.size (fun k => hs ≤ k) v1 (oddFrom E.k E.m E.l E.R 0)
  old : ∀ i, i < E.M → ∀ q, (V i).ownBlock = some q → q < hs
section
variable {E : SE} {w0 w W : World} {g cO : Nat} {V : Nat → Value} {f f' : Nat → List Int} {hs : Nat} {v0 v1 : Value}
theorem MS.below (h : MS E w0 w g cO V f hs v0 v1) (hb : Below w.heap.size w W) : MS E w0 W g cO V f hs v0 v1 :=
  ⟨h.mat.below hb, below_step h.b hb, blk_below h.box hb, Kd.R_below h.ch hb, Kd.R_below h.od hb, h.old⟩
theorem MS.drew (h : MS E w0 w g cO V f hs v0 v1) : MS E w0 w.drew g cO V f hs v0 v1 := h.below (below_drew (Below.refl _ _))
theorem MS.congr (h : MS E w0 w g cO V f hs v0 v1) (he : ∀ i, i < E.M → f i = f' i) : MS E w0 w g cO V f' hs v0 v1 := ⟨h.mat.congr he, h.b, h.box, h.ch, h.od, h.old⟩
theorem MS.set (h : MS E w0 w g cO V f hs v0 v1) {i gi n ci : Nat} (hi : i < E.M) (hv : V i = .slice (some ⟨gi, 0, none⟩) n ci) (j : Nat) (x : Int) : MS E w0 (w.setCell ⟨gi, j, none⟩ (.int .u8 x)) g cO V (upd f i ((f i).set j x)) hs v0 v1 := by
  have hR := h.mat.rows i hi
  have hvo : (V i).ownBlock = some gi := by rw [hv]; rfl
  have hR2 := hR
  rw [hv] at hR2
  have hp := Kd.R_putg (enc := Value.int .u8) (h1 := fun _ => rfl) hR2 (j : Int) x
  rw [Int.toNat_natCast] at hp
  have hgi : gi < hs := h.old i hi gi hvo
  refine ⟨h.mat.put hi hvo hp.2 ?_, h.b.setCell (p := ⟨gi, j, none⟩) (Kd.R_base hR gi hvo) _, blk_grown h.box hp.2 (fun he => h.mat.far hi hvo h.box (by decide) (Option.some.inj he)), Kd.R_grown h.ch hp.2 (fun k hk he => by injection he with he; omega), Kd.R_grown h.od hp.2 (fun k hk he => by injection he with he; omega), h.old⟩
  rw [hv]
  exact hp.1
end
end Go.Proofs.Ytdgkbpoljcndgaa.Pure
