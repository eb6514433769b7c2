/- The members of bytes: the program's. No condition. -/
import Derived.Test.YtdgkbpoljcndgaaPureArraySplitsM
import Derived.Outline
namespace Go.Proofs.Ytdgkbpoljcndgaa.Pure
open Go Go.RowKit Go.Maps Go.Proofs.Ytdgkbpoljcndgaa.QArraySplits Go.Proofs.YtdgkbpoljcndgaaW.PrintWords Go.Proofs.YtdgkbpoljcndgaaW.PrintLast Go.Proofs.YtdgkbpoljcndgaaW.PrintMore Go.Proofs.Ytdgkbpoljcndgaa.ArrayPlain
set_option linter.unusedVariables false
set_option linter.unusedSimpArgs false
theorem width_val {k m c : Int} {l : Bool} (h : Good k m c l) : array_width.f k m c l = some (widthOf k m) := by
  unfold Good at h
  unfold array_width.f widthOf
  rw [show wrap64 (m - 1) = m - 1 by unfold wrap64; omega]
  repeat' split
  all_goals first | rfl | omega
theorem chunk_val {k m c : Int} {l : Bool} (h : Good k m c l) : array_chunk.f k m c l = some (64 * c) := by
  unfold Good at h
  unfold array_chunk.f
  rw [show wrap64 (c * 64) = 64 * c by unfold wrap64; omega]
theorem odd_val {k m c : Int} {l : Bool} (h : Good k m c l) (r : Int) (h0 : 0 ≤ r) : array_odd.f k m c l r = some (parOf k m l r) := by
  unfold Good at h
  unfold array_odd.f parOf
  have ht : Int.tmod r m = r % m := Int.tmod_eq_emod_of_nonneg h0
  have hx1 := Int.emod_nonneg r (show m ≠ 0 by omega)
  have hx2 := Int.emod_lt_of_pos r (show 0 < m by omega)
  rw [ht, show wrap64 (wrap64 (m - 1) - r % m) = m - 1 - r % m by unfold wrap64; omega]
  repeat' split
  all_goals first | rfl | omega
section
variable {E : SE}
theorem SE.Fits.place (h : E.Fits) {q : Nat} (hq : q < E.Q) : array_place.f E.k E.m E.c E.l ((q * E.C : Nat) : Int) = some ((E.x q : Int), (E.lo q : Int)) := by
  have hn := h.nums
  have ha := h.at_le hq
  have h1 := h.h1
  have hd : ((q * E.C : Nat) : Int) / (64 * E.c) = (q : Int) := by
    rw [← h.hC, Int.natCast_mul]; exact Int.mul_ediv_cancel _ (by omega)
  have hm : ((q * E.C : Nat) : Int) % (64 * E.c) = 0 := by
    rw [← h.hC, Int.natCast_mul]; exact Int.mul_emod_left _ _
  rw [place_val h.good _ (by omega) (by omega), hd, hm, ← h.hW, ← h.hC, (h.step_lt hq).2.1]
  unfold SE.p SE.lo
  rw [Int.add_zero, Int.natCast_mul, Int.natCast_ediv, Int.natCast_emod]
theorem SE.Fits.lo_div (h : E.Fits) {q : Nat} (hq : q < E.Q) : array_odd.f E.k E.m E.c E.l (wrap64 ((E.lo q : Int) / (E.C : Int))) = some (E.p q) := by
  have hn := h.nums
  have h1 := h.row hq
  have h2 : E.R ≤ E.n := Nat.le_mul_of_pos_right _ (by omega)
  have h3 : E.n ≤ E.n * E.M := Nat.le_mul_of_pos_right _ (by omega)
  have h4 := h.h2
  have e : (E.lo q : Int) / (E.C : Int) = ((q / E.W : Nat) : Int) := by
    unfold SE.lo; rw [Int.natCast_mul]; exact Int.mul_ediv_cancel _ (by omega)
  rw [e]
  unfold SE.p
  generalize q / E.W = r at h1
  rw [show wrap64 (r : Int) = (r : Int) by unfold wrap64; omega]
  exact odd_val h.good _ (by omega)
end
set_option maxHeartbeats 16000000 in
set_option maxRecDepth 100000 in
/-- bytes and an array that fit -/
theorem split_ok (E : SE) (hE : E.Fits) (A0 : Option Addr) (c0 : Nat) (w : World) (he : arrErrOf E.k E.m E.c E.l = 0) (hr0 : Kd.C (Kd.int .u8) w A0 E.b.length E.b) (hc0 : E.b.length ≤ c0) :
    Calls Try.prog 48 #[.slice A0 E.b.length c0, .agg #[.int .i64 E.k, .int .i64 E.m, .int .i64 E.c, .bool E.l]] w fun e w' => ∃ g cO, e = .returned (.tuple #[.slice (some ⟨g, 0, none⟩) E.M cO, .int .i64 0]) ∧ E.M ≤ cO ∧
      Kd.C (Kd.slice 5 (Kd.int .u8)) w' (some ⟨g, 0, none⟩) E.M ((List.range E.M).map (memb E E.Q)) ∧ Below w.heap.size w w' := by
  have hn := hE.nums
  have hlen := hE.h1
  have hck : Aside0 (array_Check.f 3 E.k E.m E.c E.l = some 0) := ⟨(check_val 0 E.k E.m E.c E.l).trans (by rw [he])⟩
  have hch : Aside0 (array_chunk.f E.k E.m E.c E.l = some (E.C : Int)) := ⟨by rw [chunk_val hE.good, hE.hC]⟩
  have hwd : Aside0 (array_width.f E.k E.m E.c E.l = some (E.W : Int)) := ⟨by rw [width_val hE.good, hE.hW]⟩
  have hu31 := Try.underlying31
  have HR0 := Aside0.mk hr0
  have HC0 := Aside0.mk hc0
  have HE := Aside0.mk hE
  obtain ⟨len, hl⟩ : ∃ x, x = E.b.length := ⟨_, rfl⟩
  have HL := Aside0.mk hl
  rw [← hl] at hr0 hc0 hlen HR0 HC0 ⊢
  obtain ⟨RW, hRW⟩ : ∃ x, x = E.C * E.W := ⟨_, rfl⟩
  have hrw1 : wrap64 ((E.C : Int) * (E.W : Int)) = (RW : Int) := by
    have h2 : E.C * E.W ≤ 1024 * 8 := Nat.mul_le_mul hn.2.1 hn.2.2.2.1
    rw [← Int.natCast_mul, ← hRW]; unfold wrap64; omega
  have hpos : 0 < RW := by rw [hRW]; exact Nat.mul_pos (by omega) (by omega)
  have hmod : len % RW = 0 := by rw [hl, hE.hb, hRW, Nat.mul_comm E.C E.W]; exact Nat.mul_mod_left _ _
  have hmd : (((len : Int) % (RW : Int)) != 0) = false := by
    have : (len : Int) % (RW : Int) = 0 := by rw [← Int.natCast_emod, hmod]; rfl
    rw [this]; rfl
  have hM := hE.hM
  obtain ⟨n, hnn⟩ : ∃ x, x = E.n := ⟨_, rfl⟩
  have hq : (len : Int) / (E.W : Int) = (n : Int) := by
    rw [hl, hE.hb, hnn, SE.n, ← Int.natCast_ediv, show E.R * (E.W * E.C) = E.R * E.C * E.W by rw [Nat.mul_comm E.W, Nat.mul_assoc], Nat.mul_div_cancel _ (by omega)]
  have hqt : wrap64 ((len : Int) / (E.W : Int)) = (n : Int) := by
    have h3 : E.n ≤ E.n * E.M := Nat.le_mul_of_pos_right _ (by omega)
    rw [hq]; have := hE.h2; unfold wrap64; omega
  obtain ⟨nm, hnme⟩ : ∃ x, x = E.n * E.M := ⟨_, rfl⟩
  have hnmb : nm ≤ 65536 := by rw [hnme]; exact hE.h2
  have hnm : wrap64 ((n : Int) * E.m) = (nm : Int) := by
    rw [← hM, ← Int.natCast_mul, hnn, ← hnme]; unfold wrap64; omega
  have hn2 : n ≤ 65536 := by
    have h3 : E.n ≤ E.n * E.M := Nat.le_mul_of_pos_right _ (by omega)
    rw [hnn]; exact Nat.le_trans h3 hE.h2
  have h66 : decide ((65536 : Int) < (nm : Int)) = false := decide_eq_false (by omega)
  have hw0 : ((E.W : Int) == 0) = false := beq_eq_false_iff_ne.mpr (by omega)
  have hw1 : ¬ (E.W = 0) := by omega
  replace hq := Aside0.mk hq
  replace hqt := Aside0.mk hqt
  replace hnm := Aside0.mk hnm
  clear hnme
  replace hM := Aside0.mk hM
  replace hnn := Aside0.mk hnn
  have h65 : decide ((65536 : Int) < (len : Int)) = false := decide_eq_false (by omega)
  have hB := Aside0.mk (below_alloc (Below.refl w.heap.size w) (.cells #[.int .i64 E.k, .int .i64 E.m, .int .i64 E.c, .bool E.l] 31))
  have hA := Aside0.mk (blk_new w (.cells #[.int .i64 E.k, .int .i64 E.m, .int .i64 E.c, .bool E.l] 31))
  have HRW := Aside0.mk hRW
  have HRW1 := Aside0.mk hrw1
  have HMOD := Aside0.mk hmod
  clear hr0 hc0 hE hl hRW hrw1 hmod he
  go_enter Try.func48, Try.ntmps48
  go_wp2_with (first
    | (go_at_call 25; refine (array_Check.calls 3 E.k E.m E.c E.l 0 _ hck.out).mono ?_; rintro e w1 ⟨rfl, hb1⟩; have hB1 := Aside0.mk (below_step hB.out hb1); have hA1 := Aside0.mk (blk_below hA.out hb1); clear hb1 hB hA))
  have q0 : w1.drew.cell? ⟨w.heap.size, 0, none⟩ = some (.int .i64 E.k) := (blk_cell (blk_drew hA1.out) 0).trans rfl
  have q1 : w1.drew.cell? ⟨w.heap.size, 1, none⟩ = some (.int .i64 E.m) := (blk_cell (blk_drew hA1.out) 1).trans rfl
  have q2 : w1.drew.cell? ⟨w.heap.size, 2, none⟩ = some (.int .i64 E.c) := (blk_cell (blk_drew hA1.out) 2).trans rfl
  have q3 : w1.drew.cell? ⟨w.heap.size, 3, none⟩ = some (.bool E.l) := (blk_cell (blk_drew hA1.out) 3).trans rfl
  have hBD := Aside0.mk (below_drew hB1.out)
  have hAD := Aside0.mk (blk_drew hA1.out)
  clear hB1 hA1
  refine start_ (n := 6) (S := fun w' => w'.cell? ⟨w.heap.size, 0, none⟩ = some (.int .i64 E.k) ∧ w'.cell? ⟨w.heap.size, 1, none⟩ = some (.int .i64 E.m) ∧ w'.cell? ⟨w.heap.size, 2, none⟩ = some (.int .i64 E.c) ∧ w'.cell? ⟨w.heap.size, 3, none⟩ = some (.bool E.l)) (ds := []) #[false, false, false, false, false, false] (by kernel_rfl) rfl rfl ⟨q0, q1, q2, q3⟩ (fun hHeld => ?_)
  generalize w1.drew = wD at q0 q1 q2 q3 hBD hAD hHeld ⊢
  refine take_ (i := 0) (N := some 21) (v := ?_) (a' := ?_) #[true, false, false, false, false, false] rfl rfl (by kernel_rfl) (fun _ _ _ h => h) (Or.inl ⟨by rfl, ?_⟩) hHeld ?_ ?_
  rotate_left
  · rintro w' ⟨s0, s1, s2, s3⟩
    go_simp
    with_reducible rfl
  rotate_left
  · simp only [Act.put, List.setIfInBounds_toArray, List.set_cons_zero, List.set_cons_succ, i64_w, i32_w]
    rfl
  refine take_ (i := 2) (N := some 23) (v := ?_) (a' := ?_) #[true, false, true, false, false, false] rfl rfl (by kernel_rfl) (fun _ _ _ h => h) (Or.inl ⟨by rfl, ?_⟩) hHeld ?_ ?_
  rotate_left
  · rintro w' ⟨s0, s1, s2, s3⟩
    go_simp
    with_reducible rfl
  rotate_left
  · simp only [Act.put, List.setIfInBounds_toArray, List.set_cons_zero, List.set_cons_succ, i64_w, i32_w]
    rfl
  refine one_ (i := 1) (N := some 22) #[true, true, true, false, false, false] rfl rfl (by kernel_rfl) (by decide) (fun K hK => ?_)
  refine goes_ Try.func88 (by kernel_rfl) rfl #[.agg #[.int .i64 E.k, .int .i64 E.m, .int .i64 E.c, .bool E.l]] (by rfl) rfl rfl (by simp only [List.map_toArray, List.map_cons, List.map_nil]; rfl) ?_
  with_reducible refine (array_chunk.calls E.k E.m E.c E.l (E.C : Int) _ hch.out).mono ?_
  rintro e wC0 ⟨rfl, hb0⟩
  refine ⟨_, rfl, ?_⟩
  refine hK.out _ _ ⟨pw_cell_below hb0 q0, pw_cell_below hb0 q1, pw_cell_below hb0 q2, pw_cell_below hb0 q3⟩ (fun hHeld => ?_)
  clear hK K
  refine norm_ (a' := ?_) ?_ ?_
  rotate_left
  · show Act.put _ (some 22) _ = _
    simp only [Act.put, List.setIfInBounds_toArray, List.set_cons_zero, List.set_cons_succ, i64_w, i32_w]
    rfl
  refine one_ (i := 3) (N := some 24) #[true, true, true, true, false, false] rfl rfl (by kernel_rfl) (by decide) (fun K hK => ?_)
  refine goes_ Try.func89 (by kernel_rfl) rfl #[.agg #[.int .i64 E.k, .int .i64 E.m, .int .i64 E.c, .bool E.l]] (by rfl) rfl rfl (by simp only [List.map_toArray, List.map_cons, List.map_nil]; rfl) ?_
  with_reducible refine (array_width.calls E.k E.m E.c E.l (E.W : Int) _ hwd.out).mono ?_
  rintro e wC1 ⟨rfl, hb1⟩
  refine ⟨_, rfl, ?_⟩
  refine hK.out _ _ ⟨pw_cell_below (below_step hb0 hb1) q0, pw_cell_below (below_step hb0 hb1) q1, pw_cell_below (below_step hb0 hb1) q2, pw_cell_below (below_step hb0 hb1) q3⟩ (fun hHeld => ?_)
  clear hK K
  refine norm_ (a' := ?_) ?_ ?_
  rotate_left
  · show Act.put _ (some 24) _ = _
    simp only [Act.put, List.setIfInBounds_toArray, List.set_cons_zero, List.set_cons_succ, i64_w, i32_w]
    rfl
  refine pure_ (i := 4) (N := some 25) (v := ?_) (a' := ?_) #[true, true, true, true, true, false] rfl rfl (by kernel_rfl) (fun _ _ _ h => h) (Or.inl ⟨by rfl, ?_⟩) ?_ ?_
  rotate_left
  · intro w'
    go_simp
    with_reducible rfl
  rotate_left
  · simp only [Act.put, List.setIfInBounds_toArray, List.set_cons_zero, List.set_cons_succ, i64_w, i32_w]
    rfl
  refine pure_ (i := 5) (N := some 7) (v := ?_) (a' := ?_) #[true, true, true, true, true, true] rfl rfl (by kernel_rfl) (fun _ _ _ h => h) (Or.inl ⟨by rfl, ?_⟩) ?_ ?_
  rotate_left
  · intro w'
    go_simp
    with_reducible rfl
  rotate_left
  · simp only [Act.put, List.setIfInBounds_toArray, List.set_cons_zero, List.set_cons_succ, i64_w, i32_w]
    rfl
  refine done_ (by kernel_rfl) ?_
  have hB2 := Aside0.mk (below_step hBD.out (below_step hb0 hb1))
  have hA2 := Aside0.mk (blk_below hAD.out (below_step hb0 hb1))
  rw [HRW1.out]
  clear hBD hAD hHeld q0 q1 q2 q3 hb0 hb1
  go_wp2
  have q0 : wC1.drew.cell? ⟨w.heap.size, 0, none⟩ = some (.int .i64 E.k) := (blk_cell (blk_drew hA2.out) 0).trans rfl
  have q1 : wC1.drew.cell? ⟨w.heap.size, 1, none⟩ = some (.int .i64 E.m) := (blk_cell (blk_drew hA2.out) 1).trans rfl
  have q2 : wC1.drew.cell? ⟨w.heap.size, 2, none⟩ = some (.int .i64 E.c) := (blk_cell (blk_drew hA2.out) 2).trans rfl
  have q3 : wC1.drew.cell? ⟨w.heap.size, 3, none⟩ = some (.bool E.l) := (blk_cell (blk_drew hA2.out) 3).trans rfl
  have hBD := Aside0.mk (below_drew hB2.out)
  have hAD := Aside0.mk (blk_drew hA2.out)
  clear hB2 hA2
  refine start_ (n := 10) (S := fun w' => w'.cell? ⟨w.heap.size, 0, none⟩ = some (.int .i64 E.k) ∧ w'.cell? ⟨w.heap.size, 1, none⟩ = some (.int .i64 E.m) ∧ w'.cell? ⟨w.heap.size, 2, none⟩ = some (.int .i64 E.c) ∧ w'.cell? ⟨w.heap.size, 3, none⟩ = some (.bool E.l)) (ds := []) #[false, false, false, false, false, false, false, false, false, false] (by kernel_rfl) rfl rfl ⟨q0, q1, q2, q3⟩ (fun hHeld => ?_)
  generalize wC1.drew = wD at q0 q1 q2 q3 hBD hAD hHeld ⊢
  refine pure_ (i := 0) (N := some 37) (v := ?_) (a' := ?_) #[true, false, false, false, false, false, false, false, false, false] rfl rfl (by kernel_rfl) (fun _ _ _ h => h) (Or.inl ⟨by rfl, ?_⟩) ?_ ?_
  rotate_left
  · intro w'
    go_simp
    with_reducible rfl
  rotate_left
  · simp only [Act.put, List.setIfInBounds_toArray, List.set_cons_zero, List.set_cons_succ, i64_w, i32_w]
    rfl
  refine pure_ (i := 1) (N := some 38) (v := ?_) (a' := ?_) #[true, true, false, false, false, false, false, false, false, false] rfl rfl (by kernel_rfl) (fun _ _ _ h => h) (Or.inl ⟨by rfl, ?_⟩) ?_ ?_
  rotate_left
  · intro w'
    go_simp
    with_reducible rfl
  rotate_left
  · simp only [Act.put, List.setIfInBounds_toArray, List.set_cons_zero, List.set_cons_succ, i64_w, i32_w]
    rfl
  refine pure_ (i := 5) (N := some 42) (v := ?_) (a' := ?_) #[true, true, false, false, false, true, false, false, false, false] rfl rfl (by kernel_rfl) (fun _ _ _ h => h) (Or.inl ⟨by rfl, ?_⟩) ?_ ?_
  rotate_left
  · intro w'
    go_simp
    with_reducible rfl
  rotate_left
  · simp only [Act.put, List.setIfInBounds_toArray, List.set_cons_zero, List.set_cons_succ, i64_w, i32_w]
    rfl
  refine take_ (i := 2) (N := some 39) (v := ?_) (a' := ?_) #[true, true, true, false, false, true, false, false, false, false] rfl rfl (by kernel_rfl) (fun _ _ _ h => h) (Or.inl ⟨by rfl, ?_⟩) hHeld ?_ ?_
  rotate_left
  · rintro w' ⟨s0, s1, s2, s3⟩
    go_simp
    with_reducible rfl
  rotate_left
  · simp only [Act.put, List.setIfInBounds_toArray, List.set_cons_zero, List.set_cons_succ, i64_w, i32_w]
    rfl
  refine take_ (i := 6) (N := some 43) (v := ?_) (a' := ?_) #[true, true, true, false, false, true, true, false, false, false] rfl rfl (by kernel_rfl) (fun _ _ _ h => h) (Or.inl ⟨by rfl, ?_⟩) hHeld ?_ ?_
  rotate_left
  · rintro w' ⟨s0, s1, s2, s3⟩
    go_simp
    with_reducible rfl
  rotate_left
  · simp only [Act.put, List.setIfInBounds_toArray, List.set_cons_zero, List.set_cons_succ, i64_w, i32_w]
    rfl
  refine one_ (i := 3) (N := some 40) #[true, true, true, true, false, true, true, false, false, false] rfl rfl (by kernel_rfl) (by decide) (fun K hK => ?_)
  refine goes_ Try.func89 (by kernel_rfl) rfl #[.agg #[.int .i64 E.k, .int .i64 E.m, .int .i64 E.c, .bool E.l]] (by rfl) rfl rfl (by simp only [List.map_toArray, List.map_cons, List.map_nil]; rfl) ?_
  with_reducible refine (array_width.calls E.k E.m E.c E.l (E.W : Int) _ hwd.out).mono ?_
  rintro e wC0 ⟨rfl, hb0⟩
  refine ⟨_, rfl, ?_⟩
  refine hK.out _ _ ⟨pw_cell_below hb0 q0, pw_cell_below hb0 q1, pw_cell_below hb0 q2, pw_cell_below hb0 q3⟩ (fun hHeld => ?_)
  clear hK K
  refine norm_ (a' := ?_) ?_ ?_
  rotate_left
  · show Act.put _ (some 40) _ = _
    simp only [Act.put, List.setIfInBounds_toArray, List.set_cons_zero, List.set_cons_succ, i64_w, i32_w]
    rfl
  refine pure_ (i := 4) (N := some 41) (v := ?_) (a' := ?_) #[true, true, true, true, true, true, true, false, false, false] rfl rfl (by kernel_rfl) (fun _ _ _ h => h) (Or.inl ⟨by rfl, ?_⟩) ?_ ?_
  rotate_left
  · intro w'
    go_simp
    with_reducible rfl
  rotate_left
  · simp only [Act.put, List.setIfInBounds_toArray, List.set_cons_zero, List.set_cons_succ, i64_w, i32_w]
    rfl
  refine pure_ (i := 7) (N := some 44) (v := ?_) (a' := ?_) #[true, true, true, true, true, true, true, true, false, false] rfl rfl (by kernel_rfl) (fun _ _ _ h => h) (Or.inl ⟨by rfl, ?_⟩) ?_ ?_
  rotate_left
  · intro w'
    go_simp
    with_reducible rfl
  rotate_left
  · simp only [Act.put, List.setIfInBounds_toArray, List.set_cons_zero, List.set_cons_succ, i64_w, i32_w]
    rfl
  refine pure_ (i := 8) (N := some 45) (v := ?_) (a' := ?_) #[true, true, true, true, true, true, true, true, true, false] rfl rfl (by kernel_rfl) (fun _ _ _ h => h) (Or.inl ⟨by rfl, ?_⟩) ?_ ?_
  rotate_left
  · intro w'
    go_simp
    with_reducible rfl
  rotate_left
  · simp only [Act.put, List.setIfInBounds_toArray, List.set_cons_zero, List.set_cons_succ, i64_w, i32_w]
    rfl
  refine pure_ (i := 9) (N := some 36) (v := ?_) (a' := ?_) #[true, true, true, true, true, true, true, true, true, true] rfl rfl (by kernel_rfl) (fun _ _ _ h => h) (Or.inl ⟨by rfl, ?_⟩) ?_ ?_
  rotate_left
  · intro w'
    go_simp
    with_reducible rfl
  rotate_left
  · simp only [Act.put, List.setIfInBounds_toArray, List.set_cons_zero, List.set_cons_succ, i64_w, i32_w]
    rfl
  refine done_ (by kernel_rfl) ?_
  have hB3 := Aside0.mk (below_step hBD.out hb0)
  have hA3 := Aside0.mk (blk_below hAD.out hb0)
  rw [hqt.out, hnm.out]
  clear hBD hAD hHeld q0 q1 q2 q3 hb0
  have q1 : wC0.cell? ⟨w.heap.size, 1, none⟩ = some (.int .i64 E.m) := (blk_cell hA3.out 1).trans rfl
  go_wp2_with (first
    | ((with_reducible refine gate_dst (N := 48) rfl ?_); refine Kd.R_make (Kd.slice 5 (Kd.int .u8)) (w0 := w) w.heap.size 22 rfl (N := 48) rfl 72 _ _ rfl E.m rfl rfl Try.underlying72 (.slice none 0 0) 24 info22 rfl (by decide) (by decide) [] (ok := fun _ => True) (okp := fun _ => True) ⟨_, rfl, Kd.R_nil _ _ _ _ _⟩ (fun _ hk => hk) trivial (by have := hM.out; omega) (by have := hM.out; omega) hB3.out hB3.out.size ?_; intro vO w4 hO hb4 hg4 hn4; have hB4 := Aside0.mk hb4; have hA4 := Aside0.mk (blk_grown hA3.out hg4 (by simp)); obtain ⟨g, cO, rfl, hcO, hMat⟩ := mat_start (m := E.M) hO (by rw [List.length_replicate]; have := hM.out; omega) (by omega) (fun _ => .slice none 0 0) (fun _ => List.replicate E.n 0); replace hMat := Aside0.mk hMat; clear hO hb4 hg4 hn4 hB3 hA3 q1))
  have hq2 : (len : Int) / (E.W : Int) = (n : Int) := hq.out
  have hab := Aside0.mk (show w.heap.size ≠ g by obtain ⟨cur, hc, _⟩ := hMat.out.outer; exact blk_ne hA4.out hc (by decide))
  go_loopw [51] (fun vi wr => ∃ (i : Nat) (V : Nat → Value), i ≤ E.M ∧ vi = .int .i64 (i : Int) ∧ Aside0 (Mat wr w.heap.size g cO E.M i V (fun _ => List.replicate E.n 0)) ∧ Aside0 (Below w.heap.size w wr) ∧ Aside0 (∀ j, j < i → ∃ q, (V j).ownBlock = some q) ∧ Aside0 (wr.heap[w.heap.size]? = some (.cells #[.int .i64 E.k, .int .i64 E.m, .int .i64 E.c, .bool E.l] 31 (0, 0)))) (fun vi _ => E.M - (intOf vi).toNat)
  case atStart => exact ⟨0, _, Nat.zero_le _, rfl, hMat, hB4, ⟨fun j hj => absurd hj (by omega)⟩, hA4⟩
  case round =>
    clear hMat hB4 hA4
    obtain ⟨i, V, hi, rfl, hMat, hB, hOW, hA⟩ := hrel
    by_cases hlt : i < E.M
    · have hlti : (i : Int) < (E.M : Int) := by omega
      have hnx : IntKind.i64.wrap ((i : Int) + 1) = (i : Int) + 1 := by rw [i64_w]; unfold wrap64; omega
      have q0 : wr.cell? ⟨w.heap.size, 0, none⟩ = some (.int .i64 E.k) := (blk_cell hA.out 0).trans rfl
      have q1 : wr.cell? ⟨w.heap.size, 1, none⟩ = some (.int .i64 E.m) := (blk_cell hA.out 1).trans rfl
      have q2 : wr.cell? ⟨w.heap.size, 2, none⟩ = some (.int .i64 E.c) := (blk_cell hA.out 2).trans rfl
      have q3 : wr.cell? ⟨w.heap.size, 3, none⟩ = some (.bool E.l) := (blk_cell hA.out 3).trans rfl
      go_wp2_with (first
        | (go_at_call 89; refine (array_width.calls E.k E.m E.c E.l (E.W : Int) _ hwd.out).mono ?_; rintro e w5 ⟨rfl, hb5⟩; have hB5 := Aside0.mk (below_step hB.out hb5); have hM5 := Aside0.mk (hMat.out.below hb5); have hA5 := Aside0.mk (blk_below hA.out hb5); clear hb5 q0 q1 q2 q3 hMat hA hB)
        | ((with_reducible refine gate_dst (N := 61) rfl ?_); refine Kd.R_make (Kd.int .u8) (w0 := w) w.heap.size 5 rfl (N := 61) rfl 22 _ _ rfl (n : Int) rfl rfl Try.underlying22 (.int .u8 0) 1 info5 rfl (by decide) (by decide) 0 (ok := fun _ => True) (okp := fun _ => True) rfl (fun _ hk => hk) trivial (by omega) (by omega) hB5.out hB5.out.size ?_; intro vR w6 hR6 hb6 hg6 hn6; rw [Int.toNat_natCast] at hR6; obtain ⟨AR, cR, eR⟩ := Kd.R_slice hR6; rw [List.length_replicate] at eR; subst eR; obtain ⟨qb, hqb, hqs⟩ := hn6; have hM6 := Aside0.mk (hM5.out.push hlt hg6 hqb hqs hR6); have hB6 := Aside0.mk hb6; have hA6 := Aside0.mk (blk_grown hA5.out hg6 (by simp)); have hQ6 := Aside0.mk hqb; obtain ⟨uo, f0, f1⟩ := (hM5.out.step (blk_grown (Array.getElem?_eq_getElem hM5.out.lt) hg6 (by simp) |>.trans (Array.getElem?_eq_getElem hM5.out.lt).symm) (fun j hj q hq => hg6.block q (Kd.R_lt (hM5.out.rows j hj) q hq) (by simp))).any hlt; clear hb6 hg6 hqb hqs hR6 hB5 hA5 hM5))
      have hg0 : w.heap.size ≤ g := hM6.out.lg
      have hA7 := Aside0.mk (blk_far hA6.out (p := ⟨g, i, none⟩) hab.out (.slice AR n cR))
      have hB7 := Aside0.mk (hB6.out.setCell (p := ⟨g, i, none⟩) hg0 (.slice AR n cR))
      have hM7 := Aside0.mk (hM6.out.congr (f' := fun _ => List.replicate E.n 0) (fun j hj => by
        by_cases e : j = i
        · rw [e, upd_same, hnn.out]
        · rw [upd_ne _ _ e]))
      have hO7 : ∀ j, j < i + 1 → ∃ q, (upd V i (.slice AR n cR) j).ownBlock = some q := fun j hj => by
        by_cases e : j = i
        · rw [e, upd_same]; exact ⟨_, hQ6.out⟩
        · rw [upd_ne _ _ e]; exact hOW.out j (by omega)
      go_roundw
      case rel => exact ⟨i + 1, _, by omega, by go_num, hM7, hB7, ⟨hO7⟩, hA7⟩
      case measure => simp [intOf]; omega
    · obtain rfl : i = E.M := by omega
      clear hlt hi
      go_wp2
      obtain ⟨wo, hwo⟩ : ∃ wo : World, wo = wr := ⟨_, rfl⟩
      subst hwo
      go_loopw [10] (fun vo wq => ∃ (q off : Nat), q ≤ E.Q ∧ vo = .int .i64 (off : Int) ∧ Aside0 (off = q * E.C) ∧ Aside0 (Mat wq w.heap.size g cO E.M E.M V (memb E q)) ∧ Aside0 (Below w.heap.size w wq) ∧ Aside0 (wq.heap[w.heap.size]? = some (.cells #[.int .i64 E.k, .int .i64 E.m, .int .i64 E.c, .bool E.l] 31 (0, 0)))) (fun vo _ => len - (intOf vo).toNat)
      case atStart => exact ⟨0, 0, Nat.zero_le _, rfl, ⟨by simp⟩, ⟨hMat.out⟩, hB, hA⟩
      case round =>
        clear hMat hB hA
        obtain ⟨q, off, hqle, rfl, hoff, hMq, hBq, hAq⟩ := hrel
        by_cases hlt : q < E.Q
        · have hat := HE.out.at_le hlt
          have hol : off + E.C ≤ len := by rw [hoff.out, HL.out]; exact hat
          have hlti : (off : Int) < (len : Int) := by omega
          have hpl := HE.out.place hlt
          rw [← hoff.out] at hpl
          obtain ⟨hxM, _, hxp⟩ := HE.out.step_lt hlt
          have hlo := HE.out.lo_le hlt
          have hplen := Aside0.mk (HE.out.part_len hlt)
          have hmlen := HE.out.memb_len q (by omega)
          have hlop := HE.out.lo_div hlt
          obtain ⟨x, hx⟩ : ∃ x, x = E.x q := ⟨_, rfl⟩
          obtain ⟨lo, hlo_⟩ : ∃ x, x = E.lo q := ⟨_, rfl⟩
          obtain ⟨p, hp⟩ : ∃ x, x = E.p q := ⟨_, rfl⟩
          rw [← hx] at hxM hxp hpl
          rw [← hlo_] at hlo hpl hlop
          rw [← hp] at hxp hlop
          rw [← hnn.out] at hlo hmlen
          obtain ⟨gx, cx, ex, hcx, hLx, hox⟩ := row_form (hMq.out.rows x hxM) (hmlen x) (by omega : 0 < n)
          obtain ⟨AP, hcutP, hCP⟩ := part_cut (w := w) hol HC0.out HL.out.symm
          have hCP0 := Aside0.mk (show Kd.C (Kd.int .u8) w AP E.C (E.part q) by have := hCP w HR0.out; unfold SE.part; rw [← hoff.out]; exact this)
          have hcutX := fun W => row_cut (gx := gx) (n := n) (cx := cx) (lo := lo) (by omega) hcx W
          have hxMi : (x : Int) < (E.M : Int) := by omega
          have q0 : wr.cell? ⟨w.heap.size, 0, none⟩ = some (.int .i64 E.k) := (blk_cell hAq.out 0).trans rfl
          have q1 : wr.cell? ⟨w.heap.size, 1, none⟩ = some (.int .i64 E.m) := (blk_cell hAq.out 1).trans rfl
          have q2 : wr.cell? ⟨w.heap.size, 2, none⟩ = some (.int .i64 E.c) := (blk_cell hAq.out 2).trans rfl
          have q3 : wr.cell? ⟨w.heap.size, 3, none⟩ = some (.bool E.l) := (blk_cell hAq.out 3).trans rfl
          replace hpl := Aside0.mk hpl
          replace hmlen := Aside0.mk hmlen
          replace hlop := Aside0.mk hlop
          replace hx := Aside0.mk hx
          replace hlo_ := Aside0.mk hlo_
          replace hp := Aside0.mk hp
          replace hxp := Aside0.mk hxp
          replace hox := Aside0.mk hox
          replace ex := Aside0.mk ex
          have hlob := Aside0.mk hlo
          have hnext := Aside0.mk (show off + E.C = (q + 1) * E.C by rw [hoff.out, Nat.add_mul, Nat.one_mul])
          have hC0 : ¬ (E.C = 0) := by omega
          have tok1 : True := trivial
          clear hCP hat
          have hk3 := HE.out.good.1
          have hk4 := HE.out.good.2.1
          rcases (show E.k = 1 ∨ E.k = 2 ∨ E.k = 0 by omega) with hk | hk | hk
          · skip
            have hmir : E.mir = true := by unfold SE.mir; rw [hk]; rfl
            have hkt : (E.k == 1) = true := by rw [hk]; rfl
            have hpn := Aside0.mk (show p = -1 by rw [hp.out]; unfold SE.p parOf; rw [if_neg (by omega)])
            have hp0 : decide (0 ≤ p) = false := by rw [hpn.out]; rfl
            have hp1 : ¬ (0 ≤ p) := by rw [hpn.out]; decide
            replace hmir := Aside0.mk hmir
            clear hk hk3 hk4
            go_wp2_with (first | (go_at_call 79; refine (array_place.calls E.k E.m E.c E.l (off : Int) (x : Int) (lo : Int) _ hpl.out).mono ?_; rintro e wa ⟨rfl, hba⟩; have hMa := Aside0.mk (hMq.out.below hba); have hBa := Aside0.mk (below_step hBq.out hba); have hAa := Aside0.mk (blk_below hAq.out hba); clear q0 q1 q2 q3 hba hMq hBq hAq hpl; have q0 : wa.cell? ⟨w.heap.size, 0, none⟩ = some (.int .i64 E.k) := (blk_cell hAa.out 0).trans rfl; have q1 : wa.cell? ⟨w.heap.size, 1, none⟩ = some (.int .i64 E.m) := (blk_cell hAa.out 1).trans rfl; have q2 : wa.cell? ⟨w.heap.size, 2, none⟩ = some (.int .i64 E.c) := (blk_cell hAa.out 2).trans rfl; have q3 : wa.cell? ⟨w.heap.size, 3, none⟩ = some (.bool E.l) := (blk_cell hAa.out 3).trans rfl) | (go_at_call 88; have tok2 := tok1; refine (array_chunk.calls E.k E.m E.c E.l (E.C : Int) _ hch.out).mono ?_; rintro e wb ⟨rfl, hbb⟩; have hMb := Aside0.mk (hMa.out.below hbb); have hBb := Aside0.mk (below_step hBa.out hbb); have hAb := Aside0.mk (blk_below hAa.out hbb); clear q0 q1 q2 q3 hbb hMa hBa hAa; obtain ⟨wc, hrc, hMc, hgc, hLg⟩ := hMb.out.copy hxM ex.out hplen.out (by omega) hlo (cp := c0 - off) (Kd.C_below hCP0.out hBb.out); have ecx : wb.cell? ⟨g, x, none⟩ = some (.slice (some ⟨gx, 0, none⟩) n cx) := (hMb.out.cell hxM).trans (congrArg some ex.out); have hBc := Aside0.mk (pw_below_grown hBb.out (some gx) hBb.out.size hgc (fun k hk => by injection hk with hk; omega)); have hAc := Aside0.mk (blk_grown hAb.out hgc (fun he => hMb.out.far hxM hox.out hAb.out (by decide) (Option.some.inj he))); replace hMc := Aside0.mk hMc; clear hgc hLg hMb hBb hAb tok1 tok2; have q0 : wc.cell? ⟨w.heap.size, 0, none⟩ = some (.int .i64 E.k) := (blk_cell hAc.out 0).trans rfl; have q1 : wc.cell? ⟨w.heap.size, 1, none⟩ = some (.int .i64 E.m) := (blk_cell hAc.out 1).trans rfl; have q2 : wc.cell? ⟨w.heap.size, 2, none⟩ = some (.int .i64 E.c) := (blk_cell hAc.out 2).trans rfl; have q3 : wc.cell? ⟨w.heap.size, 3, none⟩ = some (.bool E.l) := (blk_cell hAc.out 3).trans rfl))
            clear q0 q1 q2 q3 hcutX ecx hrc
            obtain ⟨wp, hwp⟩ : ∃ wp : World, wp = wc := ⟨_, rfl⟩
            subst hwp
            obtain ⟨F, hF⟩ : ∃ F, F = upd (memb E q) x (putAt (memb E q x) lo (E.part q)) := ⟨_, rfl⟩
            rw [← hF] at hMc
            have hFl : ∀ j, (F j).length = n := fun j => by
              rw [hF]
              by_cases e : j = x
              · rw [e, upd_same, putAt_len (by rw [hplen.out, hmlen.out]; exact hlo)]; exact hmlen.out x
              · rw [upd_ne _ _ e]; exact hmlen.out j
            replace hF := Aside0.mk hF
            replace hFl := Aside0.mk hFl
            go_loopw [98] (fun vi ws => ∃ (i : Nat), i ≤ E.M ∧ vi = .int .i64 (i : Int) ∧ Aside0 (Mat ws w.heap.size g cO E.M E.M V (fun j => if j < i then putAt (F j) lo (E.part q) else F j)) ∧ Aside0 (Below w.heap.size w ws) ∧ Aside0 (ws.heap[w.heap.size]? = some (.cells #[.int .i64 E.k, .int .i64 E.m, .int .i64 E.c, .bool E.l] 31 (0, 0)))) (fun vi _ => E.M - (intOf vi).toNat)
            case atStart => exact ⟨0, Nat.zero_le _, rfl, ⟨hMc.out.congr (fun j hj => by rw [if_neg (by omega)])⟩, hBc, hAc⟩
            case round =>
              clear hMc hBc hAc
              obtain ⟨i, hi, rfl, hMi, hBi, hAi⟩ := hrel
              by_cases hil : i < E.M
              · have hili : (i : Int) < (E.M : Int) := by omega
                have hnx : IntKind.i64.wrap ((i : Int) + 1) = (i : Int) + 1 := by rw [i64_w]; unfold wrap64; omega
                obtain ⟨gi, ci, ei, hci, hLi, hoi⟩ := row_form (n := n) (hMi.out.rows i hil) (by rw [if_neg (by omega)]; exact hFl.out i) (by omega)
                have hcutI := fun W => row_cut (gx := gi) (n := n) (cx := ci) (lo := lo) (by omega) hci W
                obtain ⟨ws, hrs, hMs, hgs, hLs⟩ := hMi.out.copy hil ei hplen.out (by omega) hlo (cp := c0 - off) (Kd.C_below hCP0.out hBi.out)
                have eci : wr.cell? ⟨g, i, none⟩ = some (.slice (some ⟨gi, 0, none⟩) n ci) := (hMi.out.cell hil).trans (congrArg some ei)
                have hBs := Aside0.mk (pw_below_grown hBi.out (some gi) hBi.out.size hgs (fun k hk => by injection hk with hk; omega))
                have hAs := Aside0.mk (blk_grown hAi.out hgs (fun he => hMi.out.far hil hoi hAi.out (by decide) (Option.some.inj he)))
                have hMs2 := Aside0.mk (hMs.congr (f' := fun j => if j < i + 1 then putAt (F j) lo (E.part q) else F j) (fun j hj => by
                  by_cases e : j = i
                  · rw [e, upd_same, if_neg (by omega), if_pos (by omega)]
                  · rw [upd_ne _ _ e]
                    by_cases e2 : j < i
                    · rw [if_pos e2, if_pos (by omega)]
                    · rw [if_neg e2, if_neg (by omega)]))
                clear hMs hgs hLs hMi hBi hAi ei hoi
                go_wp2
                go_roundw
                case rel => exact ⟨i + 1, by omega, by go_num, hMs2, hBs, hAs⟩
                case measure => simp [intOf]; omega
              · obtain rfl : i = E.M := by omega
                clear hil hi
                have q0 : wr.cell? ⟨w.heap.size, 0, none⟩ = some (.int .i64 E.k) := (blk_cell hAi.out 0).trans rfl
                go_wp2
                have hMd := Aside0.mk hMi.out.drew
                have hBd := Aside0.mk (below_drew hBi.out)
                have hAd := Aside0.mk (blk_drew hAi.out)
                have r0 : wr.drew.cell? ⟨w.heap.size, 0, none⟩ = some (.int .i64 E.k) := (blk_cell hAd.out 0).trans rfl
                have r1 : wr.drew.cell? ⟨w.heap.size, 1, none⟩ = some (.int .i64 E.m) := (blk_cell hAd.out 1).trans rfl
                have r2 : wr.drew.cell? ⟨w.heap.size, 2, none⟩ = some (.int .i64 E.c) := (blk_cell hAd.out 2).trans rfl
                have r3 : wr.drew.cell? ⟨w.heap.size, 3, none⟩ = some (.bool E.l) := (blk_cell hAd.out 3).trans rfl
                clear q0 hMi hBi hAi
                try clear q1 q2 q3
                refine start_ (n := 7) (S := fun w' => w'.cell? ⟨w.heap.size, 0, none⟩ = some (.int .i64 E.k) ∧ w'.cell? ⟨w.heap.size, 1, none⟩ = some (.int .i64 E.m) ∧ w'.cell? ⟨w.heap.size, 2, none⟩ = some (.int .i64 E.c) ∧ w'.cell? ⟨w.heap.size, 3, none⟩ = some (.bool E.l)) (ds := []) #[false, false, false, false, false, false, false] (by kernel_rfl) rfl rfl ⟨r0, r1, r2, r3⟩ (fun hHeld => ?_)
                generalize wr.drew = wD at r0 r1 r2 r3 hMd hBd hAd hHeld ⊢
                refine pure_ (i := 1) (N := some 111) (v := ?_) (a' := ?_) #[false, true, false, false, false, false, false] rfl rfl (by kernel_rfl) (fun _ _ _ h => h) (Or.inl ⟨by rfl, ?_⟩) ?_ ?_
                rotate_left
                · intro w'
                  go_simp
                  with_reducible rfl
                rotate_left
                · simp only [Act.put, List.setIfInBounds_toArray, List.set_cons_zero, List.set_cons_succ, i64_w, i32_w]
                  rfl
                refine take_ (i := 0) (N := some 110) (v := ?_) (a' := ?_) #[true, true, false, false, false, false, false] rfl rfl (by kernel_rfl) (fun _ _ _ h => h) (Or.inl ⟨by rfl, ?_⟩) hHeld ?_ ?_
                rotate_left
                · rintro w' ⟨s0, s1, s2, s3⟩
                  go_simp
                  with_reducible rfl
                rotate_left
                · simp only [Act.put, List.setIfInBounds_toArray, List.set_cons_zero, List.set_cons_succ, i64_w, i32_w]
                  rfl
                refine take_ (i := 2) (N := some 112) (v := ?_) (a' := ?_) #[true, true, true, false, false, false, false] rfl rfl (by kernel_rfl) (fun _ _ _ h => h) (Or.inl ⟨by rfl, ?_⟩) hHeld ?_ ?_
                rotate_left
                · rintro w' ⟨s0, s1, s2, s3⟩
                  go_simp
                  with_reducible rfl
                rotate_left
                · simp only [Act.put, List.setIfInBounds_toArray, List.set_cons_zero, List.set_cons_succ, i64_w, i32_w]
                  rfl
                refine one_ (i := 3) (N := some 113) #[true, true, true, true, false, false, false] rfl rfl (by kernel_rfl) (by decide) (fun K hK => ?_)
                refine goes_ Try.func88 (by kernel_rfl) rfl #[.agg #[.int .i64 E.k, .int .i64 E.m, .int .i64 E.c, .bool E.l]] (by rfl) rfl rfl (by simp only [List.map_toArray, List.map_cons, List.map_nil]; rfl) ?_
                with_reducible refine (array_chunk.calls E.k E.m E.c E.l (E.C : Int) _ hch.out).mono ?_
                rintro e wC0 ⟨rfl, hb0⟩
                refine ⟨_, rfl, ?_⟩
                refine hK.out _ _ ⟨pw_cell_below hb0 r0, pw_cell_below hb0 r1, pw_cell_below hb0 r2, pw_cell_below hb0 r3⟩ (fun hHeld => ?_)
                clear hK K
                refine norm_ (a' := ?_) ?_ ?_
                rotate_left
                · show Act.put _ (some 113) _ = _
                  simp only [Act.put, List.setIfInBounds_toArray, List.set_cons_zero, List.set_cons_succ, i64_w, i32_w]
                  rfl
                refine pure_ (i := 4) (N := some 114) (v := ?_) (a' := ?_) #[true, true, true, true, true, false, false] rfl rfl (by kernel_rfl) (fun _ _ _ h => h) (Or.inl ⟨by rfl, ?_⟩) ?_ ?_
                rotate_left
                · intro w'
                  go_simp
                  with_reducible rfl
                rotate_left
                · simp only [Act.put, List.setIfInBounds_toArray, List.set_cons_zero, List.set_cons_succ, i64_w, i32_w]
                  rfl
                refine one_ (i := 5) (N := some 115) #[true, true, true, true, true, true, false] rfl rfl (by kernel_rfl) (by decide) (fun K hK => ?_)
                refine goes_ Try.func90 (by kernel_rfl) rfl #[.agg #[.int .i64 E.k, .int .i64 E.m, .int .i64 E.c, .bool E.l], .int .i64 (wrap64 ((lo : Int) / (E.C : Int)))] (by rfl) rfl rfl (by simp only [List.map_toArray, List.map_cons, List.map_nil]; rfl) ?_
                with_reducible refine (array_odd.calls E.k E.m E.c E.l (wrap64 ((lo : Int) / (E.C : Int))) p _ hlop.out).mono ?_
                rintro e wC1 ⟨rfl, hb1⟩
                refine ⟨_, rfl, ?_⟩
                refine hK.out _ _ ⟨pw_cell_below (below_step hb0 hb1) r0, pw_cell_below (below_step hb0 hb1) r1, pw_cell_below (below_step hb0 hb1) r2, pw_cell_below (below_step hb0 hb1) r3⟩ (fun hHeld => ?_)
                clear hK K
                refine norm_ (a' := ?_) ?_ ?_
                rotate_left
                · show Act.put _ (some 115) _ = _
                  simp only [Act.put, List.setIfInBounds_toArray, List.set_cons_zero, List.set_cons_succ, i64_w, i32_w]
                  rfl
                refine pure_ (i := 6) (N := some 15) (v := ?_) (a' := ?_) #[true, true, true, true, true, true, true] rfl rfl (by kernel_rfl) (fun _ _ _ h => h) (Or.inl ⟨by rfl, ?_⟩) ?_ ?_
                rotate_left
                · intro w'
                  go_simp
                  with_reducible rfl
                rotate_left
                · simp only [Act.put, List.setIfInBounds_toArray, List.set_cons_zero, List.set_cons_succ, i64_w, i32_w]
                  rfl
                refine done_ (by kernel_rfl) ?_
                have hMe := Aside0.mk (hMd.out.below (below_step hb0 hb1))
                have hBe := Aside0.mk (below_step hBd.out (below_step hb0 hb1))
                have hAe := Aside0.mk (blk_below hAd.out (below_step hb0 hb1))
                clear hMd hBd hAd hHeld r0 r1 r2 r3 hb0 hb1
                have q0 : wC1.cell? ⟨w.heap.size, 0, none⟩ = some (.int .i64 E.k) := (blk_cell hAe.out 0).trans rfl
                have q1 : wC1.cell? ⟨w.heap.size, 1, none⟩ = some (.int .i64 E.m) := (blk_cell hAe.out 1).trans rfl
                have q2 : wC1.cell? ⟨w.heap.size, 2, none⟩ = some (.int .i64 E.c) := (blk_cell hAe.out 2).trans rfl
                have q3 : wC1.cell? ⟨w.heap.size, 3, none⟩ = some (.bool E.l) := (blk_cell hAe.out 3).trans rfl
                go_wp2_with (first | (go_at_call 88; refine (array_chunk.calls E.k E.m E.c E.l (E.C : Int) _ hch.out).mono ?_; rintro e wg ⟨rfl, hbg⟩; have hMg := Aside0.mk (hMe.out.below hbg); have hBg := Aside0.mk (below_step hBe.out hbg); have hAg := Aside0.mk (blk_below hAe.out hbg); clear q0 q1 q2 q3 hbg hMe hBe hAe))
                go_roundw
                case rel => exact ⟨q + 1, off + E.C, by omega, by go_num, hnext, ⟨hMg.out.congr (fun j hj => by rw [if_pos hj, hF.out, hx.out, hlo_.out]; exact memb_mir HE.out (by assumption) hmir.out j)⟩, hBg, hAg⟩
                case measure => simp [intOf]; omega
          · skip
            have hmir : E.mir = false := by unfold SE.mir; rw [hk]; rfl
            have hkt : (E.k == 1) = false := by rw [hk]; rfl
            have hpr := par_lt HE.out.good ((q / E.W : Nat) : Int) hk
            have hpe := hp.out
            unfold SE.p at hpe
            rw [← hpe] at hpr
            obtain ⟨pn, hpn⟩ := Int.eq_ofNat_of_zero_le hpr.1
            clear hpe
            subst hpn
            have hpM : pn < E.M := by have h1 := hpr.2; have h2 := hM.out; omega
            have hpMi : (pn : Int) < (E.M : Int) := by omega
            obtain ⟨gp, cp, ep, hcp, hLp, hop⟩ := row_form (hMq.out.rows pn hpM) (hmlen.out pn) (by omega : 0 < n)
            replace ep := Aside0.mk ep
            replace hop := Aside0.mk hop
            have hcc : E.C ≤ c0 - off := by have := HC0.out; omega
            have hsum : wrap64 ((lo : Int) + (E.C : Int)) = ((lo + E.C : Nat) : Int) := by unfold wrap64; omega
            have hcut2 := fun W => row_cut2 (gx := gp) (n := n) (cx := cp) (lo := lo) (C := E.C) hsum (Nat.lt_of_lt_of_le (by decide) hn.1) hlo hcp W
            replace hmir := Aside0.mk hmir
            replace hsum := Aside0.mk hsum
            replace hcut2 := Aside0.mk hcut2
            clear hk hk3 hk4 hpr
            go_wp2_with (first | (go_at_call 79; refine (array_place.calls E.k E.m E.c E.l (off : Int) (x : Int) (lo : Int) _ hpl.out).mono ?_; rintro e wa ⟨rfl, hba⟩; have hMa := Aside0.mk (hMq.out.below hba); have hBa := Aside0.mk (below_step hBq.out hba); have hAa := Aside0.mk (blk_below hAq.out hba); clear q0 q1 q2 q3 hba hMq hBq hAq hpl; have q0 : wa.cell? ⟨w.heap.size, 0, none⟩ = some (.int .i64 E.k) := (blk_cell hAa.out 0).trans rfl; have q1 : wa.cell? ⟨w.heap.size, 1, none⟩ = some (.int .i64 E.m) := (blk_cell hAa.out 1).trans rfl; have q2 : wa.cell? ⟨w.heap.size, 2, none⟩ = some (.int .i64 E.c) := (blk_cell hAa.out 2).trans rfl; have q3 : wa.cell? ⟨w.heap.size, 3, none⟩ = some (.bool E.l) := (blk_cell hAa.out 3).trans rfl) | (go_at_call 88; have tok2 := tok1; refine (array_chunk.calls E.k E.m E.c E.l (E.C : Int) _ hch.out).mono ?_; rintro e wb ⟨rfl, hbb⟩; have hMb := Aside0.mk (hMa.out.below hbb); have hBb := Aside0.mk (below_step hBa.out hbb); have hAb := Aside0.mk (blk_below hAa.out hbb); clear q0 q1 q2 q3 hbb hMa hBa hAa; obtain ⟨wc, hrc, hMc, hgc, hLg⟩ := hMb.out.copy hxM ex.out hplen.out (by omega) hlo (cp := c0 - off) (Kd.C_below hCP0.out hBb.out); have ecx : wb.cell? ⟨g, x, none⟩ = some (.slice (some ⟨gx, 0, none⟩) n cx) := (hMb.out.cell hxM).trans (congrArg some ex.out); have hBc := Aside0.mk (pw_below_grown hBb.out (some gx) hBb.out.size hgc (fun k hk => by injection hk with hk; omega)); have hAc := Aside0.mk (blk_grown hAb.out hgc (fun he => hMb.out.far hxM hox.out hAb.out (by decide) (Option.some.inj he))); replace hMc := Aside0.mk hMc; clear hgc hLg hMb hBb hAb tok1 tok2; have q0 : wc.cell? ⟨w.heap.size, 0, none⟩ = some (.int .i64 E.k) := (blk_cell hAc.out 0).trans rfl; have q1 : wc.cell? ⟨w.heap.size, 1, none⟩ = some (.int .i64 E.m) := (blk_cell hAc.out 1).trans rfl; have q2 : wc.cell? ⟨w.heap.size, 2, none⟩ = some (.int .i64 E.c) := (blk_cell hAc.out 2).trans rfl; have q3 : wc.cell? ⟨w.heap.size, 3, none⟩ = some (.bool E.l) := (blk_cell hAc.out 3).trans rfl))
            have hMd := Aside0.mk hMc.out.drew
            have hBd := Aside0.mk (below_drew hBc.out)
            have hAd := Aside0.mk (blk_drew hAc.out)
            have r0 : wc.drew.cell? ⟨w.heap.size, 0, none⟩ = some (.int .i64 E.k) := (blk_cell hAd.out 0).trans rfl
            have r1 : wc.drew.cell? ⟨w.heap.size, 1, none⟩ = some (.int .i64 E.m) := (blk_cell hAd.out 1).trans rfl
            have r2 : wc.drew.cell? ⟨w.heap.size, 2, none⟩ = some (.int .i64 E.c) := (blk_cell hAd.out 2).trans rfl
            have r3 : wc.drew.cell? ⟨w.heap.size, 3, none⟩ = some (.bool E.l) := (blk_cell hAd.out 3).trans rfl
            clear q0 hMc hBc hAc
            try clear q1 q2 q3
            refine start_ (n := 7) (S := fun w' => w'.cell? ⟨w.heap.size, 0, none⟩ = some (.int .i64 E.k) ∧ w'.cell? ⟨w.heap.size, 1, none⟩ = some (.int .i64 E.m) ∧ w'.cell? ⟨w.heap.size, 2, none⟩ = some (.int .i64 E.c) ∧ w'.cell? ⟨w.heap.size, 3, none⟩ = some (.bool E.l)) (ds := []) #[false, false, false, false, false, false, false] (by kernel_rfl) rfl rfl ⟨r0, r1, r2, r3⟩ (fun hHeld => ?_)
            generalize wc.drew = wD at r0 r1 r2 r3 hMd hBd hAd hHeld ⊢
            refine pure_ (i := 1) (N := some 111) (v := ?_) (a' := ?_) #[false, true, false, false, false, false, false] rfl rfl (by kernel_rfl) (fun _ _ _ h => h) (Or.inl ⟨by rfl, ?_⟩) ?_ ?_
            rotate_left
            · intro w'
              go_simp
              with_reducible rfl
            rotate_left
            · simp only [Act.put, List.setIfInBounds_toArray, List.set_cons_zero, List.set_cons_succ, i64_w, i32_w]
              rfl
            refine take_ (i := 0) (N := some 110) (v := ?_) (a' := ?_) #[true, true, false, false, false, false, false] rfl rfl (by kernel_rfl) (fun _ _ _ h => h) (Or.inl ⟨by rfl, ?_⟩) hHeld ?_ ?_
            rotate_left
            · rintro w' ⟨s0, s1, s2, s3⟩
              go_simp
              with_reducible rfl
            rotate_left
            · simp only [Act.put, List.setIfInBounds_toArray, List.set_cons_zero, List.set_cons_succ, i64_w, i32_w]
              rfl
            refine take_ (i := 2) (N := some 112) (v := ?_) (a' := ?_) #[true, true, true, false, false, false, false] rfl rfl (by kernel_rfl) (fun _ _ _ h => h) (Or.inl ⟨by rfl, ?_⟩) hHeld ?_ ?_
            rotate_left
            · rintro w' ⟨s0, s1, s2, s3⟩
              go_simp
              with_reducible rfl
            rotate_left
            · simp only [Act.put, List.setIfInBounds_toArray, List.set_cons_zero, List.set_cons_succ, i64_w, i32_w]
              rfl
            refine one_ (i := 3) (N := some 113) #[true, true, true, true, false, false, false] rfl rfl (by kernel_rfl) (by decide) (fun K hK => ?_)
            refine goes_ Try.func88 (by kernel_rfl) rfl #[.agg #[.int .i64 E.k, .int .i64 E.m, .int .i64 E.c, .bool E.l]] (by rfl) rfl rfl (by simp only [List.map_toArray, List.map_cons, List.map_nil]; rfl) ?_
            with_reducible refine (array_chunk.calls E.k E.m E.c E.l (E.C : Int) _ hch.out).mono ?_
            rintro e wC0 ⟨rfl, hb0⟩
            refine ⟨_, rfl, ?_⟩
            refine hK.out _ _ ⟨pw_cell_below hb0 r0, pw_cell_below hb0 r1, pw_cell_below hb0 r2, pw_cell_below hb0 r3⟩ (fun hHeld => ?_)
            clear hK K
            refine norm_ (a' := ?_) ?_ ?_
            rotate_left
            · show Act.put _ (some 113) _ = _
              simp only [Act.put, List.setIfInBounds_toArray, List.set_cons_zero, List.set_cons_succ, i64_w, i32_w]
              rfl
            refine pure_ (i := 4) (N := some 114) (v := ?_) (a' := ?_) #[true, true, true, true, true, false, false] rfl rfl (by kernel_rfl) (fun _ _ _ h => h) (Or.inl ⟨by rfl, ?_⟩) ?_ ?_
            rotate_left
            · intro w'
              go_simp
              with_reducible rfl
            rotate_left
            · simp only [Act.put, List.setIfInBounds_toArray, List.set_cons_zero, List.set_cons_succ, i64_w, i32_w]
              rfl
            refine one_ (i := 5) (N := some 115) #[true, true, true, true, true, true, false] rfl rfl (by kernel_rfl) (by decide) (fun K hK => ?_)
            refine goes_ Try.func90 (by kernel_rfl) rfl #[.agg #[.int .i64 E.k, .int .i64 E.m, .int .i64 E.c, .bool E.l], .int .i64 (wrap64 ((lo : Int) / (E.C : Int)))] (by rfl) rfl rfl (by simp only [List.map_toArray, List.map_cons, List.map_nil]; rfl) ?_
            with_reducible refine (array_odd.calls E.k E.m E.c E.l (wrap64 ((lo : Int) / (E.C : Int))) (pn : Int) _ hlop.out).mono ?_
            rintro e wC1 ⟨rfl, hb1⟩
            refine ⟨_, rfl, ?_⟩
            refine hK.out _ _ ⟨pw_cell_below (below_step hb0 hb1) r0, pw_cell_below (below_step hb0 hb1) r1, pw_cell_below (below_step hb0 hb1) r2, pw_cell_below (below_step hb0 hb1) r3⟩ (fun hHeld => ?_)
            clear hK K
            refine norm_ (a' := ?_) ?_ ?_
            rotate_left
            · show Act.put _ (some 115) _ = _
              simp only [Act.put, List.setIfInBounds_toArray, List.set_cons_zero, List.set_cons_succ, i64_w, i32_w]
              rfl
            refine pure_ (i := 6) (N := some 15) (v := ?_) (a' := ?_) #[true, true, true, true, true, true, true] rfl rfl (by kernel_rfl) (fun _ _ _ h => h) (Or.inl ⟨by rfl, ?_⟩) ?_ ?_
            rotate_left
            · intro w'
              go_simp
              with_reducible rfl
            rotate_left
            · simp only [Act.put, List.setIfInBounds_toArray, List.set_cons_zero, List.set_cons_succ, i64_w, i32_w]
              rfl
            refine done_ (by kernel_rfl) ?_
            have hMe := Aside0.mk (hMd.out.below (below_step hb0 hb1))
            have hBe := Aside0.mk (below_step hBd.out (below_step hb0 hb1))
            have hAe := Aside0.mk (blk_below hAd.out (below_step hb0 hb1))
            clear hMd hBd hAd hHeld r0 r1 r2 r3 hb0 hb1
            go_wp2
            have hMf := Aside0.mk hMe.out.drew
            have hBf := Aside0.mk (below_drew hBe.out)
            have hAf := Aside0.mk (blk_drew hAe.out)
            have r0 : wC1.drew.cell? ⟨w.heap.size, 0, none⟩ = some (.int .i64 E.k) := (blk_cell hAf.out 0).trans rfl
            have r1 : wC1.drew.cell? ⟨w.heap.size, 1, none⟩ = some (.int .i64 E.m) := (blk_cell hAf.out 1).trans rfl
            have r2 : wC1.drew.cell? ⟨w.heap.size, 2, none⟩ = some (.int .i64 E.c) := (blk_cell hAf.out 2).trans rfl
            have r3 : wC1.drew.cell? ⟨w.heap.size, 3, none⟩ = some (.bool E.l) := (blk_cell hAf.out 3).trans rfl
            have r4 : wC1.drew.cell? ⟨g, pn, none⟩ = some (.slice (some ⟨gp, 0, none⟩) n cp) := (hMf.out.cell hpM).trans (congrArg some ep.out)
            have hcut3 := hcut2.out
            clear hMe hBe hAe
            refine start_ (n := 12) (S := fun w' => w'.cell? ⟨w.heap.size, 0, none⟩ = some (.int .i64 E.k) ∧ w'.cell? ⟨w.heap.size, 1, none⟩ = some (.int .i64 E.m) ∧ w'.cell? ⟨w.heap.size, 2, none⟩ = some (.int .i64 E.c) ∧ w'.cell? ⟨w.heap.size, 3, none⟩ = some (.bool E.l) ∧ w'.cell? ⟨g, pn, none⟩ = some (.slice (some ⟨gp, 0, none⟩) n cp)) (ds := [11]) #[false, false, false, false, false, false, false, false, false, false, false, false] (by kernel_rfl) rfl rfl ⟨r0, r1, r2, r3, r4⟩ (fun hHeld => ?_)
            generalize wC1.drew = wD at r0 r1 r2 r3 r4 hMf hBf hAf hHeld ⊢
            refine pure_ (i := 0) (N := some 118) (v := ?_) (a' := ?_) #[true, false, false, false, false, false, false, false, false, false, false, false] rfl rfl (by kernel_rfl) (fun _ _ _ h => h) (Or.inl ⟨by rfl, ?_⟩) ?_ ?_
            rotate_left
            · intro w'
              go_simp
              with_reducible rfl
            rotate_left
            · simp only [Act.put, List.setIfInBounds_toArray, List.set_cons_zero, List.set_cons_succ, i64_w, i32_w]
              rfl
            refine pure_ (i := 1) (N := some 119) (v := ?_) (a' := ?_) #[true, true, false, false, false, false, false, false, false, false, false, false] rfl rfl (by kernel_rfl) (fun _ _ _ h => h) (Or.inl ⟨by rfl, ?_⟩) ?_ ?_
            rotate_left
            · intro w'
              go_simp
              with_reducible rfl
            rotate_left
            · simp only [Act.put, List.setIfInBounds_toArray, List.set_cons_zero, List.set_cons_succ, i64_w, i32_w]
              rfl
            refine pure_ (i := 2) (N := some 120) (v := ?_) (a' := ?_) #[true, true, true, false, false, false, false, false, false, false, false, false] rfl rfl (by kernel_rfl) (fun _ _ _ h => h) (Or.inl ⟨by rfl, ?_⟩) ?_ ?_
            rotate_left
            · intro w'
              go_simp
              with_reducible rfl
            rotate_left
            · simp only [Act.put, List.setIfInBounds_toArray, List.set_cons_zero, List.set_cons_succ, i64_w, i32_w]
              rfl
            refine pure_ (i := 4) (N := some 122) (v := ?_) (a' := ?_) #[true, true, true, false, true, false, false, false, false, false, false, false] rfl rfl (by kernel_rfl) (fun _ _ _ h => h) (Or.inl ⟨by rfl, ?_⟩) ?_ ?_
            rotate_left
            · intro w'
              go_simp
              with_reducible rfl
            rotate_left
            · simp only [Act.put, List.setIfInBounds_toArray, List.set_cons_zero, List.set_cons_succ, i64_w, i32_w]
              rfl
            refine pure_ (i := 5) (N := some 123) (v := ?_) (a' := ?_) #[true, true, true, false, true, true, false, false, false, false, false, false] rfl rfl (by kernel_rfl) (fun _ _ _ h => h) (Or.inl ⟨by rfl, ?_⟩) ?_ ?_
            rotate_left
            · intro w'
              go_simp
              with_reducible rfl
            rotate_left
            · simp only [Act.put, List.setIfInBounds_toArray, List.set_cons_zero, List.set_cons_succ, i64_w, i32_w]
              rfl
            refine pure_ (i := 10) (N := some 128) (v := ?_) (a' := ?_) #[true, true, true, false, true, true, false, false, false, false, true, false] rfl rfl (by kernel_rfl) (fun _ _ _ h => h) (Or.inl ⟨by rfl, ?_⟩) ?_ ?_
            rotate_left
            · intro w'
              go_simp
              with_reducible rfl
            rotate_left
            · simp only [Act.put, List.setIfInBounds_toArray, List.set_cons_zero, List.set_cons_succ, i64_w, i32_w]
              rfl
            refine take_ (i := 3) (N := some 121) (v := ?_) (a' := ?_) #[true, true, true, true, true, true, false, false, false, false, true, false] rfl rfl (by kernel_rfl) (fun _ _ _ h => h) (Or.inl ⟨by rfl, ?_⟩) hHeld ?_ ?_
            rotate_left
            · rintro w' ⟨s0, s1, s2, s3, s4⟩
              go_simp
              with_reducible rfl
            rotate_left
            · simp only [Act.put, List.setIfInBounds_toArray, List.set_cons_zero, List.set_cons_succ, i64_w, i32_w]
              rfl
            refine take_ (i := 6) (N := some 124) (v := ?_) (a' := ?_) #[true, true, true, true, true, true, true, false, false, false, true, false] rfl rfl (by kernel_rfl) (fun _ _ _ h => h) (Or.inl ⟨by rfl, ?_⟩) hHeld ?_ ?_
            rotate_left
            · rintro w' ⟨s0, s1, s2, s3, s4⟩
              go_simp
              with_reducible rfl
            rotate_left
            · simp only [Act.put, List.setIfInBounds_toArray, List.set_cons_zero, List.set_cons_succ, i64_w, i32_w]
              rfl
            refine one_ (i := 7) (N := some 125) #[true, true, true, true, true, true, true, true, false, false, true, false] rfl rfl (by kernel_rfl) (by decide) (fun K hK => ?_)
            refine goes_ Try.func88 (by kernel_rfl) rfl #[.agg #[.int .i64 E.k, .int .i64 E.m, .int .i64 E.c, .bool E.l]] (by rfl) rfl rfl (by simp only [List.map_toArray, List.map_cons, List.map_nil]; rfl) ?_
            with_reducible refine (array_chunk.calls E.k E.m E.c E.l (E.C : Int) _ hch.out).mono ?_
            rintro e wC2 ⟨rfl, hb2⟩
            refine ⟨_, rfl, ?_⟩
            refine hK.out _ _ ⟨pw_cell_below hb2 r0, pw_cell_below hb2 r1, pw_cell_below hb2 r2, pw_cell_below hb2 r3, pw_cell_below hb2 r4⟩ (fun hHeld => ?_)
            clear hK K
            refine norm_ (a' := ?_) ?_ ?_
            rotate_left
            · show Act.put _ (some 125) _ = _
              simp only [Act.put, List.setIfInBounds_toArray, List.set_cons_zero, List.set_cons_succ, i64_w, i32_w]
              rfl
            refine pure_ (i := 8) (N := some 126) (v := ?_) (a' := ?_) #[true, true, true, true, true, true, true, true, true, false, true, false] rfl rfl (by kernel_rfl) (fun _ _ _ h => h) (Or.inl ⟨by rfl, ?_⟩) ?_ ?_
            rotate_left
            · intro w'
              go_simp
              with_reducible rfl
            rotate_left
            · simp only [Act.put, List.setIfInBounds_toArray, List.set_cons_zero, List.set_cons_succ, i64_w, i32_w]
              rfl
            refine pure_ (i := 9) (N := some 127) (v := ?_) (a' := ?_) #[true, true, true, true, true, true, true, true, true, true, true, false] rfl rfl (by kernel_rfl) (fun _ _ _ h => h) (Or.inl ⟨by rfl, ?_⟩) ?_ ?_
            rotate_left
            · intro w'
              go_simp
              with_reducible rfl
            rotate_left
            · simp only [Act.put, List.setIfInBounds_toArray, List.set_cons_zero, List.set_cons_succ, i64_w, i32_w]
              rfl
            refine last_ (i := 11) (N := some 129) #[true, true, true, true, true, true, true, true, true, true, true, true] rfl rfl (by kernel_rfl) (by decide) (fun K hK => ?_)
            refine goes_ Try.func91 (by kernel_rfl) rfl #[.slice (some ⟨gp, lo, none⟩) E.C (cp - lo), .slice AP E.C (c0 - off)] (by rfl) rfl rfl (by simp only [List.map_toArray, List.map_cons, List.map_nil]; rfl) ?_
            with_reducible refine (Mat.xor (hMf.out.below hb2) rfl (below_step hBf.out hb2) hpM ep.out hplen.out hlo hn2 (cp := c0 - off) hcc hCP0.out).mono ?_
            rintro e wC3 ⟨rfl, hMx, hgx, hLx2, hBx⟩
            refine ⟨_, rfl, ?_⟩
            refine hK.out _ _ ?_
            clear hK K
            refine norm_ (a' := ?_) ?_ ?_
            rotate_left
            · show Act.put _ (some 129) _ = _
              simp only [Act.put, List.setIfInBounds_toArray, List.set_cons_zero, List.set_cons_succ, i64_w, i32_w]
              rfl
            refine done_ (by kernel_rfl) ?_
            have hMh := Aside0.mk hMx
            have hBh := Aside0.mk hBx
            have hAh := Aside0.mk (blk_grown (blk_below hAf.out hb2) hgx (fun he => hMf.out.far hpM hop.out hAf.out (by decide) (Option.some.inj he)))
            clear hMx hgx hLx2 hBx hcut3 hHeld r0 r1 r2 r3 r4 hb2 hMf hBf hAf
            have q0 : wC3.cell? ⟨w.heap.size, 0, none⟩ = some (.int .i64 E.k) := (blk_cell hAh.out 0).trans rfl
            have q1 : wC3.cell? ⟨w.heap.size, 1, none⟩ = some (.int .i64 E.m) := (blk_cell hAh.out 1).trans rfl
            have q2 : wC3.cell? ⟨w.heap.size, 2, none⟩ = some (.int .i64 E.c) := (blk_cell hAh.out 2).trans rfl
            have q3 : wC3.cell? ⟨w.heap.size, 3, none⟩ = some (.bool E.l) := (blk_cell hAh.out 3).trans rfl
            go_wp2_with (first | (go_at_call 88; refine (array_chunk.calls E.k E.m E.c E.l (E.C : Int) _ hch.out).mono ?_; rintro e wg ⟨rfl, hbg⟩; have hMg := Aside0.mk (hMh.out.below hbg); have hBg := Aside0.mk (below_step hBh.out hbg); have hAg := Aside0.mk (blk_below hAh.out hbg); clear q0 q1 q2 q3 hbg hMh hBh hAh))
            go_roundw
            case rel => exact ⟨q + 1, off + E.C, by omega, by go_num, hnext, ⟨hMg.out.congr (fun j hj => by rw [hx.out, hlo_.out]; exact memb_xor hmir.out hp.out (fun he => hxp.out (by rw [hx.out, he])) j)⟩, hBg, hAg⟩
            case measure => simp [intOf]; omega
          · skip
            have hmir : E.mir = false := by unfold SE.mir; rw [hk]; rfl
            have hkt : (E.k == 1) = false := by rw [hk]; rfl
            have hpn := Aside0.mk (show p = -1 by rw [hp.out]; unfold SE.p parOf; rw [if_neg (by omega)])
            have hp0 : decide (0 ≤ p) = false := by rw [hpn.out]; rfl
            have hp1 : ¬ (0 ≤ p) := by rw [hpn.out]; decide
            replace hmir := Aside0.mk hmir
            clear hk hk3 hk4
            go_wp2_with (first | (go_at_call 79; refine (array_place.calls E.k E.m E.c E.l (off : Int) (x : Int) (lo : Int) _ hpl.out).mono ?_; rintro e wa ⟨rfl, hba⟩; have hMa := Aside0.mk (hMq.out.below hba); have hBa := Aside0.mk (below_step hBq.out hba); have hAa := Aside0.mk (blk_below hAq.out hba); clear q0 q1 q2 q3 hba hMq hBq hAq hpl; have q0 : wa.cell? ⟨w.heap.size, 0, none⟩ = some (.int .i64 E.k) := (blk_cell hAa.out 0).trans rfl; have q1 : wa.cell? ⟨w.heap.size, 1, none⟩ = some (.int .i64 E.m) := (blk_cell hAa.out 1).trans rfl; have q2 : wa.cell? ⟨w.heap.size, 2, none⟩ = some (.int .i64 E.c) := (blk_cell hAa.out 2).trans rfl; have q3 : wa.cell? ⟨w.heap.size, 3, none⟩ = some (.bool E.l) := (blk_cell hAa.out 3).trans rfl) | (go_at_call 88; have tok2 := tok1; refine (array_chunk.calls E.k E.m E.c E.l (E.C : Int) _ hch.out).mono ?_; rintro e wb ⟨rfl, hbb⟩; have hMb := Aside0.mk (hMa.out.below hbb); have hBb := Aside0.mk (below_step hBa.out hbb); have hAb := Aside0.mk (blk_below hAa.out hbb); clear q0 q1 q2 q3 hbb hMa hBa hAa; obtain ⟨wc, hrc, hMc, hgc, hLg⟩ := hMb.out.copy hxM ex.out hplen.out (by omega) hlo (cp := c0 - off) (Kd.C_below hCP0.out hBb.out); have ecx : wb.cell? ⟨g, x, none⟩ = some (.slice (some ⟨gx, 0, none⟩) n cx) := (hMb.out.cell hxM).trans (congrArg some ex.out); have hBc := Aside0.mk (pw_below_grown hBb.out (some gx) hBb.out.size hgc (fun k hk => by injection hk with hk; omega)); have hAc := Aside0.mk (blk_grown hAb.out hgc (fun he => hMb.out.far hxM hox.out hAb.out (by decide) (Option.some.inj he))); replace hMc := Aside0.mk hMc; clear hgc hLg hMb hBb hAb tok1 tok2; have q0 : wc.cell? ⟨w.heap.size, 0, none⟩ = some (.int .i64 E.k) := (blk_cell hAc.out 0).trans rfl; have q1 : wc.cell? ⟨w.heap.size, 1, none⟩ = some (.int .i64 E.m) := (blk_cell hAc.out 1).trans rfl; have q2 : wc.cell? ⟨w.heap.size, 2, none⟩ = some (.int .i64 E.c) := (blk_cell hAc.out 2).trans rfl; have q3 : wc.cell? ⟨w.heap.size, 3, none⟩ = some (.bool E.l) := (blk_cell hAc.out 3).trans rfl))
            have hMd := Aside0.mk hMc.out.drew
            have hBd := Aside0.mk (below_drew hBc.out)
            have hAd := Aside0.mk (blk_drew hAc.out)
            have r0 : wc.drew.cell? ⟨w.heap.size, 0, none⟩ = some (.int .i64 E.k) := (blk_cell hAd.out 0).trans rfl
            have r1 : wc.drew.cell? ⟨w.heap.size, 1, none⟩ = some (.int .i64 E.m) := (blk_cell hAd.out 1).trans rfl
            have r2 : wc.drew.cell? ⟨w.heap.size, 2, none⟩ = some (.int .i64 E.c) := (blk_cell hAd.out 2).trans rfl
            have r3 : wc.drew.cell? ⟨w.heap.size, 3, none⟩ = some (.bool E.l) := (blk_cell hAd.out 3).trans rfl
            clear q0 hMc hBc hAc
            try clear q1 q2 q3
            refine start_ (n := 7) (S := fun w' => w'.cell? ⟨w.heap.size, 0, none⟩ = some (.int .i64 E.k) ∧ w'.cell? ⟨w.heap.size, 1, none⟩ = some (.int .i64 E.m) ∧ w'.cell? ⟨w.heap.size, 2, none⟩ = some (.int .i64 E.c) ∧ w'.cell? ⟨w.heap.size, 3, none⟩ = some (.bool E.l)) (ds := []) #[false, false, false, false, false, false, false] (by kernel_rfl) rfl rfl ⟨r0, r1, r2, r3⟩ (fun hHeld => ?_)
            generalize wc.drew = wD at r0 r1 r2 r3 hMd hBd hAd hHeld ⊢
            refine pure_ (i := 1) (N := some 111) (v := ?_) (a' := ?_) #[false, true, false, false, false, false, false] rfl rfl (by kernel_rfl) (fun _ _ _ h => h) (Or.inl ⟨by rfl, ?_⟩) ?_ ?_
            rotate_left
            · intro w'
              go_simp
              with_reducible rfl
            rotate_left
            · simp only [Act.put, List.setIfInBounds_toArray, List.set_cons_zero, List.set_cons_succ, i64_w, i32_w]
              rfl
            refine take_ (i := 0) (N := some 110) (v := ?_) (a' := ?_) #[true, true, false, false, false, false, false] rfl rfl (by kernel_rfl) (fun _ _ _ h => h) (Or.inl ⟨by rfl, ?_⟩) hHeld ?_ ?_
            rotate_left
            · rintro w' ⟨s0, s1, s2, s3⟩
              go_simp
              with_reducible rfl
            rotate_left
            · simp only [Act.put, List.setIfInBounds_toArray, List.set_cons_zero, List.set_cons_succ, i64_w, i32_w]
              rfl
            refine take_ (i := 2) (N := some 112) (v := ?_) (a' := ?_) #[true, true, true, false, false, false, false] rfl rfl (by kernel_rfl) (fun _ _ _ h => h) (Or.inl ⟨by rfl, ?_⟩) hHeld ?_ ?_
            rotate_left
            · rintro w' ⟨s0, s1, s2, s3⟩
              go_simp
              with_reducible rfl
            rotate_left
            · simp only [Act.put, List.setIfInBounds_toArray, List.set_cons_zero, List.set_cons_succ, i64_w, i32_w]
              rfl
            refine one_ (i := 3) (N := some 113) #[true, true, true, true, false, false, false] rfl rfl (by kernel_rfl) (by decide) (fun K hK => ?_)
            refine goes_ Try.func88 (by kernel_rfl) rfl #[.agg #[.int .i64 E.k, .int .i64 E.m, .int .i64 E.c, .bool E.l]] (by rfl) rfl rfl (by simp only [List.map_toArray, List.map_cons, List.map_nil]; rfl) ?_
            with_reducible refine (array_chunk.calls E.k E.m E.c E.l (E.C : Int) _ hch.out).mono ?_
            rintro e wC0 ⟨rfl, hb0⟩
            refine ⟨_, rfl, ?_⟩
            refine hK.out _ _ ⟨pw_cell_below hb0 r0, pw_cell_below hb0 r1, pw_cell_below hb0 r2, pw_cell_below hb0 r3⟩ (fun hHeld => ?_)
            clear hK K
            refine norm_ (a' := ?_) ?_ ?_
            rotate_left
            · show Act.put _ (some 113) _ = _
              simp only [Act.put, List.setIfInBounds_toArray, List.set_cons_zero, List.set_cons_succ, i64_w, i32_w]
              rfl
            refine pure_ (i := 4) (N := some 114) (v := ?_) (a' := ?_) #[true, true, true, true, true, false, false] rfl rfl (by kernel_rfl) (fun _ _ _ h => h) (Or.inl ⟨by rfl, ?_⟩) ?_ ?_
            rotate_left
            · intro w'
              go_simp
              with_reducible rfl
            rotate_left
            · simp only [Act.put, List.setIfInBounds_toArray, List.set_cons_zero, List.set_cons_succ, i64_w, i32_w]
              rfl
            refine one_ (i := 5) (N := some 115) #[true, true, true, true, true, true, false] rfl rfl (by kernel_rfl) (by decide) (fun K hK => ?_)
            refine goes_ Try.func90 (by kernel_rfl) rfl #[.agg #[.int .i64 E.k, .int .i64 E.m, .int .i64 E.c, .bool E.l], .int .i64 (wrap64 ((lo : Int) / (E.C : Int)))] (by rfl) rfl rfl (by simp only [List.map_toArray, List.map_cons, List.map_nil]; rfl) ?_
            with_reducible refine (array_odd.calls E.k E.m E.c E.l (wrap64 ((lo : Int) / (E.C : Int))) p _ hlop.out).mono ?_
            rintro e wC1 ⟨rfl, hb1⟩
            refine ⟨_, rfl, ?_⟩
            refine hK.out _ _ ⟨pw_cell_below (below_step hb0 hb1) r0, pw_cell_below (below_step hb0 hb1) r1, pw_cell_below (below_step hb0 hb1) r2, pw_cell_below (below_step hb0 hb1) r3⟩ (fun hHeld => ?_)
            clear hK K
            refine norm_ (a' := ?_) ?_ ?_
            rotate_left
            · show Act.put _ (some 115) _ = _
              simp only [Act.put, List.setIfInBounds_toArray, List.set_cons_zero, List.set_cons_succ, i64_w, i32_w]
              rfl
            refine pure_ (i := 6) (N := some 15) (v := ?_) (a' := ?_) #[true, true, true, true, true, true, true] rfl rfl (by kernel_rfl) (fun _ _ _ h => h) (Or.inl ⟨by rfl, ?_⟩) ?_ ?_
            rotate_left
            · intro w'
              go_simp
              with_reducible rfl
            rotate_left
            · simp only [Act.put, List.setIfInBounds_toArray, List.set_cons_zero, List.set_cons_succ, i64_w, i32_w]
              rfl
            refine done_ (by kernel_rfl) ?_
            have hMe := Aside0.mk (hMd.out.below (below_step hb0 hb1))
            have hBe := Aside0.mk (below_step hBd.out (below_step hb0 hb1))
            have hAe := Aside0.mk (blk_below hAd.out (below_step hb0 hb1))
            clear hMd hBd hAd hHeld r0 r1 r2 r3 hb0 hb1
            have q0 : wC1.cell? ⟨w.heap.size, 0, none⟩ = some (.int .i64 E.k) := (blk_cell hAe.out 0).trans rfl
            have q1 : wC1.cell? ⟨w.heap.size, 1, none⟩ = some (.int .i64 E.m) := (blk_cell hAe.out 1).trans rfl
            have q2 : wC1.cell? ⟨w.heap.size, 2, none⟩ = some (.int .i64 E.c) := (blk_cell hAe.out 2).trans rfl
            have q3 : wC1.cell? ⟨w.heap.size, 3, none⟩ = some (.bool E.l) := (blk_cell hAe.out 3).trans rfl
            go_wp2_with (first | (go_at_call 88; refine (array_chunk.calls E.k E.m E.c E.l (E.C : Int) _ hch.out).mono ?_; rintro e wg ⟨rfl, hbg⟩; have hMg := Aside0.mk (hMe.out.below hbg); have hBg := Aside0.mk (below_step hBe.out hbg); have hAg := Aside0.mk (blk_below hAe.out hbg); clear q0 q1 q2 q3 hbg hMe hBe hAe))
            go_roundw
            case rel => exact ⟨q + 1, off + E.C, by omega, by go_num, hnext, ⟨hMg.out.congr (fun j hj => by rw [hx.out, hlo_.out]; exact memb_put hmir.out (by rw [← hp.out, hpn.out]; decide) j)⟩, hBg, hAg⟩
            case measure => simp [intOf]; omega
        · obtain rfl : q = E.Q := by omega
          have hoe : off = len := by rw [hoff.out, HL.out]; exact HE.out.Q_len
          subst hoe
          clear hlt hqle
          go_wp2
          refine bodyPost_ret (v := .tuple #[.slice (some ⟨g, 0, none⟩) E.M cO, .int .i64 0]) (by simp [results, Try.results48, go_sem]) rfl ?_
          exact ⟨g, cO, rfl, hcO, hMq.out.reads (by omega), hBq.out⟩
end Go.Proofs.Ytdgkbpoljcndgaa.Pure
