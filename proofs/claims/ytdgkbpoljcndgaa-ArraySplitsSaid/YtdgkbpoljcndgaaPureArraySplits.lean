/- The statement ArraySplits, walked: for all bytes and arrays the program and the reference come to the same. No condition but what one argument may take. -/
import Derived.Test.YtdgkbpoljcndgaaPureArraySplitsD
namespace Go.Proofs.Ytdgkbpoljcndgaa.Pure
open Go Go.RowKit Go.Maps Go.Proofs.Ytdgkbpoljcndgaa.QArraySplits Go.Proofs.YtdgkbpoljcndgaaW.PrintWords Go.Proofs.YtdgkbpoljcndgaaW.PrintLast Go.Proofs.YtdgkbpoljcndgaaW.PrintMore Go.Proofs.Ytdgkbpoljcndgaa.ArrayPlain
set_option linter.unusedVariables false
set_option linter.unusedSimpArgs false
theorem fits_of {k m c : Int} {l : Bool} {b : List Int} {len C W M RW nn nm : Nat} (h : SN k m c l len C W M RW nn nm) (hb : b.length = len) (h1 : len ≤ 65536) (h2 : len % RW = 0) (h3 : nm ≤ 65536) : ∃ R, (SE.mk k m c l b M C W R).Fits := by
  have hn := h.nums
  have hr := h.rw_
  have e1 : len = len / RW * (W * C) := by
    have := Nat.div_add_mod len RW
    rw [h2, Nat.add_zero, Nat.mul_comm] at this
    rw [Nat.mul_comm W C, ← h.hRW]; exact this.symm
  have e2 : len / W = len / RW * C := by
    have : len / W = (len / RW * C * W) / W := by rw [Nat.mul_assoc, Nat.mul_comm C W, ← e1]
    rw [this, Nat.mul_div_cancel _ (by omega)]
  refine ⟨len / RW, h.good, h.hM, h.hC, h.hW, hb.trans e1, by show b.length ≤ 65536; omega, ?_⟩
  show len / RW * C * M ≤ 65536
  rw [← e2, ← h.hn, ← h.hm]; exact h3
set_option maxHeartbeats 8000000 in
set_option maxRecDepth 100000 in
/-- what is wrong is told alike -/
theorem as_arr (A0 : Option Addr) (c0 n : Nat) (k m c : Int) (l : Bool) (w : World) (q : Int) (hq : arrErrOf k m c l = q) (hne : q ≠ 0) (hn : n ≤ 140737488351232) (hk : -9223372036854775808 ≤ k ∧ k ≤ 9223372036854775807) :
    Calls Try.prog 9 #[.slice A0 n c0, .agg #[.int .i64 k, .int .i64 m, .int .i64 c, .bool l]] w fun e w' => e = .returned (.bool true) ∧ Below w.heap.size w w' := by
  have hs : splitErr k m c l n = q := by unfold splitErr; rw [if_pos (by rw [hq]; exact hne)]; exact hq
  have hsp := fun W => split_err A0 c0 n k m c l W q hs hne hn
  obtain ⟨ka, hka⟩ := arrays_ev.rounds
  have HKA := Aside0.mk hka
  have HAE := Aside0.mk (show wrackref1_ArrayErr.f k m c l = some q by unfold wrackref1_ArrayErr.f; rw [if_pos hk, hq])
  replace hsp := Aside0.mk hsp
  have hu31 := Try.underlying31
  have hn1 : (q != 0) = true := bne_iff_ne.mpr hne
  have hB := Aside0.mk (below_alloc (Below.refl w.heap.size w) (.cells #[.int .i64 k, .int .i64 m, .int .i64 c, .bool l] 31))
  have hA := Aside0.mk (blk_new w (.cells #[.int .i64 k, .int .i64 m, .int .i64 c, .bool l] 31))
  clear hq hne hs hka hk
  go_enter Try.func9, Try.ntmps9
  go_wp2_with (first
    | (go_at_call 48; refine (hsp.out _).mono ?_; rintro e w1 ⟨rfl, hb1⟩; have hB1 := Aside0.mk (below_step hB.out hb1); have hA1 := Aside0.mk (blk_below hA.out hb1); clear hb1 hB hA; have q0 : w1.cell? ⟨w.heap.size, 0, none⟩ = some (.int .i64 k) := (blk_cell hA1.out 0).trans rfl; have q1 : w1.cell? ⟨w.heap.size, 1, none⟩ = some (.int .i64 m) := (blk_cell hA1.out 1).trans rfl; have q2 : w1.cell? ⟨w.heap.size, 2, none⟩ = some (.int .i64 c) := (blk_cell hA1.out 2).trans rfl; have q3 : w1.cell? ⟨w.heap.size, 3, none⟩ = some (.bool l) := (blk_cell hA1.out 3).trans rfl)
    | (go_at_call 23; refine (wrackref1_ArrayErr.calls k m c l q _ HAE.out).mono ?_; rintro e w2 ⟨rfl, hb2⟩; have hB2 := Aside0.mk (below_step hB1.out hb2); clear hb2 q0 q1 q2 q3)
    | (go_at_call 24; refine (wracklaw1_arrays.calls ka true _ HKA.out).mono ?_; rintro e w3 ⟨rfl, hb3⟩; have hB2 := Aside0.mk (below_step hB2.out hb3); clear hb3))
  go_ret
  exact ⟨rfl, hB2.out⟩
theorem wrap_small {n : Nat} (h : n ≤ 65536) : wrap64 (n : Int) = (n : Int) := by unfold wrap64; omega
theorem wide_of {k m c : Int} {l : Bool} {W : Nat} (h : Good k m c l) (hW : (W : Int) = widthOf k m) : ∃ kw, wrackref1_Wide.f kw k m c l = some (W : Int) := by
  have := order_l0 h 1 (by omega) 1 0 [] [] (by omega) (by omega) (by simp) (by simp)
  have h5 : Ev (fun q => wrackref1_Order.f q k m c l 1) (chunksFrom k m l 1 0, oddFrom k m l 1 0) := by simpa [wrackref1_Order.f] using this
  obtain ⟨kq, hk⟩ := h5.rounds
  refine ⟨kq, ?_⟩
  unfold wrackref1_Wide.f
  rw [hk, Option.bind_some, chunks_len h 1 0, hW]
  simp
set_option maxHeartbeats 8000000 in
set_option maxRecDepth 100000 in
theorem as_large (A0 : Option Addr) (c0 n : Nat) (k m c : Int) (l : Bool) (w : World) (C W M RW nn nm : Nat) (h : SN k m c l n C W M RW nn nm) (he : arrErrOf k m c l = 0) (h1 : 65536 < n) (hn : n ≤ 140737488351232) (hk : -9223372036854775808 ≤ k ∧ k ≤ 9223372036854775807) :
    Calls Try.prog 9 #[.slice A0 n c0, .agg #[.int .i64 k, .int .i64 m, .int .i64 c, .bool l]] w fun e w' => e = .returned (.bool true) ∧ Below w.heap.size w w' := by
  have hnn := h.nums
  have hrwb := h.rw_
  have hs : splitErr k m c l n = 2 := by rw [h.err he]; rw [if_pos (by omega)]
  have hsp := fun W => split_err A0 c0 n k m c l W 2 hs (by decide) hn
  obtain ⟨ka, hka⟩ := arrays_ev.rounds
  have HKA := Aside0.mk hka
  have HAE := Aside0.mk (show wrackref1_ArrayErr.f k m c l = some 0 by unfold wrackref1_ArrayErr.f; rw [if_pos hk, he])
  obtain ⟨kw, hkw⟩ : ∃ kw, wrackref1_Wide.f kw k m c l = some (W : Int) := wide_of h.good h.hW
  have HKW := Aside0.mk hkw
  replace hsp := Aside0.mk hsp
  have hu31 := Try.underlying31
  have hrow := h.row
  have hcm : IntKind.i64.wrap (64 * c) = (C : Int) := by rw [i64_w, ← h.hC]; unfold wrap64; omega
  have hpos : ¬ (RW = 0) := Nat.pos_iff_ne_zero.mp hrwb.1
  have hw1 : ¬ (W = 0) := Nat.pos_iff_ne_zero.mp hnn.2.2.1
  have h65 : decide ((65536 : Int) < (n : Int)) = true := decide_eq_true (by omega)
  have hB := Aside0.mk (below_alloc (Below.refl w.heap.size w) (.cells #[.int .i64 k, .int .i64 m, .int .i64 c, .bool l] 31))
  have hA := Aside0.mk (blk_new w (.cells #[.int .i64 k, .int .i64 m, .int .i64 c, .bool l] 31))
  clear h he hka hkw hk
  go_enter Try.func9, Try.ntmps9
  go_wp2_with (first
    | (go_at_call 48; refine (hsp.out _).mono ?_; rintro e w1 ⟨rfl, hb1⟩; have hB1 := Aside0.mk (below_step hB.out hb1); have hA1 := Aside0.mk (blk_below hA.out hb1); clear hb1 hB hA; have q0 : w1.cell? ⟨w.heap.size, 0, none⟩ = some (.int .i64 k) := (blk_cell hA1.out 0).trans rfl; have q1 : w1.cell? ⟨w.heap.size, 1, none⟩ = some (.int .i64 m) := (blk_cell hA1.out 1).trans rfl; have q2 : w1.cell? ⟨w.heap.size, 2, none⟩ = some (.int .i64 c) := (blk_cell hA1.out 2).trans rfl; have q3 : w1.cell? ⟨w.heap.size, 3, none⟩ = some (.bool l) := (blk_cell hA1.out 3).trans rfl)
    | (go_at_call 23; refine (wrackref1_ArrayErr.calls k m c l 0 _ HAE.out).mono ?_; rintro e w2 ⟨rfl, hb2⟩; have hB2 := Aside0.mk (below_step hB1.out hb2); have hA2 := Aside0.mk (blk_below hA1.out hb2); clear hb2 q0 q1 q2 q3 hB1 hA1)
    | (go_at_call 24; refine (wracklaw1_arrays.calls ka true _ HKA.out).mono ?_; rintro e w9 ⟨rfl, hb9⟩; have hB2 := Aside0.mk (below_step hB2.out hb9); clear hb9))
  go_ret
  exact ⟨rfl, hB2.out⟩
set_option maxHeartbeats 8000000 in
set_option maxRecDepth 100000 in
theorem as_form (A0 : Option Addr) (c0 n : Nat) (k m c : Int) (l : Bool) (w : World) (C W M RW nn nm : Nat) (h : SN k m c l n C W M RW nn nm) (he : arrErrOf k m c l = 0) (h1 : n ≤ 65536) (h2 : n % RW ≠ 0) (hn : n ≤ 140737488351232) (hk : -9223372036854775808 ≤ k ∧ k ≤ 9223372036854775807) :
    Calls Try.prog 9 #[.slice A0 n c0, .agg #[.int .i64 k, .int .i64 m, .int .i64 c, .bool l]] w fun e w' => e = .returned (.bool true) ∧ Below w.heap.size w w' := by
  have hnn := h.nums
  have hrwb := h.rw_
  have hs : splitErr k m c l n = 3 := by rw [h.err he]; rw [if_neg (by omega), if_pos h2]
  have hsp := fun W => split_err A0 c0 n k m c l W 3 hs (by decide) hn
  obtain ⟨ka, hka⟩ := arrays_ev.rounds
  have HKA := Aside0.mk hka
  have HAE := Aside0.mk (show wrackref1_ArrayErr.f k m c l = some 0 by unfold wrackref1_ArrayErr.f; rw [if_pos hk, he])
  obtain ⟨kw, hkw⟩ : ∃ kw, wrackref1_Wide.f kw k m c l = some (W : Int) := wide_of h.good h.hW
  have HKW := Aside0.mk hkw
  replace hsp := Aside0.mk hsp
  have hu31 := Try.underlying31
  have hrow := h.row
  have hcm : IntKind.i64.wrap (64 * c) = (C : Int) := by rw [i64_w, ← h.hC]; unfold wrap64; omega
  have hpos : ¬ (RW = 0) := Nat.pos_iff_ne_zero.mp hrwb.1
  have hw1 : ¬ (W = 0) := Nat.pos_iff_ne_zero.mp hnn.2.2.1
  have h65 : decide ((65536 : Int) < (n : Int)) = false := decide_eq_false (by omega)
  have hmd : decide ((0 : Int) < (n : Int) % (RW : Int)) = true := by
    rw [← Int.natCast_emod]; exact decide_eq_true (by omega)
  have hmd2 : decide ((0 : Int) < Int.tmod (n : Int) (RW : Int)) = true := by rw [Int.tmod_eq_emod_of_nonneg (Int.natCast_nonneg _)]; exact hmd
  have hB := Aside0.mk (below_alloc (Below.refl w.heap.size w) (.cells #[.int .i64 k, .int .i64 m, .int .i64 c, .bool l] 31))
  have hA := Aside0.mk (blk_new w (.cells #[.int .i64 k, .int .i64 m, .int .i64 c, .bool l] 31))
  clear h he hka hkw hk
  go_enter Try.func9, Try.ntmps9
  go_wp2_with (first
    | (go_at_call 48; refine (hsp.out _).mono ?_; rintro e w1 ⟨rfl, hb1⟩; have hB1 := Aside0.mk (below_step hB.out hb1); have hA1 := Aside0.mk (blk_below hA.out hb1); clear hb1 hB hA; have q0 : w1.cell? ⟨w.heap.size, 0, none⟩ = some (.int .i64 k) := (blk_cell hA1.out 0).trans rfl; have q1 : w1.cell? ⟨w.heap.size, 1, none⟩ = some (.int .i64 m) := (blk_cell hA1.out 1).trans rfl; have q2 : w1.cell? ⟨w.heap.size, 2, none⟩ = some (.int .i64 c) := (blk_cell hA1.out 2).trans rfl; have q3 : w1.cell? ⟨w.heap.size, 3, none⟩ = some (.bool l) := (blk_cell hA1.out 3).trans rfl)
    | (go_at_call 23; refine (wrackref1_ArrayErr.calls k m c l 0 _ HAE.out).mono ?_; rintro e w2 ⟨rfl, hb2⟩; have hB2 := Aside0.mk (below_step hB1.out hb2); have hA2 := Aside0.mk (blk_below hA1.out hb2); clear hb2 q0 q1 q2 q3 hB1 hA1))
  have hBd := Aside0.mk (below_drew hB2.out)
  have hAd := Aside0.mk (blk_drew hA2.out)
  have r0 : w2.drew.cell? ⟨w.heap.size, 0, none⟩ = some (.int .i64 k) := (blk_cell hAd.out 0).trans rfl
  have r1 : w2.drew.cell? ⟨w.heap.size, 1, none⟩ = some (.int .i64 m) := (blk_cell hAd.out 1).trans rfl
  have r2 : w2.drew.cell? ⟨w.heap.size, 2, none⟩ = some (.int .i64 c) := (blk_cell hAd.out 2).trans rfl
  have r3 : w2.drew.cell? ⟨w.heap.size, 3, none⟩ = some (.bool l) := (blk_cell hAd.out 3).trans rfl
  clear hB2 hA2
  refine start_ (n := 11) (S := fun w' => w'.cell? ⟨w.heap.size, 0, none⟩ = some (.int .i64 k) ∧ w'.cell? ⟨w.heap.size, 1, none⟩ = some (.int .i64 m) ∧ w'.cell? ⟨w.heap.size, 2, none⟩ = some (.int .i64 c) ∧ w'.cell? ⟨w.heap.size, 3, none⟩ = some (.bool l)) (ds := []) #[false, false, false, false, false, false, false, false, false, false, false] (by kernel_rfl) rfl rfl ⟨r0, r1, r2, r3⟩ (fun hHeld => ?_)
  generalize w2.drew = wD at r0 r1 r2 r3 hBd hAd hHeld ⊢
  refine pure_ (i := 0) (N := some 24) (v := ?_) (a' := ?_) #[true, false, false, false, false, false, false, false, false, false, false] rfl rfl (by kernel_rfl) (fun _ _ _ h => h) (Or.inl ⟨by rfl, ?_⟩) ?_ ?_
  rotate_left
  · intro w'
    go_simp
    with_reducible rfl
  rotate_left
  · simp only [Act.put, List.setIfInBounds_toArray, List.set_cons_zero, List.set_cons_succ, i64_w, i32_w]
    rfl
  refine pure_ (i := 1) (N := some 25) (v := ?_) (a' := ?_) #[true, true, false, false, false, false, false, false, false, false, false] rfl rfl (by kernel_rfl) (fun _ _ _ h => h) (Or.inl ⟨by rfl, ?_⟩) ?_ ?_
  rotate_left
  · intro w'
    go_simp
    with_reducible rfl
  rotate_left
  · simp only [Act.put, List.setIfInBounds_toArray, List.set_cons_zero, List.set_cons_succ, i64_w, i32_w]
    rfl
  refine pure_ (i := 2) (N := some 26) (v := ?_) (a' := ?_) #[true, true, true, false, false, false, false, false, false, false, false] rfl rfl (by kernel_rfl) (fun _ _ _ h => h) (Or.inl ⟨by rfl, ?_⟩) ?_ ?_
  rotate_left
  · intro w'
    go_simp
    with_reducible rfl
  rotate_left
  · simp only [Act.put, List.setIfInBounds_toArray, List.set_cons_zero, List.set_cons_succ, i64_w, i32_w]
    rfl
  refine take_ (i := 3) (N := some 27) (v := ?_) (a' := ?_) #[true, true, true, true, false, false, false, false, false, false, false] rfl rfl (by kernel_rfl) (fun _ _ _ h => h) (Or.inl ⟨by rfl, ?_⟩) hHeld ?_ ?_
  rotate_left
  · rintro w' ⟨s0, s1, s2, s3⟩
    go_simp
    with_reducible rfl
  rotate_left
  · simp only [Act.put, List.setIfInBounds_toArray, List.set_cons_zero, List.set_cons_succ, i64_w, i32_w]
    rfl
  refine pure_ (i := 4) (N := some 28) (v := ?_) (a' := ?_) #[true, true, true, true, true, false, false, false, false, false, false] rfl rfl (by kernel_rfl) (fun _ _ _ h => h) (Or.inl ⟨by rfl, ?_⟩) ?_ ?_
  rotate_left
  · intro w'
    go_simp
    with_reducible rfl
  rotate_left
  · simp only [Act.put, List.setIfInBounds_toArray, List.set_cons_zero, List.set_cons_succ, i64_w, i32_w]
    rfl
  refine take_ (i := 5) (N := some 29) (v := ?_) (a' := ?_) #[true, true, true, true, true, true, false, false, false, false, false] rfl rfl (by kernel_rfl) (fun _ _ _ h => h) (Or.inl ⟨by rfl, ?_⟩) hHeld ?_ ?_
  rotate_left
  · rintro w' ⟨s0, s1, s2, s3⟩
    go_simp
    with_reducible rfl
  rotate_left
  · simp only [Act.put, List.setIfInBounds_toArray, List.set_cons_zero, List.set_cons_succ, i64_w, i32_w]
    rfl
  refine one_ (i := 6) (N := some 30) #[true, true, true, true, true, true, true, false, false, false, false] rfl rfl (by kernel_rfl) (by decide) (fun K hK => ?_)
  refine goes_ Try.func49 (by kernel_rfl) rfl #[.agg #[.int .i64 k, .int .i64 m, .int .i64 c, .bool l]] (by rfl) rfl rfl (by simp only [List.map_toArray, List.map_cons, List.map_nil]; rfl) ?_
  with_reducible refine (wrackref1_Wide.calls kw k m c l (W : Int) _ HKW.out).mono ?_
  rintro e wK3 ⟨rfl, hb0⟩
  refine ⟨_, rfl, ?_⟩
  refine hK.out _ _ ⟨pw_cell_below hb0 r0, pw_cell_below hb0 r1, pw_cell_below hb0 r2, pw_cell_below hb0 r3⟩ (fun hHeld => ?_)
  clear hK K
  refine norm_ (a' := ?_) ?_ ?_
  rotate_left
  · show Act.put _ (some 30) _ = _
    simp only [Act.put, List.setIfInBounds_toArray, List.set_cons_zero, List.set_cons_succ, i64_w, i32_w]
    rfl
  refine pure_ (i := 7) (N := some 31) (v := ?_) (a' := ?_) #[true, true, true, true, true, true, true, true, false, false, false] rfl rfl (by kernel_rfl) (fun _ _ _ h => h) (Or.inl ⟨by rfl, ?_⟩) ?_ ?_
  rotate_left
  · intro w'
    go_simp
    with_reducible rfl
  rotate_left
  · simp only [Act.put, List.setIfInBounds_toArray, List.set_cons_zero, List.set_cons_succ, i64_w, i32_w]
    rfl
  refine pure_ (i := 8) (N := some 32) (v := ?_) (a' := ?_) #[true, true, true, true, true, true, true, true, true, false, false] rfl rfl (by kernel_rfl) (fun _ _ _ h => h) (Or.inl ⟨by rfl, ?_⟩) ?_ ?_
  rotate_left
  · intro w'
    go_simp
    with_reducible rfl
  rotate_left
  · simp only [Act.put, List.setIfInBounds_toArray, List.set_cons_zero, List.set_cons_succ, i64_w, i32_w]
    rfl
  refine pure_ (i := 9) (N := some 33) (v := ?_) (a' := ?_) #[true, true, true, true, true, true, true, true, true, true, false] rfl rfl (by kernel_rfl) (fun _ _ _ h => h) (Or.inl ⟨by rfl, ?_⟩) ?_ ?_
  rotate_left
  · intro w'
    go_simp
    with_reducible rfl
  rotate_left
  · simp only [Act.put, List.setIfInBounds_toArray, List.set_cons_zero, List.set_cons_succ, i64_w, i32_w]
    rfl
  refine pure_ (i := 10) (N := some 23) (v := ?_) (a' := ?_) #[true, true, true, true, true, true, true, true, true, true, true] rfl rfl (by kernel_rfl) (fun _ _ _ h => h) (Or.inl ⟨by rfl, ?_⟩) ?_ ?_
  rotate_left
  · intro w'
    go_simp
    with_reducible rfl
  rotate_left
  · simp only [Act.put, List.setIfInBounds_toArray, List.set_cons_zero, List.set_cons_succ, i64_w, i32_w]
    rfl
  refine done_ (by kernel_rfl) ?_
  have hB3 := Aside0.mk (below_step hBd.out hb0)
  have hA3 := Aside0.mk (blk_below hAd.out hb0)
  clear hBd hAd hHeld r0 r1 r2 r3 hb0
  go_wp2_with (first
    | (go_at_call 24; refine (wracklaw1_arrays.calls ka true _ HKA.out).mono ?_; rintro e w9 ⟨rfl, hb9⟩; have hB3 := Aside0.mk (below_step hB3.out hb9); clear hb9))
  go_ret
  exact ⟨rfl, hB3.out⟩
set_option maxHeartbeats 8000000 in
set_option maxRecDepth 100000 in
theorem as_whole (A0 : Option Addr) (c0 n : Nat) (k m c : Int) (l : Bool) (w : World) (C W M RW nn nm : Nat) (h : SN k m c l n C W M RW nn nm) (he : arrErrOf k m c l = 0) (h1 : n ≤ 65536) (h2 : n % RW = 0) (h3 : 65536 < nm) (hn : n ≤ 140737488351232) (hk : -9223372036854775808 ≤ k ∧ k ≤ 9223372036854775807) :
    Calls Try.prog 9 #[.slice A0 n c0, .agg #[.int .i64 k, .int .i64 m, .int .i64 c, .bool l]] w fun e w' => e = .returned (.bool true) ∧ Below w.heap.size w w' := by
  have hnn := h.nums
  have hrwb := h.rw_
  have hs : splitErr k m c l n = 2 := by rw [h.err he]; rw [if_neg (by omega), if_neg (by simpa using h2), if_pos h3]
  have hsp := fun W => split_err A0 c0 n k m c l W 2 hs (by decide) hn
  obtain ⟨ka, hka⟩ := arrays_ev.rounds
  have HKA := Aside0.mk hka
  have HAE := Aside0.mk (show wrackref1_ArrayErr.f k m c l = some 0 by unfold wrackref1_ArrayErr.f; rw [if_pos hk, he])
  obtain ⟨kw, hkw⟩ : ∃ kw, wrackref1_Wide.f kw k m c l = some (W : Int) := wide_of h.good h.hW
  have HKW := Aside0.mk hkw
  replace hsp := Aside0.mk hsp
  have hu31 := Try.underlying31
  have hrow := h.row
  have hcm : IntKind.i64.wrap (64 * c) = (C : Int) := by rw [i64_w, ← h.hC]; unfold wrap64; omega
  have hpos : ¬ (RW = 0) := Nat.pos_iff_ne_zero.mp hrwb.1
  have hw1 : ¬ (W = 0) := Nat.pos_iff_ne_zero.mp hnn.2.2.1
  have h65 : decide ((65536 : Int) < (n : Int)) = false := decide_eq_false (by omega)
  have hmd : decide ((0 : Int) < (n : Int) % (RW : Int)) = false := by
    rw [← Int.natCast_emod, h2]; rfl
  have hmd2 : decide ((0 : Int) < Int.tmod (n : Int) (RW : Int)) = false := by rw [Int.tmod_eq_emod_of_nonneg (Int.natCast_nonneg _)]; exact hmd
  obtain ⟨hnb, hq2, hqt, hnmb, hnm⟩ := h.quo h1
  have hqt0 : wrap64 (Int.tdiv (n : Int) (W : Int)) = (nn : Int) := by rw [Int.tdiv_eq_ediv_of_nonneg (Int.natCast_nonneg _)]; exact hqt
  have hwn : wrap64 (nn : Int) = (nn : Int) := wrap_small hnb
  have h66 : decide ((65536 : Int) < (nm : Int)) = true := decide_eq_true (by omega)
  have hB := Aside0.mk (below_alloc (Below.refl w.heap.size w) (.cells #[.int .i64 k, .int .i64 m, .int .i64 c, .bool l] 31))
  have hA := Aside0.mk (blk_new w (.cells #[.int .i64 k, .int .i64 m, .int .i64 c, .bool l] 31))
  clear h he hka hkw hk
  go_enter Try.func9, Try.ntmps9
  go_wp2_with (first
    | (go_at_call 48; refine (hsp.out _).mono ?_; rintro e w1 ⟨rfl, hb1⟩; have hB1 := Aside0.mk (below_step hB.out hb1); have hA1 := Aside0.mk (blk_below hA.out hb1); clear hb1 hB hA; have q0 : w1.cell? ⟨w.heap.size, 0, none⟩ = some (.int .i64 k) := (blk_cell hA1.out 0).trans rfl; have q1 : w1.cell? ⟨w.heap.size, 1, none⟩ = some (.int .i64 m) := (blk_cell hA1.out 1).trans rfl; have q2 : w1.cell? ⟨w.heap.size, 2, none⟩ = some (.int .i64 c) := (blk_cell hA1.out 2).trans rfl; have q3 : w1.cell? ⟨w.heap.size, 3, none⟩ = some (.bool l) := (blk_cell hA1.out 3).trans rfl)
    | (go_at_call 23; refine (wrackref1_ArrayErr.calls k m c l 0 _ HAE.out).mono ?_; rintro e w2 ⟨rfl, hb2⟩; have hB2 := Aside0.mk (below_step hB1.out hb2); have hA2 := Aside0.mk (blk_below hA1.out hb2); clear hb2 q0 q1 q2 q3 hB1 hA1))
  have hBd := Aside0.mk (below_drew hB2.out)
  have hAd := Aside0.mk (blk_drew hA2.out)
  have r0 : w2.drew.cell? ⟨w.heap.size, 0, none⟩ = some (.int .i64 k) := (blk_cell hAd.out 0).trans rfl
  have r1 : w2.drew.cell? ⟨w.heap.size, 1, none⟩ = some (.int .i64 m) := (blk_cell hAd.out 1).trans rfl
  have r2 : w2.drew.cell? ⟨w.heap.size, 2, none⟩ = some (.int .i64 c) := (blk_cell hAd.out 2).trans rfl
  have r3 : w2.drew.cell? ⟨w.heap.size, 3, none⟩ = some (.bool l) := (blk_cell hAd.out 3).trans rfl
  clear hB2 hA2
  refine start_ (n := 11) (S := fun w' => w'.cell? ⟨w.heap.size, 0, none⟩ = some (.int .i64 k) ∧ w'.cell? ⟨w.heap.size, 1, none⟩ = some (.int .i64 m) ∧ w'.cell? ⟨w.heap.size, 2, none⟩ = some (.int .i64 c) ∧ w'.cell? ⟨w.heap.size, 3, none⟩ = some (.bool l)) (ds := []) #[false, false, false, false, false, false, false, false, false, false, false] (by kernel_rfl) rfl rfl ⟨r0, r1, r2, r3⟩ (fun hHeld => ?_)
  generalize w2.drew = wD at r0 r1 r2 r3 hBd hAd hHeld ⊢
  refine pure_ (i := 0) (N := some 24) (v := ?_) (a' := ?_) #[true, false, false, false, false, false, false, false, false, false, false] rfl rfl (by kernel_rfl) (fun _ _ _ h => h) (Or.inl ⟨by rfl, ?_⟩) ?_ ?_
  rotate_left
  · intro w'
    go_simp
    with_reducible rfl
  rotate_left
  · simp only [Act.put, List.setIfInBounds_toArray, List.set_cons_zero, List.set_cons_succ, i64_w, i32_w]
    rfl
  refine pure_ (i := 1) (N := some 25) (v := ?_) (a' := ?_) #[true, true, false, false, false, false, false, false, false, false, false] rfl rfl (by kernel_rfl) (fun _ _ _ h => h) (Or.inl ⟨by rfl, ?_⟩) ?_ ?_
  rotate_left
  · intro w'
    go_simp
    with_reducible rfl
  rotate_left
  · simp only [Act.put, List.setIfInBounds_toArray, List.set_cons_zero, List.set_cons_succ, i64_w, i32_w]
    rfl
  refine pure_ (i := 2) (N := some 26) (v := ?_) (a' := ?_) #[true, true, true, false, false, false, false, false, false, false, false] rfl rfl (by kernel_rfl) (fun _ _ _ h => h) (Or.inl ⟨by rfl, ?_⟩) ?_ ?_
  rotate_left
  · intro w'
    go_simp
    with_reducible rfl
  rotate_left
  · simp only [Act.put, List.setIfInBounds_toArray, List.set_cons_zero, List.set_cons_succ, i64_w, i32_w]
    rfl
  refine take_ (i := 3) (N := some 27) (v := ?_) (a' := ?_) #[true, true, true, true, false, false, false, false, false, false, false] rfl rfl (by kernel_rfl) (fun _ _ _ h => h) (Or.inl ⟨by rfl, ?_⟩) hHeld ?_ ?_
  rotate_left
  · rintro w' ⟨s0, s1, s2, s3⟩
    go_simp
    with_reducible rfl
  rotate_left
  · simp only [Act.put, List.setIfInBounds_toArray, List.set_cons_zero, List.set_cons_succ, i64_w, i32_w]
    rfl
  refine pure_ (i := 4) (N := some 28) (v := ?_) (a' := ?_) #[true, true, true, true, true, false, false, false, false, false, false] rfl rfl (by kernel_rfl) (fun _ _ _ h => h) (Or.inl ⟨by rfl, ?_⟩) ?_ ?_
  rotate_left
  · intro w'
    go_simp
    with_reducible rfl
  rotate_left
  · simp only [Act.put, List.setIfInBounds_toArray, List.set_cons_zero, List.set_cons_succ, i64_w, i32_w]
    rfl
  refine take_ (i := 5) (N := some 29) (v := ?_) (a' := ?_) #[true, true, true, true, true, true, false, false, false, false, false] rfl rfl (by kernel_rfl) (fun _ _ _ h => h) (Or.inl ⟨by rfl, ?_⟩) hHeld ?_ ?_
  rotate_left
  · rintro w' ⟨s0, s1, s2, s3⟩
    go_simp
    with_reducible rfl
  rotate_left
  · simp only [Act.put, List.setIfInBounds_toArray, List.set_cons_zero, List.set_cons_succ, i64_w, i32_w]
    rfl
  refine one_ (i := 6) (N := some 30) #[true, true, true, true, true, true, true, false, false, false, false] rfl rfl (by kernel_rfl) (by decide) (fun K hK => ?_)
  refine goes_ Try.func49 (by kernel_rfl) rfl #[.agg #[.int .i64 k, .int .i64 m, .int .i64 c, .bool l]] (by rfl) rfl rfl (by simp only [List.map_toArray, List.map_cons, List.map_nil]; rfl) ?_
  with_reducible refine (wrackref1_Wide.calls kw k m c l (W : Int) _ HKW.out).mono ?_
  rintro e wK3 ⟨rfl, hb0⟩
  refine ⟨_, rfl, ?_⟩
  refine hK.out _ _ ⟨pw_cell_below hb0 r0, pw_cell_below hb0 r1, pw_cell_below hb0 r2, pw_cell_below hb0 r3⟩ (fun hHeld => ?_)
  clear hK K
  refine norm_ (a' := ?_) ?_ ?_
  rotate_left
  · show Act.put _ (some 30) _ = _
    simp only [Act.put, List.setIfInBounds_toArray, List.set_cons_zero, List.set_cons_succ, i64_w, i32_w]
    rfl
  refine pure_ (i := 7) (N := some 31) (v := ?_) (a' := ?_) #[true, true, true, true, true, true, true, true, false, false, false] rfl rfl (by kernel_rfl) (fun _ _ _ h => h) (Or.inl ⟨by rfl, ?_⟩) ?_ ?_
  rotate_left
  · intro w'
    go_simp
    with_reducible rfl
  rotate_left
  · simp only [Act.put, List.setIfInBounds_toArray, List.set_cons_zero, List.set_cons_succ, i64_w, i32_w]
    rfl
  refine pure_ (i := 8) (N := some 32) (v := ?_) (a' := ?_) #[true, true, true, true, true, true, true, true, true, false, false] rfl rfl (by kernel_rfl) (fun _ _ _ h => h) (Or.inl ⟨by rfl, ?_⟩) ?_ ?_
  rotate_left
  · intro w'
    go_simp
    with_reducible rfl
  rotate_left
  · simp only [Act.put, List.setIfInBounds_toArray, List.set_cons_zero, List.set_cons_succ, i64_w, i32_w]
    rfl
  refine pure_ (i := 9) (N := some 33) (v := ?_) (a' := ?_) #[true, true, true, true, true, true, true, true, true, true, false] rfl rfl (by kernel_rfl) (fun _ _ _ h => h) (Or.inl ⟨by rfl, ?_⟩) ?_ ?_
  rotate_left
  · intro w'
    go_simp
    with_reducible rfl
  rotate_left
  · simp only [Act.put, List.setIfInBounds_toArray, List.set_cons_zero, List.set_cons_succ, i64_w, i32_w]
    rfl
  refine pure_ (i := 10) (N := some 23) (v := ?_) (a' := ?_) #[true, true, true, true, true, true, true, true, true, true, true] rfl rfl (by kernel_rfl) (fun _ _ _ h => h) (Or.inl ⟨by rfl, ?_⟩) ?_ ?_
  rotate_left
  · intro w'
    go_simp
    with_reducible rfl
  rotate_left
  · simp only [Act.put, List.setIfInBounds_toArray, List.set_cons_zero, List.set_cons_succ, i64_w, i32_w]
    rfl
  refine done_ (by kernel_rfl) ?_
  have hB3 := Aside0.mk (below_step hBd.out hb0)
  have hA3 := Aside0.mk (blk_below hAd.out hb0)
  clear hBd hAd hHeld r0 r1 r2 r3 hb0
  go_wp2
  have hBd := Aside0.mk (below_drew hB3.out)
  have hAd := Aside0.mk (blk_drew hA3.out)
  have r0 : wK3.drew.cell? ⟨w.heap.size, 0, none⟩ = some (.int .i64 k) := (blk_cell hAd.out 0).trans rfl
  have r1 : wK3.drew.cell? ⟨w.heap.size, 1, none⟩ = some (.int .i64 m) := (blk_cell hAd.out 1).trans rfl
  have r2 : wK3.drew.cell? ⟨w.heap.size, 2, none⟩ = some (.int .i64 c) := (blk_cell hAd.out 2).trans rfl
  have r3 : wK3.drew.cell? ⟨w.heap.size, 3, none⟩ = some (.bool l) := (blk_cell hAd.out 3).trans rfl
  clear hB3 hA3
  refine start_ (n := 10) (S := fun w' => w'.cell? ⟨w.heap.size, 0, none⟩ = some (.int .i64 k) ∧ w'.cell? ⟨w.heap.size, 1, none⟩ = some (.int .i64 m) ∧ w'.cell? ⟨w.heap.size, 2, none⟩ = some (.int .i64 c) ∧ w'.cell? ⟨w.heap.size, 3, none⟩ = some (.bool l)) (ds := []) #[false, false, false, false, false, false, false, false, false, false] (by kernel_rfl) rfl rfl ⟨r0, r1, r2, r3⟩ (fun hHeld => ?_)
  generalize wK3.drew = wD at r0 r1 r2 r3 hBd hAd hHeld ⊢
  refine pure_ (i := 0) (N := some 35) (v := ?_) (a' := ?_) #[true, false, false, false, false, false, false, false, false, false] rfl rfl (by kernel_rfl) (fun _ _ _ h => h) (Or.inl ⟨by rfl, ?_⟩) ?_ ?_
  rotate_left
  · intro w'
    go_simp
    with_reducible rfl
  rotate_left
  · simp only [Act.put, List.setIfInBounds_toArray, List.set_cons_zero, List.set_cons_succ, i64_w, i32_w]
    rfl
  refine pure_ (i := 1) (N := some 36) (v := ?_) (a' := ?_) #[true, true, false, false, false, false, false, false, false, false] rfl rfl (by kernel_rfl) (fun _ _ _ h => h) (Or.inl ⟨by rfl, ?_⟩) ?_ ?_
  rotate_left
  · intro w'
    go_simp
    with_reducible rfl
  rotate_left
  · simp only [Act.put, List.setIfInBounds_toArray, List.set_cons_zero, List.set_cons_succ, i64_w, i32_w]
    rfl
  refine pure_ (i := 5) (N := some 40) (v := ?_) (a' := ?_) #[true, true, false, false, false, true, false, false, false, false] rfl rfl (by kernel_rfl) (fun _ _ _ h => h) (Or.inl ⟨by rfl, ?_⟩) ?_ ?_
  rotate_left
  · intro w'
    go_simp
    with_reducible rfl
  rotate_left
  · simp only [Act.put, List.setIfInBounds_toArray, List.set_cons_zero, List.set_cons_succ, i64_w, i32_w]
    rfl
  refine take_ (i := 2) (N := some 37) (v := ?_) (a' := ?_) #[true, true, true, false, false, true, false, false, false, false] rfl rfl (by kernel_rfl) (fun _ _ _ h => h) (Or.inl ⟨by rfl, ?_⟩) hHeld ?_ ?_
  rotate_left
  · rintro w' ⟨s0, s1, s2, s3⟩
    go_simp
    with_reducible rfl
  rotate_left
  · simp only [Act.put, List.setIfInBounds_toArray, List.set_cons_zero, List.set_cons_succ, i64_w, i32_w]
    rfl
  refine take_ (i := 6) (N := some 41) (v := ?_) (a' := ?_) #[true, true, true, false, false, true, true, false, false, false] rfl rfl (by kernel_rfl) (fun _ _ _ h => h) (Or.inl ⟨by rfl, ?_⟩) hHeld ?_ ?_
  rotate_left
  · rintro w' ⟨s0, s1, s2, s3⟩
    go_simp
    with_reducible rfl
  rotate_left
  · simp only [Act.put, List.setIfInBounds_toArray, List.set_cons_zero, List.set_cons_succ, i64_w, i32_w]
    rfl
  refine one_ (i := 3) (N := some 38) #[true, true, true, true, false, true, true, false, false, false] rfl rfl (by kernel_rfl) (by decide) (fun K hK => ?_)
  refine goes_ Try.func49 (by kernel_rfl) rfl #[.agg #[.int .i64 k, .int .i64 m, .int .i64 c, .bool l]] (by rfl) rfl rfl (by simp only [List.map_toArray, List.map_cons, List.map_nil]; rfl) ?_
  with_reducible refine (wrackref1_Wide.calls kw k m c l (W : Int) _ HKW.out).mono ?_
  rintro e wK4 ⟨rfl, hb0⟩
  refine ⟨_, rfl, ?_⟩
  refine hK.out _ _ ⟨pw_cell_below hb0 r0, pw_cell_below hb0 r1, pw_cell_below hb0 r2, pw_cell_below hb0 r3⟩ (fun hHeld => ?_)
  clear hK K
  refine norm_ (a' := ?_) ?_ ?_
  rotate_left
  · show Act.put _ (some 38) _ = _
    simp only [Act.put, List.setIfInBounds_toArray, List.set_cons_zero, List.set_cons_succ, i64_w, i32_w]
    rfl
  refine pure_ (i := 4) (N := some 39) (v := ?_) (a' := ?_) #[true, true, true, true, true, true, true, false, false, false] rfl rfl (by kernel_rfl) (fun _ _ _ h => h) (Or.inl ⟨by rfl, ?_⟩) ?_ ?_
  rotate_left
  · intro w'
    go_simp
    with_reducible rfl
  rotate_left
  · simp only [Act.put, List.setIfInBounds_toArray, List.set_cons_zero, List.set_cons_succ, i64_w, i32_w]
    rfl
  refine pure_ (i := 7) (N := some 42) (v := ?_) (a' := ?_) #[true, true, true, true, true, true, true, true, false, false] rfl rfl (by kernel_rfl) (fun _ _ _ h => h) (Or.inl ⟨by rfl, ?_⟩) ?_ ?_
  rotate_left
  · intro w'
    go_simp
    with_reducible rfl
  rotate_left
  · simp only [Act.put, List.setIfInBounds_toArray, List.set_cons_zero, List.set_cons_succ, i64_w, i32_w]
    rfl
  refine pure_ (i := 8) (N := some 43) (v := ?_) (a' := ?_) #[true, true, true, true, true, true, true, true, true, false] rfl rfl (by kernel_rfl) (fun _ _ _ h => h) (Or.inl ⟨by rfl, ?_⟩) ?_ ?_
  rotate_left
  · intro w'
    go_simp
    with_reducible rfl
  rotate_left
  · simp only [Act.put, List.setIfInBounds_toArray, List.set_cons_zero, List.set_cons_succ, i64_w, i32_w]
    rfl
  refine pure_ (i := 9) (N := some 34) (v := ?_) (a' := ?_) #[true, true, true, true, true, true, true, true, true, true] rfl rfl (by kernel_rfl) (fun _ _ _ h => h) (Or.inl ⟨by rfl, ?_⟩) ?_ ?_
  rotate_left
  · intro w'
    go_simp
    with_reducible rfl
  rotate_left
  · simp only [Act.put, List.setIfInBounds_toArray, List.set_cons_zero, List.set_cons_succ, i64_w, i32_w]
    rfl
  refine done_ (by kernel_rfl) ?_
  have hB4 := Aside0.mk (below_step hBd.out hb0)
  have hA4 := Aside0.mk (blk_below hAd.out hb0)
  clear hBd hAd hHeld r0 r1 r2 r3 hb0
  go_wp2_with (first
    | (go_at_call 24; refine (wracklaw1_arrays.calls ka true _ HKA.out).mono ?_; rintro e w9 ⟨rfl, hb9⟩; have hB4 := Aside0.mk (below_step hB4.out hb9); clear hb9))
  go_ret
  exact ⟨rfl, hB4.out⟩
set_option maxHeartbeats 8000000 in
set_option maxRecDepth 100000 in
theorem as_ok (A0 : Option Addr) (c0 : Nat) (b : List Int) (k m c : Int) (l : Bool) (w : World) (C W M RW nn nm R : Nat) (h : SN k m c l b.length C W M RW nn nm) (he : arrErrOf k m c l = 0) (h1 : b.length ≤ 65536) (h2 : b.length % RW = 0) (h3 : nm ≤ 65536) (hF : (SE.mk k m c l b M C W R).Fits) (hr : Kd.C (Kd.int .u8) w A0 b.length b) (hc : b.length ≤ c0) (hn : b.length ≤ 140737488351232) (hk : -9223372036854775808 ≤ k ∧ k ≤ 9223372036854775807) :
    Calls Try.prog 9 #[.slice A0 b.length c0, .agg #[.int .i64 k, .int .i64 m, .int .i64 c, .bool l]] w fun e w' => e = .returned (.bool true) ∧ Below w.heap.size w w' := by
  have hnn := h.nums
  have hrwb := h.rw_
  have hsp := fun Wo k0 => split_ok ⟨k, m, c, l, b, M, C, W, R⟩ hF A0 c0 Wo he k0 hc
  have hmb := fun Wo k0 => members_ok ⟨k, m, c, l, b, M, C, W, R⟩ hF A0 c0 Wo k0 hc
  obtain ⟨rows, hrows⟩ : ∃ r, r = (List.range M).map (memb ⟨k, m, c, l, b, M, C, W, R⟩ (SE.Q ⟨k, m, c, l, b, M, C, W, R⟩)) := ⟨_, rfl⟩
  have hrl : ∀ x ∈ rows, x.length ≤ 65536 := by
    intro x hx
    rw [hrows] at hx
    obtain ⟨j, _, rfl⟩ := List.mem_map.1 hx
    rw [hF.memb_len _ (Nat.le_refl _) j]
    exact Nat.le_trans (Nat.le_mul_of_pos_right _ (by show 0 < M; omega)) hF.h2
  replace hsp : ∀ W, Kd.C (Kd.int .u8) W A0 b.length b → Calls Try.prog 48 #[.slice A0 b.length c0, .agg #[.int .i64 k, .int .i64 m, .int .i64 c, .bool l]] W fun e w' => ∃ g cO, e = .returned (.tuple #[.slice (some ⟨g, 0, none⟩) M cO, .int .i64 0]) ∧ M ≤ cO ∧ Kd.C (Kd.slice 5 (Kd.int .u8)) w' (some ⟨g, 0, none⟩) M rows ∧ Below W.heap.size W w' := by rw [hrows]; exact hsp
  replace hmb : ∀ W, Kd.C (Kd.int .u8) W A0 b.length b → Calls Try.prog 51 #[.slice A0 b.length c0, .agg #[.int .i64 k, .int .i64 m, .int .i64 c, .bool l]] W fun e w' => ∃ g cO, e = .returned (.slice (some ⟨g, 0, none⟩) M cO) ∧ M ≤ cO ∧ Kd.C (Kd.slice 5 (Kd.int .u8)) w' (some ⟨g, 0, none⟩) M rows ∧ Below W.heap.size W w' := by rw [hrows]; exact hmb
  have HR0 := Aside0.mk hr
  replace hmb := Aside0.mk hmb
  replace hrl := Aside0.mk hrl
  clear hF hrows hr hc
  obtain ⟨ka, hka⟩ := arrays_ev.rounds
  have HKA := Aside0.mk hka
  have HAE := Aside0.mk (show wrackref1_ArrayErr.f k m c l = some 0 by unfold wrackref1_ArrayErr.f; rw [if_pos hk, he])
  obtain ⟨kw, hkw⟩ : ∃ kw, wrackref1_Wide.f kw k m c l = some (W : Int) := wide_of h.good h.hW
  have HKW := Aside0.mk hkw
  replace hsp := Aside0.mk hsp
  have hu31 := Try.underlying31
  have hrow := h.row
  have hcm : IntKind.i64.wrap (64 * c) = (C : Int) := by rw [i64_w, ← h.hC]; unfold wrap64; omega
  have hpos : ¬ (RW = 0) := Nat.pos_iff_ne_zero.mp hrwb.1
  have hw1 : ¬ (W = 0) := Nat.pos_iff_ne_zero.mp hnn.2.2.1
  have h65 : decide ((65536 : Int) < (b.length : Int)) = false := decide_eq_false (by omega)
  have hmd : decide ((0 : Int) < (b.length : Int) % (RW : Int)) = false := by
    rw [← Int.natCast_emod, h2]; rfl
  have hmd2 : decide ((0 : Int) < Int.tmod (b.length : Int) (RW : Int)) = false := by rw [Int.tmod_eq_emod_of_nonneg (Int.natCast_nonneg _)]; exact hmd
  obtain ⟨hnb, hq2, hqt, hnmb, hnm⟩ := h.quo h1
  have hqt0 : wrap64 (Int.tdiv (b.length : Int) (W : Int)) = (nn : Int) := by rw [Int.tdiv_eq_ediv_of_nonneg (Int.natCast_nonneg _)]; exact hqt
  have hwn : wrap64 (nn : Int) = (nn : Int) := wrap_small hnb
  have h66 : decide ((65536 : Int) < (nm : Int)) = false := decide_eq_false (by omega)
  have hM6 : M ≤ 65536 := by omega
  have hB := Aside0.mk (below_alloc (Below.refl w.heap.size w) (.cells #[.int .i64 k, .int .i64 m, .int .i64 c, .bool l] 31))
  have hA := Aside0.mk (blk_new w (.cells #[.int .i64 k, .int .i64 m, .int .i64 c, .bool l] 31))
  clear h he hka hkw hk
  go_enter Try.func9, Try.ntmps9
  go_wp2_with (first
    | (go_at_call 48; refine (hsp.out _ (Kd.C_below HR0.out hB.out)).mono ?_; rintro e w1 ⟨g, cO, rfl, hcO, hCO, hb1⟩; have hB1 := Aside0.mk (below_step hB.out hb1); have hA1 := Aside0.mk (blk_below hA.out hb1); replace hCO := Aside0.mk hCO; clear hb1 hB hA; have q0 : w1.cell? ⟨w.heap.size, 0, none⟩ = some (.int .i64 k) := (blk_cell hA1.out 0).trans rfl; have q1 : w1.cell? ⟨w.heap.size, 1, none⟩ = some (.int .i64 m) := (blk_cell hA1.out 1).trans rfl; have q2 : w1.cell? ⟨w.heap.size, 2, none⟩ = some (.int .i64 c) := (blk_cell hA1.out 2).trans rfl; have q3 : w1.cell? ⟨w.heap.size, 3, none⟩ = some (.bool l) := (blk_cell hA1.out 3).trans rfl)
    | (go_at_call 23; refine (wrackref1_ArrayErr.calls k m c l 0 _ HAE.out).mono ?_; rintro e w2 ⟨rfl, hb2⟩; have hB2 := Aside0.mk (below_step hB1.out hb2); have hA2 := Aside0.mk (blk_below hA1.out hb2); have hC2 := Aside0.mk (Kd.C_below hCO.out hb2); clear hCO; clear hb2 q0 q1 q2 q3 hB1 hA1))
  have hBd := Aside0.mk (below_drew hB2.out)
  have hAd := Aside0.mk (blk_drew hA2.out)
  have r0 : w2.drew.cell? ⟨w.heap.size, 0, none⟩ = some (.int .i64 k) := (blk_cell hAd.out 0).trans rfl
  have r1 : w2.drew.cell? ⟨w.heap.size, 1, none⟩ = some (.int .i64 m) := (blk_cell hAd.out 1).trans rfl
  have r2 : w2.drew.cell? ⟨w.heap.size, 2, none⟩ = some (.int .i64 c) := (blk_cell hAd.out 2).trans rfl
  have r3 : w2.drew.cell? ⟨w.heap.size, 3, none⟩ = some (.bool l) := (blk_cell hAd.out 3).trans rfl
  have hCd := Aside0.mk (Kd.C_below hC2.out (below_drew (Below.refl w2.heap.size w2)))
  clear hB2 hA2 hC2
  refine start_ (n := 11) (S := fun w' => w'.cell? ⟨w.heap.size, 0, none⟩ = some (.int .i64 k) ∧ w'.cell? ⟨w.heap.size, 1, none⟩ = some (.int .i64 m) ∧ w'.cell? ⟨w.heap.size, 2, none⟩ = some (.int .i64 c) ∧ w'.cell? ⟨w.heap.size, 3, none⟩ = some (.bool l)) (ds := []) #[false, false, false, false, false, false, false, false, false, false, false] (by kernel_rfl) rfl rfl ⟨r0, r1, r2, r3⟩ (fun hHeld => ?_)
  generalize w2.drew = wD at r0 r1 r2 r3 hBd hAd hCd hHeld ⊢
  refine pure_ (i := 0) (N := some 24) (v := ?_) (a' := ?_) #[true, false, false, false, false, false, false, false, false, false, false] rfl rfl (by kernel_rfl) (fun _ _ _ h => h) (Or.inl ⟨by rfl, ?_⟩) ?_ ?_
  rotate_left
  · intro w'
    go_simp
    with_reducible rfl
  rotate_left
  · simp only [Act.put, List.setIfInBounds_toArray, List.set_cons_zero, List.set_cons_succ, i64_w, i32_w]
    rfl
  refine pure_ (i := 1) (N := some 25) (v := ?_) (a' := ?_) #[true, true, false, false, false, false, false, false, false, false, false] rfl rfl (by kernel_rfl) (fun _ _ _ h => h) (Or.inl ⟨by rfl, ?_⟩) ?_ ?_
  rotate_left
  · intro w'
    go_simp
    with_reducible rfl
  rotate_left
  · simp only [Act.put, List.setIfInBounds_toArray, List.set_cons_zero, List.set_cons_succ, i64_w, i32_w]
    rfl
  refine pure_ (i := 2) (N := some 26) (v := ?_) (a' := ?_) #[true, true, true, false, false, false, false, false, false, false, false] rfl rfl (by kernel_rfl) (fun _ _ _ h => h) (Or.inl ⟨by rfl, ?_⟩) ?_ ?_
  rotate_left
  · intro w'
    go_simp
    with_reducible rfl
  rotate_left
  · simp only [Act.put, List.setIfInBounds_toArray, List.set_cons_zero, List.set_cons_succ, i64_w, i32_w]
    rfl
  refine take_ (i := 3) (N := some 27) (v := ?_) (a' := ?_) #[true, true, true, true, false, false, false, false, false, false, false] rfl rfl (by kernel_rfl) (fun _ _ _ h => h) (Or.inl ⟨by rfl, ?_⟩) hHeld ?_ ?_
  rotate_left
  · rintro w' ⟨s0, s1, s2, s3⟩
    go_simp
    with_reducible rfl
  rotate_left
  · simp only [Act.put, List.setIfInBounds_toArray, List.set_cons_zero, List.set_cons_succ, i64_w, i32_w]
    rfl
  refine pure_ (i := 4) (N := some 28) (v := ?_) (a' := ?_) #[true, true, true, true, true, false, false, false, false, false, false] rfl rfl (by kernel_rfl) (fun _ _ _ h => h) (Or.inl ⟨by rfl, ?_⟩) ?_ ?_
  rotate_left
  · intro w'
    go_simp
    with_reducible rfl
  rotate_left
  · simp only [Act.put, List.setIfInBounds_toArray, List.set_cons_zero, List.set_cons_succ, i64_w, i32_w]
    rfl
  refine take_ (i := 5) (N := some 29) (v := ?_) (a' := ?_) #[true, true, true, true, true, true, false, false, false, false, false] rfl rfl (by kernel_rfl) (fun _ _ _ h => h) (Or.inl ⟨by rfl, ?_⟩) hHeld ?_ ?_
  rotate_left
  · rintro w' ⟨s0, s1, s2, s3⟩
    go_simp
    with_reducible rfl
  rotate_left
  · simp only [Act.put, List.setIfInBounds_toArray, List.set_cons_zero, List.set_cons_succ, i64_w, i32_w]
    rfl
  refine one_ (i := 6) (N := some 30) #[true, true, true, true, true, true, true, false, false, false, false] rfl rfl (by kernel_rfl) (by decide) (fun K hK => ?_)
  refine goes_ Try.func49 (by kernel_rfl) rfl #[.agg #[.int .i64 k, .int .i64 m, .int .i64 c, .bool l]] (by rfl) rfl rfl (by simp only [List.map_toArray, List.map_cons, List.map_nil]; rfl) ?_
  with_reducible refine (wrackref1_Wide.calls kw k m c l (W : Int) _ HKW.out).mono ?_
  rintro e wK3 ⟨rfl, hb0⟩
  refine ⟨_, rfl, ?_⟩
  refine hK.out _ _ ⟨pw_cell_below hb0 r0, pw_cell_below hb0 r1, pw_cell_below hb0 r2, pw_cell_below hb0 r3⟩ (fun hHeld => ?_)
  clear hK K
  refine norm_ (a' := ?_) ?_ ?_
  rotate_left
  · show Act.put _ (some 30) _ = _
    simp only [Act.put, List.setIfInBounds_toArray, List.set_cons_zero, List.set_cons_succ, i64_w, i32_w]
    rfl
  refine pure_ (i := 7) (N := some 31) (v := ?_) (a' := ?_) #[true, true, true, true, true, true, true, true, false, false, false] rfl rfl (by kernel_rfl) (fun _ _ _ h => h) (Or.inl ⟨by rfl, ?_⟩) ?_ ?_
  rotate_left
  · intro w'
    go_simp
    with_reducible rfl
  rotate_left
  · simp only [Act.put, List.setIfInBounds_toArray, List.set_cons_zero, List.set_cons_succ, i64_w, i32_w]
    rfl
  refine pure_ (i := 8) (N := some 32) (v := ?_) (a' := ?_) #[true, true, true, true, true, true, true, true, true, false, false] rfl rfl (by kernel_rfl) (fun _ _ _ h => h) (Or.inl ⟨by rfl, ?_⟩) ?_ ?_
  rotate_left
  · intro w'
    go_simp
    with_reducible rfl
  rotate_left
  · simp only [Act.put, List.setIfInBounds_toArray, List.set_cons_zero, List.set_cons_succ, i64_w, i32_w]
    rfl
  refine pure_ (i := 9) (N := some 33) (v := ?_) (a' := ?_) #[true, true, true, true, true, true, true, true, true, true, false] rfl rfl (by kernel_rfl) (fun _ _ _ h => h) (Or.inl ⟨by rfl, ?_⟩) ?_ ?_
  rotate_left
  · intro w'
    go_simp
    with_reducible rfl
  rotate_left
  · simp only [Act.put, List.setIfInBounds_toArray, List.set_cons_zero, List.set_cons_succ, i64_w, i32_w]
    rfl
  refine pure_ (i := 10) (N := some 23) (v := ?_) (a' := ?_) #[true, true, true, true, true, true, true, true, true, true, true] rfl rfl (by kernel_rfl) (fun _ _ _ h => h) (Or.inl ⟨by rfl, ?_⟩) ?_ ?_
  rotate_left
  · intro w'
    go_simp
    with_reducible rfl
  rotate_left
  · simp only [Act.put, List.setIfInBounds_toArray, List.set_cons_zero, List.set_cons_succ, i64_w, i32_w]
    rfl
  refine done_ (by kernel_rfl) ?_
  have hB3 := Aside0.mk (below_step hBd.out hb0)
  have hA3 := Aside0.mk (blk_below hAd.out hb0)
  have hC3 := Aside0.mk (Kd.C_below hCd.out hb0)
  clear hCd
  clear hBd hAd hHeld r0 r1 r2 r3 hb0
  go_wp2
  have hBd := Aside0.mk (below_drew hB3.out)
  have hAd := Aside0.mk (blk_drew hA3.out)
  have r0 : wK3.drew.cell? ⟨w.heap.size, 0, none⟩ = some (.int .i64 k) := (blk_cell hAd.out 0).trans rfl
  have r1 : wK3.drew.cell? ⟨w.heap.size, 1, none⟩ = some (.int .i64 m) := (blk_cell hAd.out 1).trans rfl
  have r2 : wK3.drew.cell? ⟨w.heap.size, 2, none⟩ = some (.int .i64 c) := (blk_cell hAd.out 2).trans rfl
  have r3 : wK3.drew.cell? ⟨w.heap.size, 3, none⟩ = some (.bool l) := (blk_cell hAd.out 3).trans rfl
  have hCd := Aside0.mk (Kd.C_below hC3.out (below_drew (Below.refl wK3.heap.size wK3)))
  clear hB3 hA3 hC3
  refine start_ (n := 10) (S := fun w' => w'.cell? ⟨w.heap.size, 0, none⟩ = some (.int .i64 k) ∧ w'.cell? ⟨w.heap.size, 1, none⟩ = some (.int .i64 m) ∧ w'.cell? ⟨w.heap.size, 2, none⟩ = some (.int .i64 c) ∧ w'.cell? ⟨w.heap.size, 3, none⟩ = some (.bool l)) (ds := []) #[false, false, false, false, false, false, false, false, false, false] (by kernel_rfl) rfl rfl ⟨r0, r1, r2, r3⟩ (fun hHeld => ?_)
  generalize wK3.drew = wD at r0 r1 r2 r3 hBd hAd hCd hHeld ⊢
  refine pure_ (i := 0) (N := some 35) (v := ?_) (a' := ?_) #[true, false, false, false, false, false, false, false, false, false] rfl rfl (by kernel_rfl) (fun _ _ _ h => h) (Or.inl ⟨by rfl, ?_⟩) ?_ ?_
  rotate_left
  · intro w'
    go_simp
    with_reducible rfl
  rotate_left
  · simp only [Act.put, List.setIfInBounds_toArray, List.set_cons_zero, List.set_cons_succ, i64_w, i32_w]
    rfl
  refine pure_ (i := 1) (N := some 36) (v := ?_) (a' := ?_) #[true, true, false, false, false, false, false, false, false, false] rfl rfl (by kernel_rfl) (fun _ _ _ h => h) (Or.inl ⟨by rfl, ?_⟩) ?_ ?_
  rotate_left
  · intro w'
    go_simp
    with_reducible rfl
  rotate_left
  · simp only [Act.put, List.setIfInBounds_toArray, List.set_cons_zero, List.set_cons_succ, i64_w, i32_w]
    rfl
  refine pure_ (i := 5) (N := some 40) (v := ?_) (a' := ?_) #[true, true, false, false, false, true, false, false, false, false] rfl rfl (by kernel_rfl) (fun _ _ _ h => h) (Or.inl ⟨by rfl, ?_⟩) ?_ ?_
  rotate_left
  · intro w'
    go_simp
    with_reducible rfl
  rotate_left
  · simp only [Act.put, List.setIfInBounds_toArray, List.set_cons_zero, List.set_cons_succ, i64_w, i32_w]
    rfl
  refine take_ (i := 2) (N := some 37) (v := ?_) (a' := ?_) #[true, true, true, false, false, true, false, false, false, false] rfl rfl (by kernel_rfl) (fun _ _ _ h => h) (Or.inl ⟨by rfl, ?_⟩) hHeld ?_ ?_
  rotate_left
  · rintro w' ⟨s0, s1, s2, s3⟩
    go_simp
    with_reducible rfl
  rotate_left
  · simp only [Act.put, List.setIfInBounds_toArray, List.set_cons_zero, List.set_cons_succ, i64_w, i32_w]
    rfl
  refine take_ (i := 6) (N := some 41) (v := ?_) (a' := ?_) #[true, true, true, false, false, true, true, false, false, false] rfl rfl (by kernel_rfl) (fun _ _ _ h => h) (Or.inl ⟨by rfl, ?_⟩) hHeld ?_ ?_
  rotate_left
  · rintro w' ⟨s0, s1, s2, s3⟩
    go_simp
    with_reducible rfl
  rotate_left
  · simp only [Act.put, List.setIfInBounds_toArray, List.set_cons_zero, List.set_cons_succ, i64_w, i32_w]
    rfl
  refine one_ (i := 3) (N := some 38) #[true, true, true, true, false, true, true, false, false, false] rfl rfl (by kernel_rfl) (by decide) (fun K hK => ?_)
  refine goes_ Try.func49 (by kernel_rfl) rfl #[.agg #[.int .i64 k, .int .i64 m, .int .i64 c, .bool l]] (by rfl) rfl rfl (by simp only [List.map_toArray, List.map_cons, List.map_nil]; rfl) ?_
  with_reducible refine (wrackref1_Wide.calls kw k m c l (W : Int) _ HKW.out).mono ?_
  rintro e wK4 ⟨rfl, hb0⟩
  refine ⟨_, rfl, ?_⟩
  refine hK.out _ _ ⟨pw_cell_below hb0 r0, pw_cell_below hb0 r1, pw_cell_below hb0 r2, pw_cell_below hb0 r3⟩ (fun hHeld => ?_)
  clear hK K
  refine norm_ (a' := ?_) ?_ ?_
  rotate_left
  · show Act.put _ (some 38) _ = _
    simp only [Act.put, List.setIfInBounds_toArray, List.set_cons_zero, List.set_cons_succ, i64_w, i32_w]
    rfl
  refine pure_ (i := 4) (N := some 39) (v := ?_) (a' := ?_) #[true, true, true, true, true, true, true, false, false, false] rfl rfl (by kernel_rfl) (fun _ _ _ h => h) (Or.inl ⟨by rfl, ?_⟩) ?_ ?_
  rotate_left
  · intro w'
    go_simp
    with_reducible rfl
  rotate_left
  · simp only [Act.put, List.setIfInBounds_toArray, List.set_cons_zero, List.set_cons_succ, i64_w, i32_w]
    rfl
  refine pure_ (i := 7) (N := some 42) (v := ?_) (a' := ?_) #[true, true, true, true, true, true, true, true, false, false] rfl rfl (by kernel_rfl) (fun _ _ _ h => h) (Or.inl ⟨by rfl, ?_⟩) ?_ ?_
  rotate_left
  · intro w'
    go_simp
    with_reducible rfl
  rotate_left
  · simp only [Act.put, List.setIfInBounds_toArray, List.set_cons_zero, List.set_cons_succ, i64_w, i32_w]
    rfl
  refine pure_ (i := 8) (N := some 43) (v := ?_) (a' := ?_) #[true, true, true, true, true, true, true, true, true, false] rfl rfl (by kernel_rfl) (fun _ _ _ h => h) (Or.inl ⟨by rfl, ?_⟩) ?_ ?_
  rotate_left
  · intro w'
    go_simp
    with_reducible rfl
  rotate_left
  · simp only [Act.put, List.setIfInBounds_toArray, List.set_cons_zero, List.set_cons_succ, i64_w, i32_w]
    rfl
  refine pure_ (i := 9) (N := some 34) (v := ?_) (a' := ?_) #[true, true, true, true, true, true, true, true, true, true] rfl rfl (by kernel_rfl) (fun _ _ _ h => h) (Or.inl ⟨by rfl, ?_⟩) ?_ ?_
  rotate_left
  · intro w'
    go_simp
    with_reducible rfl
  rotate_left
  · simp only [Act.put, List.setIfInBounds_toArray, List.set_cons_zero, List.set_cons_succ, i64_w, i32_w]
    rfl
  refine done_ (by kernel_rfl) ?_
  have hB4 := Aside0.mk (below_step hBd.out hb0)
  have hA4 := Aside0.mk (blk_below hAd.out hb0)
  have hC4 := Aside0.mk (Kd.C_below hCd.out hb0)
  clear hCd
  clear hBd hAd hHeld r0 r1 r2 r3 hb0
  have q0 : wK4.cell? ⟨w.heap.size, 0, none⟩ = some (.int .i64 k) := (blk_cell hA4.out 0).trans rfl
  go_wp2_with (first
    | (go_at_call 24; refine (wracklaw1_arrays.calls ka true _ HKA.out).mono ?_; rintro e w9 ⟨rfl, hb9⟩; have hB9 := Aside0.mk (below_step hB4.out hb9); have hA9 := Aside0.mk (blk_below hA4.out hb9); have hC9 := Aside0.mk (Kd.C_below hC4.out hb9); clear hb9 q0 hB4 hA4 hC4; have q0 : w9.cell? ⟨w.heap.size, 0, none⟩ = some (.int .i64 k) := (blk_cell hA9.out 0).trans rfl; have q1 : w9.cell? ⟨w.heap.size, 1, none⟩ = some (.int .i64 m) := (blk_cell hA9.out 1).trans rfl; have q2 : w9.cell? ⟨w.heap.size, 2, none⟩ = some (.int .i64 c) := (blk_cell hA9.out 2).trans rfl; have q3 : w9.cell? ⟨w.heap.size, 3, none⟩ = some (.bool l) := (blk_cell hA9.out 3).trans rfl))
  go_wp2_with fail
  refine (hmb.out _ (Kd.C_below HR0.out hB9.out)).mono ?_
  rintro e w10 ⟨g2, cO2, rfl, hcO2, hCO2, hb10⟩
  have hB10 := Aside0.mk (below_step hB9.out hb10)
  have hC10 := Aside0.mk (Kd.C_below hC9.out hb10)
  replace hCO2 := Aside0.mk hCO2
  clear hb10 q0 q1 q2 q3 hB9 hA9 hC9
  go_wp2_with fail
  refine (equalFunc_ok rows M _ cO _ cO2 _ hC10.out hCO2.out hrl.out hM6).mono ?_
  rintro e w11 ⟨rfl, hb11⟩
  have hB11 := Aside0.mk (below_step hB10.out hb11)
  clear hb11
  go_wp2
  go_ret
  exact ⟨rfl, hB11.out⟩
/-- all bytes, all arrays -/
theorem splits_main (A0 : Option Addr) (c0 : Nat) (b : List Int) (k m c : Int) (l : Bool) (w : World) (hr : Kd.C (Kd.int .u8) w A0 b.length b) (hc : b.length ≤ c0) (hn : b.length ≤ 140737488351232) (hk : -9223372036854775808 ≤ k ∧ k ≤ 9223372036854775807) :
    Calls Try.prog 9 #[.slice A0 b.length c0, .agg #[.int .i64 k, .int .i64 m, .int .i64 c, .bool l]] w fun e w' => e = .returned (.bool true) ∧ Below w.heap.size w w' := by
  by_cases he : arrErrOf k m c l = 0
  · obtain ⟨C, W, M, RW, nn, nm, h⟩ := SN.of (len := b.length) he
    by_cases h1 : b.length ≤ 65536
    · by_cases h2 : b.length % RW = 0
      · by_cases h3 : nm ≤ 65536
        · obtain ⟨R, hF⟩ := fits_of h rfl h1 h2 h3
          exact as_ok A0 c0 b k m c l w C W M RW nn nm R h he h1 h2 h3 hF hr hc hn hk
        · exact as_whole A0 c0 b.length k m c l w C W M RW nn nm h he h1 h2 (by omega) hn hk
      · exact as_form A0 c0 b.length k m c l w C W M RW nn nm h he h1 h2 hn hk
    · exact as_large A0 c0 b.length k m c l w C W M RW nn nm h he (by omega) hn hk
  · exact as_arr A0 c0 b.length k m c l w _ rfl he hn hk
end Go.Proofs.Ytdgkbpoljcndgaa.Pure
