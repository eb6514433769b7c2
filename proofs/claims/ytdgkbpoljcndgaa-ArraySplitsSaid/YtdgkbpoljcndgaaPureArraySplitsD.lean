/- Rows that are equal; the program's errors. No condition. -/
import Derived.Test.YtdgkbpoljcndgaaPureArraySplitsB
import Derived.Test.YtdgkbpoljcndgaaPureArraySplitsC
import Derived.Outline
namespace Go.Proofs.Ytdgkbpoljcndgaa.Pure
open Go Go.RowKit Go.Maps Go.Proofs.Ytdgkbpoljcndgaa.QArraySplits Go.Proofs.YtdgkbpoljcndgaaW.PrintWords Go.Proofs.YtdgkbpoljcndgaaW.PrintLast Go.Proofs.YtdgkbpoljcndgaaW.PrintMore Go.Proofs.Ytdgkbpoljcndgaa.ArrayPlain
set_option linter.unusedVariables false
set_option linter.unusedSimpArgs false
theorem equalB_l0 (xs : List Int) (hn : xs.length ≤ 4611686018427387904) : ∀ (d i : Nat), i + d = xs.length →
    Ev (fun k => slices_Equal_byte_byte.l0 k xs xs (xs.length : Int) (i : Int)) true
  | 0, i, hi => by
    refine Ev.step (f := fun _ => some _) (fun k => ?_) (Ev.now _)
    simp only [slices_Equal_byte_byte.l0]
    rw [if_neg (by omega)]
  | d + 1, i, hi => by
    refine Ev.step (fun k => ?_) (equalB_l0 xs hn d (i + 1) (by omega))
    simp only [slices_Equal_byte_byte.l0]
    rw [if_pos (by omega), if_pos (by omega), if_pos (by omega), if_pos (by omega), show wrap64 ((i : Int) + 1) = ((i + 1 : Nat) : Int) by unfold wrap64; omega]
    simp
theorem equalB_ev (xs : List Int) (hn : xs.length ≤ 4611686018427387904) : Ev (fun k => slices_Equal_byte_byte.f k xs xs) true := by
  refine Ev.congr (fun k => ?_) (equalB_l0 xs hn xs.length 0 (by omega))
  unfold slices_Equal_byte_byte.f
  rw [if_pos rfl]; rfl
theorem same_rows (xs : List Int) (A0 : Option Addr) (c0 : Nat) (A1 : Option Addr) (c1 : Nat) (w : World) (h0 : Kd.C (Kd.int .u8) w A0 xs.length xs) (hc0 : xs.length ≤ c0) (h1 : Kd.C (Kd.int .u8) w A1 xs.length xs) (hc1 : xs.length ≤ c1) (hn : xs.length ≤ 65536) :
    Calls Try.prog 52 #[.slice A0 xs.length c0, .slice A1 xs.length c1] w fun e w' => e = .returned (.bool true) ∧ Below w.heap.size w w' := by
  obtain ⟨kq, hkq⟩ := (equalB_ev xs (by omega)).rounds
  have H0 := Aside0.mk h0
  have H1 := Aside0.mk h1
  have HK := Aside0.mk hkq
  clear h0 h1 hkq
  go_enter Try.func52, Try.ntmps52
  go_wp2_with (go_at_call 34; refine (slices_Equal_byte_byte.calls kq A0 c0 xs A1 c1 xs true _ H0.out hc0 H1.out hc1 HK.out).mono ?_; rintro e w1 ⟨rfl, hb⟩; have HB := Aside0.mk hb.below; clear hb)
  go_ret
  exact ⟨rfl, HB.out⟩
set_option maxHeartbeats 4000000 in
set_option maxRecDepth 100000 in
/-- rows that hold the same -/
theorem equalFunc_ok (xs : List (List Int)) (m : Nat) (A0 : Option Addr) (c0 : Nat) (A1 : Option Addr) (c1 : Nat) (w : World) (h0 : Kd.C (Kd.slice 5 (Kd.int .u8)) w A0 m xs) (h1 : Kd.C (Kd.slice 5 (Kd.int .u8)) w A1 m xs) (hx : ∀ x ∈ xs, x.length ≤ 65536) (hm : m ≤ 65536) :
    Calls Try.prog 50 #[.slice A0 m c0, .slice A1 m c1, .func (.func 52) #[] #[]] w fun e w' => e = .returned (.bool true) ∧ Below w.heap.size w w' := by
  have hl : xs.length = m := h0.1
  have H0 := Aside0.mk h0
  have H1 := Aside0.mk h1
  have HX := Aside0.mk hx
  have HLX := Aside0.mk hl
  have HB := Aside0.mk (Below.refl w.heap.size w)
  clear h0 h1 hx hl
  go_enter Try.func50, Try.ntmps50
  go_wp2
  go_loopw [17] (fun vi wr => ∃ i : Nat, i ≤ m ∧ vi = .int .i64 (i : Int) ∧ Aside0 (Below w.heap.size w wr)) (fun vi _ => m - (intOf vi).toNat)
  case atStart => exact ⟨0, Nat.zero_le _, rfl, HB⟩
  case round =>
    clear HB
    obtain ⟨i, hi, rfl, HB⟩ := hrel
    by_cases hlt : i < m
    · have hlti : (i : Int) < (m : Int) := by omega
      have hnx : IntKind.i64.wrap ((i : Int) + 1) = (i : Int) + 1 := by rw [i64_w]; unfold wrap64; omega
      obtain ⟨ad0, B0, d0, rfl, e0, l0, C0⟩ := at_L4 (Kd.C_below H0.out HB.out) (i : Int) (by omega) hlti
      obtain ⟨ad1, B1, d1, rfl, e1, l1, C1⟩ := at_L4 (Kd.C_below H1.out HB.out) (i : Int) (by omega) hlti
      rw [Int.toNat_natCast] at e0 e1
      have hxl : (rd_L4 xs (i : Int)).length ≤ 65536 := HX.out _ (by unfold rd_L4; rw [Int.toNat_natCast, List.getD_eq_getElem?_getD, List.getElem?_eq_getElem (by rw [HLX.out]; exact hlt)]; exact List.getElem_mem _)
      have hs := fun W k0 k1 => same_rows (rd_L4 xs (i : Int)) B0 d0 B1 d1 W k0 l0 k1 l1 hxl
      generalize rd_L4 xs (i : Int) = x at *
      have hs1 := Aside0.mk (hs _ C0 C1)
      clear hs C0 C1 l0 l1 hxl
      go_wp2_with fail
      refine hs1.out.mono ?_
      rintro e w1 ⟨rfl, hb⟩
      have HB1 := Aside0.mk (below_step HB.out hb)
      clear hb hs1
      go_wp2
      go_roundw
      case rel => exact ⟨i + 1, by omega, by go_num, HB1⟩
      case measure => simp [intOf]; omega
    · obtain rfl : i = m := by omega
      go_wp2
      go_ret
      exact ⟨rfl, HB.out⟩
/-- the error of bytes and an array -/
def splitErr (k m c : Int) (l : Bool) (n : Nat) : Int := if arrErrOf k m c l ≠ 0 then arrErrOf k m c l else if (n : Int) > 65536 then 2 else if (n : Int) % (64 * c * widthOf k m) ≠ 0 then 3 else if (n : Int) / widthOf k m * m > 65536 then 2 else 0
/-- the numbers of bytes and an array that is right -/
structure SN (k m c : Int) (l : Bool) (len C W M RW nn nm : Nat) : Prop where
  good : Good k m c l
  hC : (C : Int) = 64 * c
  hW : (W : Int) = widthOf k m
  hM : (M : Int) = m
  hRW : RW = C * W
  hn : nn = len / W
  hm : nm = nn * M
section
variable {k m c : Int} {l : Bool} {len C W M RW nn nm : Nat}
theorem SN.nums (h : SN k m c l len C W M RW nn nm) : 64 ≤ C ∧ C ≤ 1024 ∧ 1 ≤ W ∧ W ≤ 8 ∧ 2 ≤ M ∧ M ≤ 8 := by
  have h1 := h.good; unfold Good at h1
  have h2 := width_pos h.good
  have := h.hM; have := h.hC; have := h.hW
  omega
theorem SN.rw_ (h : SN k m c l len C W M RW nn nm) : 1 ≤ RW ∧ RW ≤ 8192 := by
  have hn := h.nums
  rw [h.hRW]
  exact ⟨Nat.mul_pos (by omega) (by omega), Nat.mul_le_mul hn.2.1 hn.2.2.2.1⟩
theorem SN.row (h : SN k m c l len C W M RW nn nm) : wrap64 ((C : Int) * (W : Int)) = (RW : Int) := by
  have := h.rw_
  rw [← Int.natCast_mul, ← h.hRW]; unfold wrap64; omega
theorem SN.quo (h : SN k m c l len C W M RW nn nm) (hl : len ≤ 65536) : nn ≤ 65536 ∧ (len : Int) / (W : Int) = (nn : Int) ∧ wrap64 ((len : Int) / (W : Int)) = (nn : Int) ∧ nm ≤ 524288 ∧ wrap64 ((nn : Int) * m) = (nm : Int) := by
  have hn := h.nums
  have h1 : nn ≤ len := by rw [h.hn]; exact Nat.div_le_self _ _
  have h2 : nm ≤ 65536 * 8 := by rw [h.hm]; exact Nat.mul_le_mul (by omega) hn.2.2.2.2.2
  have e : (len : Int) / (W : Int) = (nn : Int) := by rw [h.hn, Int.natCast_ediv]
  refine ⟨by omega, e, ?_, h2, ?_⟩
  · rw [e]; unfold wrap64; omega
  · rw [← h.hM, ← Int.natCast_mul, ← h.hm]; unfold wrap64; omega
theorem SN.of (h : arrErrOf k m c l = 0) : ∃ C W M RW nn nm, SN k m c l len C W M RW nn nm := by
  have hg := err_good h
  have h2 := width_pos hg
  have h3 := hg
  unfold Good at h3
  exact ⟨(64 * c).toNat, (widthOf k m).toNat, m.toNat, _, _, _, hg, by omega, by omega, by omega, rfl, rfl, rfl⟩
theorem SN.err (h : SN k m c l len C W M RW nn nm) (he : arrErrOf k m c l = 0) : splitErr k m c l len = if (len : Int) > 65536 then 2 else if len % RW ≠ 0 then 3 else if nm > 65536 then 2 else 0 := by
  unfold splitErr
  rw [if_neg (by simpa using he), ← h.hC, ← h.hW, ← h.hM, ← Int.natCast_mul, ← h.hRW, ← Int.natCast_emod, ← Int.natCast_ediv, ← h.hn, ← Int.natCast_mul, ← h.hm]
  have e1 : (((len % RW : Nat) : Int) ≠ 0) = (len % RW ≠ 0) := by apply propext; generalize len % RW = z; omega
  have e2 : (((nm : Nat) : Int) > 65536) = (nm > 65536) := by apply propext; omega
  simp only [e1, e2]
end
set_option maxHeartbeats 2000000 in
set_option maxRecDepth 100000 in
theorem split_arr (A0 : Option Addr) (c0 n : Nat) (k m c : Int) (l : Bool) (w : World) (q : Int) (hq : arrErrOf k m c l = q) (hne : q ≠ 0) :
    Calls Try.prog 48 #[.slice A0 n c0, .agg #[.int .i64 k, .int .i64 m, .int .i64 c, .bool l]] w fun e w' => e = .returned (.tuple #[.slice none 0 0, .int .i64 q]) ∧ Below w.heap.size w w' := by
  have hck : Aside0 (array_Check.f 3 k m c l = some q) := ⟨(check_val 0 k m c l).trans (by rw [hq])⟩
  have hu31 := Try.underlying31
  have hn1 : (q != 0) = true := bne_iff_ne.mpr hne
  have hB := Aside0.mk (below_alloc (Below.refl w.heap.size w) (.cells #[.int .i64 k, .int .i64 m, .int .i64 c, .bool l] 31))
  clear hq hne
  go_enter Try.func48, Try.ntmps48
  go_wp2_with (first
    | (go_at_call 25; refine (array_Check.calls 3 k m c l q _ hck.out).mono ?_; rintro e w1 ⟨rfl, hb1⟩; have hB1 := Aside0.mk (below_step hB.out hb1); clear hb1 hB))
  refine bodyPost_ret (v := .tuple #[.slice none 0 0, .int .i64 q]) (by simp [results, Try.results48, go_sem]) rfl ?_
  exact ⟨rfl, hB1.out⟩
set_option maxHeartbeats 8000000 in
set_option maxRecDepth 100000 in
theorem split_large (A0 : Option Addr) (c0 n : Nat) (k m c : Int) (l : Bool) (w : World) (C W M RW nn nm : Nat) (h : SN k m c l n C W M RW nn nm) (he : arrErrOf k m c l = 0) (h1 : 65536 < n) :
    Calls Try.prog 48 #[.slice A0 n c0, .agg #[.int .i64 k, .int .i64 m, .int .i64 c, .bool l]] w fun e w' => e = .returned (.tuple #[.slice none 0 0, .int .i64 2]) ∧ Below w.heap.size w w' := by
  have hn := h.nums
  have hrwb := h.rw_
  have hck : Aside0 (array_Check.f 3 k m c l = some 0) := ⟨(check_val 0 k m c l).trans (by rw [he])⟩
  have hch : Aside0 (array_chunk.f k m c l = some (C : Int)) := ⟨by rw [chunk_val h.good, h.hC]⟩
  have hwd : Aside0 (array_width.f k m c l = some (W : Int)) := ⟨by rw [width_val h.good, h.hW]⟩
  have hu31 := Try.underlying31
  have hrow := Aside0.mk h.row
  have hpos : ¬ (RW = 0) := by omega
  have hw1 : ¬ (W = 0) := by omega
  have h65 : decide ((65536 : Int) < (n : Int)) = true := decide_eq_true (by omega)
  have hB := Aside0.mk (below_alloc (Below.refl w.heap.size w) (.cells #[.int .i64 k, .int .i64 m, .int .i64 c, .bool l] 31))
  have hA := Aside0.mk (blk_new w (.cells #[.int .i64 k, .int .i64 m, .int .i64 c, .bool l] 31))
  clear h he
  go_enter Try.func48, Try.ntmps48
  go_wp2_with (first
    | (go_at_call 25; refine (array_Check.calls 3 k m c l 0 _ hck.out).mono ?_; rintro e w1 ⟨rfl, hb1⟩; have hB1 := Aside0.mk (below_step hB.out hb1); have hA1 := Aside0.mk (blk_below hA.out hb1); clear hb1 hB hA))
  have hBd := Aside0.mk (below_drew hB1.out)
  have hAd := Aside0.mk (blk_drew hA1.out)
  have r0 : w1.drew.cell? ⟨w.heap.size, 0, none⟩ = some (.int .i64 k) := (blk_cell hAd.out 0).trans rfl
  have r1 : w1.drew.cell? ⟨w.heap.size, 1, none⟩ = some (.int .i64 m) := (blk_cell hAd.out 1).trans rfl
  have r2 : w1.drew.cell? ⟨w.heap.size, 2, none⟩ = some (.int .i64 c) := (blk_cell hAd.out 2).trans rfl
  have r3 : w1.drew.cell? ⟨w.heap.size, 3, none⟩ = some (.bool l) := (blk_cell hAd.out 3).trans rfl
  clear hB1 hA1
  refine start_ (n := 6) (S := fun w' => w'.cell? ⟨w.heap.size, 0, none⟩ = some (.int .i64 k) ∧ w'.cell? ⟨w.heap.size, 1, none⟩ = some (.int .i64 m) ∧ w'.cell? ⟨w.heap.size, 2, none⟩ = some (.int .i64 c) ∧ w'.cell? ⟨w.heap.size, 3, none⟩ = some (.bool l)) (ds := []) #[false, false, false, false, false, false] (by kernel_rfl) rfl rfl ⟨r0, r1, r2, r3⟩ (fun hHeld => ?_)
  generalize w1.drew = wD at r0 r1 r2 r3 hBd hAd hHeld ⊢
  refine take_ (i := 0) (N := some 21) (v := ?_) (a' := ?_) #[true, false, false, false, false, false] rfl rfl (by kernel_rfl) (fun _ _ _ h => h) (Or.inl ⟨by rfl, ?_⟩) hHeld ?_ ?_
  rotate_left
  · rintro w' ⟨s0, s1, s2, s3⟩
    go_simp
    with_reducible rfl
  rotate_left
  · simp only [Act.put, List.setIfInBounds_toArray, List.set_cons_zero, List.set_cons_succ, i64_w, i32_w]
    rfl
  refine take_ (i := 2) (N := some 23) (v := ?_) (a' := ?_) #[true, false, true, false, false, false] rfl rfl (by kernel_rfl) (fun _ _ _ h => h) (Or.inl ⟨by rfl, ?_⟩) hHeld ?_ ?_
  rotate_left
  · rintro w' ⟨s0, s1, s2, s3⟩
    go_simp
    with_reducible rfl
  rotate_left
  · simp only [Act.put, List.setIfInBounds_toArray, List.set_cons_zero, List.set_cons_succ, i64_w, i32_w]
    rfl
  refine one_ (i := 1) (N := some 22) #[true, true, true, false, false, false] rfl rfl (by kernel_rfl) (by decide) (fun K hK => ?_)
  refine goes_ Try.func88 (by kernel_rfl) rfl #[.agg #[.int .i64 k, .int .i64 m, .int .i64 c, .bool l]] (by rfl) rfl rfl (by simp only [List.map_toArray, List.map_cons, List.map_nil]; rfl) ?_
  with_reducible refine (array_chunk.calls k m c l (C : Int) _ hch.out).mono ?_
  rintro e wJ0 ⟨rfl, hb0⟩
  refine ⟨_, rfl, ?_⟩
  refine hK.out _ _ ⟨pw_cell_below hb0 r0, pw_cell_below hb0 r1, pw_cell_below hb0 r2, pw_cell_below hb0 r3⟩ (fun hHeld => ?_)
  clear hK K
  refine norm_ (a' := ?_) ?_ ?_
  rotate_left
  · show Act.put _ (some 22) _ = _
    simp only [Act.put, List.setIfInBounds_toArray, List.set_cons_zero, List.set_cons_succ, i64_w, i32_w]
    rfl
  refine one_ (i := 3) (N := some 24) #[true, true, true, true, false, false] rfl rfl (by kernel_rfl) (by decide) (fun K hK => ?_)
  refine goes_ Try.func89 (by kernel_rfl) rfl #[.agg #[.int .i64 k, .int .i64 m, .int .i64 c, .bool l]] (by rfl) rfl rfl (by simp only [List.map_toArray, List.map_cons, List.map_nil]; rfl) ?_
  with_reducible refine (array_width.calls k m c l (W : Int) _ hwd.out).mono ?_
  rintro e wK2 ⟨rfl, hb1⟩
  refine ⟨_, rfl, ?_⟩
  refine hK.out _ _ ⟨pw_cell_below (below_step hb0 hb1) r0, pw_cell_below (below_step hb0 hb1) r1, pw_cell_below (below_step hb0 hb1) r2, pw_cell_below (below_step hb0 hb1) r3⟩ (fun hHeld => ?_)
  clear hK K
  refine norm_ (a' := ?_) ?_ ?_
  rotate_left
  · show Act.put _ (some 24) _ = _
    simp only [Act.put, List.setIfInBounds_toArray, List.set_cons_zero, List.set_cons_succ, i64_w, i32_w]
    rfl
  refine pure_ (i := 4) (N := some 25) (v := ?_) (a' := ?_) #[true, true, true, true, true, false] rfl rfl (by kernel_rfl) (fun _ _ _ h => h) (Or.inl ⟨by rfl, ?_⟩) ?_ ?_
  rotate_left
  · intro w'
    go_simp
    with_reducible rfl
  rotate_left
  · simp only [Act.put, List.setIfInBounds_toArray, List.set_cons_zero, List.set_cons_succ, i64_w, i32_w]
    rfl
  refine pure_ (i := 5) (N := some 7) (v := ?_) (a' := ?_) #[true, true, true, true, true, true] rfl rfl (by kernel_rfl) (fun _ _ _ h => h) (Or.inl ⟨by rfl, ?_⟩) ?_ ?_
  rotate_left
  · intro w'
    go_simp
    with_reducible rfl
  rotate_left
  · simp only [Act.put, List.setIfInBounds_toArray, List.set_cons_zero, List.set_cons_succ, i64_w, i32_w]
    rfl
  refine done_ (by kernel_rfl) ?_
  have hB2 := Aside0.mk (below_step hBd.out (below_step hb0 hb1))
  have hA2 := Aside0.mk (blk_below hAd.out (below_step hb0 hb1))
  clear hBd hAd hHeld r0 r1 r2 r3 hb0 hb1
  rw [hrow.out]
  go_wp2
  refine bodyPost_ret (v := .tuple #[.slice none 0 0, .int .i64 2]) (by simp [results, Try.results48, go_sem]) rfl ?_
  exact ⟨rfl, hB2.out⟩
set_option maxHeartbeats 8000000 in
set_option maxRecDepth 100000 in
theorem split_form (A0 : Option Addr) (c0 n : Nat) (k m c : Int) (l : Bool) (w : World) (C W M RW nn nm : Nat) (h : SN k m c l n C W M RW nn nm) (he : arrErrOf k m c l = 0) (h1 : n ≤ 65536) (h2 : n % RW ≠ 0) :
    Calls Try.prog 48 #[.slice A0 n c0, .agg #[.int .i64 k, .int .i64 m, .int .i64 c, .bool l]] w fun e w' => e = .returned (.tuple #[.slice none 0 0, .int .i64 3]) ∧ Below w.heap.size w w' := by
  have hn := h.nums
  have hrwb := h.rw_
  have hck : Aside0 (array_Check.f 3 k m c l = some 0) := ⟨(check_val 0 k m c l).trans (by rw [he])⟩
  have hch : Aside0 (array_chunk.f k m c l = some (C : Int)) := ⟨by rw [chunk_val h.good, h.hC]⟩
  have hwd : Aside0 (array_width.f k m c l = some (W : Int)) := ⟨by rw [width_val h.good, h.hW]⟩
  have hu31 := Try.underlying31
  have hrow := Aside0.mk h.row
  have hpos : ¬ (RW = 0) := by omega
  have hw1 : ¬ (W = 0) := by omega
  have h65 : decide ((65536 : Int) < (n : Int)) = false := decide_eq_false (by omega)
  have hmd : (((n : Int) % (RW : Int)) != 0) = true := by
    rw [← Int.natCast_emod]; exact bne_iff_ne.mpr (by intro hh; exact h2 (Int.ofNat_inj.mp hh))
  have hB := Aside0.mk (below_alloc (Below.refl w.heap.size w) (.cells #[.int .i64 k, .int .i64 m, .int .i64 c, .bool l] 31))
  have hA := Aside0.mk (blk_new w (.cells #[.int .i64 k, .int .i64 m, .int .i64 c, .bool l] 31))
  clear h he
  go_enter Try.func48, Try.ntmps48
  go_wp2_with (first
    | (go_at_call 25; refine (array_Check.calls 3 k m c l 0 _ hck.out).mono ?_; rintro e w1 ⟨rfl, hb1⟩; have hB1 := Aside0.mk (below_step hB.out hb1); have hA1 := Aside0.mk (blk_below hA.out hb1); clear hb1 hB hA))
  have hBd := Aside0.mk (below_drew hB1.out)
  have hAd := Aside0.mk (blk_drew hA1.out)
  have r0 : w1.drew.cell? ⟨w.heap.size, 0, none⟩ = some (.int .i64 k) := (blk_cell hAd.out 0).trans rfl
  have r1 : w1.drew.cell? ⟨w.heap.size, 1, none⟩ = some (.int .i64 m) := (blk_cell hAd.out 1).trans rfl
  have r2 : w1.drew.cell? ⟨w.heap.size, 2, none⟩ = some (.int .i64 c) := (blk_cell hAd.out 2).trans rfl
  have r3 : w1.drew.cell? ⟨w.heap.size, 3, none⟩ = some (.bool l) := (blk_cell hAd.out 3).trans rfl
  clear hB1 hA1
  refine start_ (n := 6) (S := fun w' => w'.cell? ⟨w.heap.size, 0, none⟩ = some (.int .i64 k) ∧ w'.cell? ⟨w.heap.size, 1, none⟩ = some (.int .i64 m) ∧ w'.cell? ⟨w.heap.size, 2, none⟩ = some (.int .i64 c) ∧ w'.cell? ⟨w.heap.size, 3, none⟩ = some (.bool l)) (ds := []) #[false, false, false, false, false, false] (by kernel_rfl) rfl rfl ⟨r0, r1, r2, r3⟩ (fun hHeld => ?_)
  generalize w1.drew = wD at r0 r1 r2 r3 hBd hAd hHeld ⊢
  refine take_ (i := 0) (N := some 21) (v := ?_) (a' := ?_) #[true, false, false, false, false, false] rfl rfl (by kernel_rfl) (fun _ _ _ h => h) (Or.inl ⟨by rfl, ?_⟩) hHeld ?_ ?_
  rotate_left
  · rintro w' ⟨s0, s1, s2, s3⟩
    go_simp
    with_reducible rfl
  rotate_left
  · simp only [Act.put, List.setIfInBounds_toArray, List.set_cons_zero, List.set_cons_succ, i64_w, i32_w]
    rfl
  refine take_ (i := 2) (N := some 23) (v := ?_) (a' := ?_) #[true, false, true, false, false, false] rfl rfl (by kernel_rfl) (fun _ _ _ h => h) (Or.inl ⟨by rfl, ?_⟩) hHeld ?_ ?_
  rotate_left
  · rintro w' ⟨s0, s1, s2, s3⟩
    go_simp
    with_reducible rfl
  rotate_left
  · simp only [Act.put, List.setIfInBounds_toArray, List.set_cons_zero, List.set_cons_succ, i64_w, i32_w]
    rfl
  refine one_ (i := 1) (N := some 22) #[true, true, true, false, false, false] rfl rfl (by kernel_rfl) (by decide) (fun K hK => ?_)
  refine goes_ Try.func88 (by kernel_rfl) rfl #[.agg #[.int .i64 k, .int .i64 m, .int .i64 c, .bool l]] (by rfl) rfl rfl (by simp only [List.map_toArray, List.map_cons, List.map_nil]; rfl) ?_
  with_reducible refine (array_chunk.calls k m c l (C : Int) _ hch.out).mono ?_
  rintro e wJ0 ⟨rfl, hb0⟩
  refine ⟨_, rfl, ?_⟩
  refine hK.out _ _ ⟨pw_cell_below hb0 r0, pw_cell_below hb0 r1, pw_cell_below hb0 r2, pw_cell_below hb0 r3⟩ (fun hHeld => ?_)
  clear hK K
  refine norm_ (a' := ?_) ?_ ?_
  rotate_left
  · show Act.put _ (some 22) _ = _
    simp only [Act.put, List.setIfInBounds_toArray, List.set_cons_zero, List.set_cons_succ, i64_w, i32_w]
    rfl
  refine one_ (i := 3) (N := some 24) #[true, true, true, true, false, false] rfl rfl (by kernel_rfl) (by decide) (fun K hK => ?_)
  refine goes_ Try.func89 (by kernel_rfl) rfl #[.agg #[.int .i64 k, .int .i64 m, .int .i64 c, .bool l]] (by rfl) rfl rfl (by simp only [List.map_toArray, List.map_cons, List.map_nil]; rfl) ?_
  with_reducible refine (array_width.calls k m c l (W : Int) _ hwd.out).mono ?_
  rintro e wK2 ⟨rfl, hb1⟩
  refine ⟨_, rfl, ?_⟩
  refine hK.out _ _ ⟨pw_cell_below (below_step hb0 hb1) r0, pw_cell_below (below_step hb0 hb1) r1, pw_cell_below (below_step hb0 hb1) r2, pw_cell_below (below_step hb0 hb1) r3⟩ (fun hHeld => ?_)
  clear hK K
  refine norm_ (a' := ?_) ?_ ?_
  rotate_left
  · show Act.put _ (some 24) _ = _
    simp only [Act.put, List.setIfInBounds_toArray, List.set_cons_zero, List.set_cons_succ, i64_w, i32_w]
    rfl
  refine pure_ (i := 4) (N := some 25) (v := ?_) (a' := ?_) #[true, true, true, true, true, false] rfl rfl (by kernel_rfl) (fun _ _ _ h => h) (Or.inl ⟨by rfl, ?_⟩) ?_ ?_
  rotate_left
  · intro w'
    go_simp
    with_reducible rfl
  rotate_left
  · simp only [Act.put, List.setIfInBounds_toArray, List.set_cons_zero, List.set_cons_succ, i64_w, i32_w]
    rfl
  refine pure_ (i := 5) (N := some 7) (v := ?_) (a' := ?_) #[true, true, true, true, true, true] rfl rfl (by kernel_rfl) (fun _ _ _ h => h) (Or.inl ⟨by rfl, ?_⟩) ?_ ?_
  rotate_left
  · intro w'
    go_simp
    with_reducible rfl
  rotate_left
  · simp only [Act.put, List.setIfInBounds_toArray, List.set_cons_zero, List.set_cons_succ, i64_w, i32_w]
    rfl
  refine done_ (by kernel_rfl) ?_
  have hB2 := Aside0.mk (below_step hBd.out (below_step hb0 hb1))
  have hA2 := Aside0.mk (blk_below hAd.out (below_step hb0 hb1))
  clear hBd hAd hHeld r0 r1 r2 r3 hb0 hb1
  rw [hrow.out]
  go_wp2
  refine bodyPost_ret (v := .tuple #[.slice none 0 0, .int .i64 3]) (by simp [results, Try.results48, go_sem]) rfl ?_
  exact ⟨rfl, hB2.out⟩
set_option maxHeartbeats 8000000 in
set_option maxRecDepth 100000 in
theorem split_whole (A0 : Option Addr) (c0 n : Nat) (k m c : Int) (l : Bool) (w : World) (C W M RW nn nm : Nat) (h : SN k m c l n C W M RW nn nm) (he : arrErrOf k m c l = 0) (h1 : n ≤ 65536) (h2 : n % RW = 0) (h3 : 65536 < nm) :
    Calls Try.prog 48 #[.slice A0 n c0, .agg #[.int .i64 k, .int .i64 m, .int .i64 c, .bool l]] w fun e w' => e = .returned (.tuple #[.slice none 0 0, .int .i64 2]) ∧ Below w.heap.size w w' := by
  have hn := h.nums
  have hrwb := h.rw_
  have hck : Aside0 (array_Check.f 3 k m c l = some 0) := ⟨(check_val 0 k m c l).trans (by rw [he])⟩
  have hch : Aside0 (array_chunk.f k m c l = some (C : Int)) := ⟨by rw [chunk_val h.good, h.hC]⟩
  have hwd : Aside0 (array_width.f k m c l = some (W : Int)) := ⟨by rw [width_val h.good, h.hW]⟩
  have hu31 := Try.underlying31
  have hrow := Aside0.mk h.row
  have hpos : ¬ (RW = 0) := by omega
  have hw1 : ¬ (W = 0) := by omega
  have h65 : decide ((65536 : Int) < (n : Int)) = false := decide_eq_false (by omega)
  have hmd : (((n : Int) % (RW : Int)) != 0) = false := by
    rw [← Int.natCast_emod, h2]; rfl
  obtain ⟨hnb, hq2, hqt, hnmb, hnm⟩ := h.quo h1
  replace hq2 := Aside0.mk hq2
  have h66 : decide ((65536 : Int) < (nm : Int)) = true := decide_eq_true (by omega)
  replace hqt := Aside0.mk hqt
  replace hnm := Aside0.mk hnm
  have hB := Aside0.mk (below_alloc (Below.refl w.heap.size w) (.cells #[.int .i64 k, .int .i64 m, .int .i64 c, .bool l] 31))
  have hA := Aside0.mk (blk_new w (.cells #[.int .i64 k, .int .i64 m, .int .i64 c, .bool l] 31))
  clear h he
  go_enter Try.func48, Try.ntmps48
  go_wp2_with (first
    | (go_at_call 25; refine (array_Check.calls 3 k m c l 0 _ hck.out).mono ?_; rintro e w1 ⟨rfl, hb1⟩; have hB1 := Aside0.mk (below_step hB.out hb1); have hA1 := Aside0.mk (blk_below hA.out hb1); clear hb1 hB hA))
  have hBd := Aside0.mk (below_drew hB1.out)
  have hAd := Aside0.mk (blk_drew hA1.out)
  have r0 : w1.drew.cell? ⟨w.heap.size, 0, none⟩ = some (.int .i64 k) := (blk_cell hAd.out 0).trans rfl
  have r1 : w1.drew.cell? ⟨w.heap.size, 1, none⟩ = some (.int .i64 m) := (blk_cell hAd.out 1).trans rfl
  have r2 : w1.drew.cell? ⟨w.heap.size, 2, none⟩ = some (.int .i64 c) := (blk_cell hAd.out 2).trans rfl
  have r3 : w1.drew.cell? ⟨w.heap.size, 3, none⟩ = some (.bool l) := (blk_cell hAd.out 3).trans rfl
  clear hB1 hA1
  refine start_ (n := 6) (S := fun w' => w'.cell? ⟨w.heap.size, 0, none⟩ = some (.int .i64 k) ∧ w'.cell? ⟨w.heap.size, 1, none⟩ = some (.int .i64 m) ∧ w'.cell? ⟨w.heap.size, 2, none⟩ = some (.int .i64 c) ∧ w'.cell? ⟨w.heap.size, 3, none⟩ = some (.bool l)) (ds := []) #[false, false, false, false, false, false] (by kernel_rfl) rfl rfl ⟨r0, r1, r2, r3⟩ (fun hHeld => ?_)
  generalize w1.drew = wD at r0 r1 r2 r3 hBd hAd hHeld ⊢
  refine take_ (i := 0) (N := some 21) (v := ?_) (a' := ?_) #[true, false, false, false, false, false] rfl rfl (by kernel_rfl) (fun _ _ _ h => h) (Or.inl ⟨by rfl, ?_⟩) hHeld ?_ ?_
  rotate_left
  · rintro w' ⟨s0, s1, s2, s3⟩
    go_simp
    with_reducible rfl
  rotate_left
  · simp only [Act.put, List.setIfInBounds_toArray, List.set_cons_zero, List.set_cons_succ, i64_w, i32_w]
    rfl
  refine take_ (i := 2) (N := some 23) (v := ?_) (a' := ?_) #[true, false, true, false, false, false] rfl rfl (by kernel_rfl) (fun _ _ _ h => h) (Or.inl ⟨by rfl, ?_⟩) hHeld ?_ ?_
  rotate_left
  · rintro w' ⟨s0, s1, s2, s3⟩
    go_simp
    with_reducible rfl
  rotate_left
  · simp only [Act.put, List.setIfInBounds_toArray, List.set_cons_zero, List.set_cons_succ, i64_w, i32_w]
    rfl
  refine one_ (i := 1) (N := some 22) #[true, true, true, false, false, false] rfl rfl (by kernel_rfl) (by decide) (fun K hK => ?_)
  refine goes_ Try.func88 (by kernel_rfl) rfl #[.agg #[.int .i64 k, .int .i64 m, .int .i64 c, .bool l]] (by rfl) rfl rfl (by simp only [List.map_toArray, List.map_cons, List.map_nil]; rfl) ?_
  with_reducible refine (array_chunk.calls k m c l (C : Int) _ hch.out).mono ?_
  rintro e wJ0 ⟨rfl, hb0⟩
  refine ⟨_, rfl, ?_⟩
  refine hK.out _ _ ⟨pw_cell_below hb0 r0, pw_cell_below hb0 r1, pw_cell_below hb0 r2, pw_cell_below hb0 r3⟩ (fun hHeld => ?_)
  clear hK K
  refine norm_ (a' := ?_) ?_ ?_
  rotate_left
  · show Act.put _ (some 22) _ = _
    simp only [Act.put, List.setIfInBounds_toArray, List.set_cons_zero, List.set_cons_succ, i64_w, i32_w]
    rfl
  refine one_ (i := 3) (N := some 24) #[true, true, true, true, false, false] rfl rfl (by kernel_rfl) (by decide) (fun K hK => ?_)
  refine goes_ Try.func89 (by kernel_rfl) rfl #[.agg #[.int .i64 k, .int .i64 m, .int .i64 c, .bool l]] (by rfl) rfl rfl (by simp only [List.map_toArray, List.map_cons, List.map_nil]; rfl) ?_
  with_reducible refine (array_width.calls k m c l (W : Int) _ hwd.out).mono ?_
  rintro e wK2 ⟨rfl, hb1⟩
  refine ⟨_, rfl, ?_⟩
  refine hK.out _ _ ⟨pw_cell_below (below_step hb0 hb1) r0, pw_cell_below (below_step hb0 hb1) r1, pw_cell_below (below_step hb0 hb1) r2, pw_cell_below (below_step hb0 hb1) r3⟩ (fun hHeld => ?_)
  clear hK K
  refine norm_ (a' := ?_) ?_ ?_
  rotate_left
  · show Act.put _ (some 24) _ = _
    simp only [Act.put, List.setIfInBounds_toArray, List.set_cons_zero, List.set_cons_succ, i64_w, i32_w]
    rfl
  refine pure_ (i := 4) (N := some 25) (v := ?_) (a' := ?_) #[true, true, true, true, true, false] rfl rfl (by kernel_rfl) (fun _ _ _ h => h) (Or.inl ⟨by rfl, ?_⟩) ?_ ?_
  rotate_left
  · intro w'
    go_simp
    with_reducible rfl
  rotate_left
  · simp only [Act.put, List.setIfInBounds_toArray, List.set_cons_zero, List.set_cons_succ, i64_w, i32_w]
    rfl
  refine pure_ (i := 5) (N := some 7) (v := ?_) (a' := ?_) #[true, true, true, true, true, true] rfl rfl (by kernel_rfl) (fun _ _ _ h => h) (Or.inl ⟨by rfl, ?_⟩) ?_ ?_
  rotate_left
  · intro w'
    go_simp
    with_reducible rfl
  rotate_left
  · simp only [Act.put, List.setIfInBounds_toArray, List.set_cons_zero, List.set_cons_succ, i64_w, i32_w]
    rfl
  refine done_ (by kernel_rfl) ?_
  have hB2 := Aside0.mk (below_step hBd.out (below_step hb0 hb1))
  have hA2 := Aside0.mk (blk_below hAd.out (below_step hb0 hb1))
  clear hBd hAd hHeld r0 r1 r2 r3 hb0 hb1
  rw [hrow.out]
  go_wp2
  have hBd := Aside0.mk (below_drew hB2.out)
  have hAd := Aside0.mk (blk_drew hA2.out)
  have r0 : wK2.drew.cell? ⟨w.heap.size, 0, none⟩ = some (.int .i64 k) := (blk_cell hAd.out 0).trans rfl
  have r1 : wK2.drew.cell? ⟨w.heap.size, 1, none⟩ = some (.int .i64 m) := (blk_cell hAd.out 1).trans rfl
  have r2 : wK2.drew.cell? ⟨w.heap.size, 2, none⟩ = some (.int .i64 c) := (blk_cell hAd.out 2).trans rfl
  have r3 : wK2.drew.cell? ⟨w.heap.size, 3, none⟩ = some (.bool l) := (blk_cell hAd.out 3).trans rfl
  clear hB2 hA2
  refine start_ (n := 10) (S := fun w' => w'.cell? ⟨w.heap.size, 0, none⟩ = some (.int .i64 k) ∧ w'.cell? ⟨w.heap.size, 1, none⟩ = some (.int .i64 m) ∧ w'.cell? ⟨w.heap.size, 2, none⟩ = some (.int .i64 c) ∧ w'.cell? ⟨w.heap.size, 3, none⟩ = some (.bool l)) (ds := []) #[false, false, false, false, false, false, false, false, false, false] (by kernel_rfl) rfl rfl ⟨r0, r1, r2, r3⟩ (fun hHeld => ?_)
  generalize wK2.drew = wD at r0 r1 r2 r3 hBd hAd hHeld ⊢
  refine pure_ (i := 0) (N := some 37) (v := ?_) (a' := ?_) #[true, false, false, false, false, false, false, false, false, false] rfl rfl (by kernel_rfl) (fun _ _ _ h => h) (Or.inl ⟨by rfl, ?_⟩) ?_ ?_
  rotate_left
  · intro w'
    go_simp
    with_reducible rfl
  rotate_left
  · simp only [Act.put, List.setIfInBounds_toArray, List.set_cons_zero, List.set_cons_succ, i64_w, i32_w]
    rfl
  refine pure_ (i := 1) (N := some 38) (v := ?_) (a' := ?_) #[true, true, false, false, false, false, false, false, false, false] rfl rfl (by kernel_rfl) (fun _ _ _ h => h) (Or.inl ⟨by rfl, ?_⟩) ?_ ?_
  rotate_left
  · intro w'
    go_simp
    with_reducible rfl
  rotate_left
  · simp only [Act.put, List.setIfInBounds_toArray, List.set_cons_zero, List.set_cons_succ, i64_w, i32_w]
    rfl
  refine pure_ (i := 5) (N := some 42) (v := ?_) (a' := ?_) #[true, true, false, false, false, true, false, false, false, false] rfl rfl (by kernel_rfl) (fun _ _ _ h => h) (Or.inl ⟨by rfl, ?_⟩) ?_ ?_
  rotate_left
  · intro w'
    go_simp
    with_reducible rfl
  rotate_left
  · simp only [Act.put, List.setIfInBounds_toArray, List.set_cons_zero, List.set_cons_succ, i64_w, i32_w]
    rfl
  refine take_ (i := 2) (N := some 39) (v := ?_) (a' := ?_) #[true, true, true, false, false, true, false, false, false, false] rfl rfl (by kernel_rfl) (fun _ _ _ h => h) (Or.inl ⟨by rfl, ?_⟩) hHeld ?_ ?_
  rotate_left
  · rintro w' ⟨s0, s1, s2, s3⟩
    go_simp
    with_reducible rfl
  rotate_left
  · simp only [Act.put, List.setIfInBounds_toArray, List.set_cons_zero, List.set_cons_succ, i64_w, i32_w]
    rfl
  refine take_ (i := 6) (N := some 43) (v := ?_) (a' := ?_) #[true, true, true, false, false, true, true, false, false, false] rfl rfl (by kernel_rfl) (fun _ _ _ h => h) (Or.inl ⟨by rfl, ?_⟩) hHeld ?_ ?_
  rotate_left
  · rintro w' ⟨s0, s1, s2, s3⟩
    go_simp
    with_reducible rfl
  rotate_left
  · simp only [Act.put, List.setIfInBounds_toArray, List.set_cons_zero, List.set_cons_succ, i64_w, i32_w]
    rfl
  refine one_ (i := 3) (N := some 40) #[true, true, true, true, false, true, true, false, false, false] rfl rfl (by kernel_rfl) (by decide) (fun K hK => ?_)
  refine goes_ Try.func89 (by kernel_rfl) rfl #[.agg #[.int .i64 k, .int .i64 m, .int .i64 c, .bool l]] (by rfl) rfl rfl (by simp only [List.map_toArray, List.map_cons, List.map_nil]; rfl) ?_
  with_reducible refine (array_width.calls k m c l (W : Int) _ hwd.out).mono ?_
  rintro e wK3 ⟨rfl, hb0⟩
  refine ⟨_, rfl, ?_⟩
  refine hK.out _ _ ⟨pw_cell_below hb0 r0, pw_cell_below hb0 r1, pw_cell_below hb0 r2, pw_cell_below hb0 r3⟩ (fun hHeld => ?_)
  clear hK K
  refine norm_ (a' := ?_) ?_ ?_
  rotate_left
  · show Act.put _ (some 40) _ = _
    simp only [Act.put, List.setIfInBounds_toArray, List.set_cons_zero, List.set_cons_succ, i64_w, i32_w]
    rfl
  refine pure_ (i := 4) (N := some 41) (v := ?_) (a' := ?_) #[true, true, true, true, true, true, true, false, false, false] rfl rfl (by kernel_rfl) (fun _ _ _ h => h) (Or.inl ⟨by rfl, ?_⟩) ?_ ?_
  rotate_left
  · intro w'
    go_simp
    with_reducible rfl
  rotate_left
  · simp only [Act.put, List.setIfInBounds_toArray, List.set_cons_zero, List.set_cons_succ, i64_w, i32_w]
    rfl
  refine pure_ (i := 7) (N := some 44) (v := ?_) (a' := ?_) #[true, true, true, true, true, true, true, true, false, false] rfl rfl (by kernel_rfl) (fun _ _ _ h => h) (Or.inl ⟨by rfl, ?_⟩) ?_ ?_
  rotate_left
  · intro w'
    go_simp
    with_reducible rfl
  rotate_left
  · simp only [Act.put, List.setIfInBounds_toArray, List.set_cons_zero, List.set_cons_succ, i64_w, i32_w]
    rfl
  refine pure_ (i := 8) (N := some 45) (v := ?_) (a' := ?_) #[true, true, true, true, true, true, true, true, true, false] rfl rfl (by kernel_rfl) (fun _ _ _ h => h) (Or.inl ⟨by rfl, ?_⟩) ?_ ?_
  rotate_left
  · intro w'
    go_simp
    with_reducible rfl
  rotate_left
  · simp only [Act.put, List.setIfInBounds_toArray, List.set_cons_zero, List.set_cons_succ, i64_w, i32_w]
    rfl
  refine pure_ (i := 9) (N := some 36) (v := ?_) (a' := ?_) #[true, true, true, true, true, true, true, true, true, true] rfl rfl (by kernel_rfl) (fun _ _ _ h => h) (Or.inl ⟨by rfl, ?_⟩) ?_ ?_
  rotate_left
  · intro w'
    go_simp
    with_reducible rfl
  rotate_left
  · simp only [Act.put, List.setIfInBounds_toArray, List.set_cons_zero, List.set_cons_succ, i64_w, i32_w]
    rfl
  refine done_ (by kernel_rfl) ?_
  have hB3 := Aside0.mk (below_step hBd.out hb0)
  have hA3 := Aside0.mk (blk_below hAd.out hb0)
  clear hBd hAd hHeld r0 r1 r2 r3 hb0
  first | rw [hqt.out, hnm.out] | (rw [hq2.out, hnm.out]) | (go_outline; fail)
  go_wp2
  refine bodyPost_ret (v := .tuple #[.slice none 0 0, .int .i64 2]) (by simp [results, Try.results48, go_sem]) rfl ?_
  exact ⟨rfl, hB3.out⟩
/-- the error of bytes and an array: the program's -/
theorem split_err (A0 : Option Addr) (c0 n : Nat) (k m c : Int) (l : Bool) (w : World) (q : Int) (hq : splitErr k m c l n = q) (hne : q ≠ 0) (hn : n ≤ 140737488351232) :
    Calls Try.prog 48 #[.slice A0 n c0, .agg #[.int .i64 k, .int .i64 m, .int .i64 c, .bool l]] w fun e w' => e = .returned (.tuple #[.slice none 0 0, .int .i64 q]) ∧ Below w.heap.size w w' := by
  by_cases he : arrErrOf k m c l = 0
  · obtain ⟨C, W, M, RW, nn, nm, h⟩ := SN.of (len := n) he
    rw [h.err he] at hq
    by_cases h1 : (n : Int) > 65536
    · rw [if_pos h1] at hq; subst hq
      exact split_large A0 c0 n k m c l w C W M RW nn nm h he (by omega)
    · rw [if_neg h1] at hq
      by_cases h2 : n % RW ≠ 0
      · rw [if_pos h2] at hq; subst hq
        exact split_form A0 c0 n k m c l w C W M RW nn nm h he (by omega) h2
      · rw [if_neg h2] at hq
        by_cases h3 : nm > 65536
        · rw [if_pos h3] at hq; subst hq
          exact split_whole A0 c0 n k m c l w C W M RW nn nm h he (by omega) (by omega) h3
        · rw [if_neg h3] at hq; exact absurd hq.symm hne
  · refine split_arr A0 c0 n k m c l w q ?_ hne
    unfold splitErr at hq
    rw [if_pos he] at hq; exact hq
end Go.Proofs.Ytdgkbpoljcndgaa.Pure
