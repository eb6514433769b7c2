/- Arrays joined: the whole, walked. No condition. -/
import Derived.Test.YtlnikhijfamakaaPureArrayJoinsA
import Derived.WalkLawsBesides
import Derived.LoopN
namespace Go.Proofs.Ytlnikhijfamakaa.Pure
open Go.Proofs.Ytlnikhijfamakaa.ArrayPlain
open Go Go.RowKit Go.Maps Go.Proofs.Ytlnikhijfamakaa.QArrayJoins Go.Proofs.YtlnikhijfamakaaW.PrintWords Go.Proofs.YtlnikhijfamakaaW.PrintLast Go.Proofs.YtlnikhijfamakaaW.PrintMore
set_option linter.unusedVariables false
set_option linter.unusedSimpArgs false
/-! three whole numbers -/
structure R3 where
  f0 : Int
  f1 : Int
  f2 : Int
def z3 : R3 := ⟨0, 0, 0⟩
def k3 : Kd R3 := Kd.iso (Kd.pair (Kd.int .i64) (Kd.pair (Kd.int .i64) (Kd.int .i64))) (fun x : R3 => (x.f0, x.f1, x.f2))
theorem k3_open {w : World} {x : R3} {cs : List Value} (h : k3.K w x cs) : cs = [.int .i64 x.f0, .int .i64 x.f1, .int .i64 x.f2] := by
  obtain ⟨_, _, rfl, rfl, ⟨_, _, rfl, rfl, rfl⟩⟩ := h
  exact rfl
theorem k3_mkM (w : World) (base : Nat) (ok : Nat → Prop) (x : R3) : k3.M w base ok x [.int .i64 x.f0, .int .i64 x.f1, .int .i64 x.f2] := ⟨[.int .i64 x.f0], [.int .i64 x.f1, .int .i64 x.f2], rfl, rfl, ⟨[.int .i64 x.f1], [.int .i64 x.f2], rfl, rfl, rfl⟩⟩
def rd_R3 (xs : List R3) (i : Int) : R3 := xs.getD i.toNat z3
theorem at_R3 {w : World} {A : Option Addr} {n : Nat} {xs : List R3} (h : Kd.C k3 w A n xs) (i : Int) (h0 : 0 ≤ i) (h1 : i < n) : ∃ ad, A = some ad ∧ w.cell? (ad.add (i.toNat * 3)) = some (.int .i64 (rd_R3 xs i).f0) ∧ w.cell? ⟨(ad.add (i.toNat * 3)).block, (ad.add (i.toNat * 3)).off + 1, none⟩ = some (.int .i64 (rd_R3 xs i).f1) ∧ w.cell? ⟨(ad.add (i.toNat * 3)).block, (ad.add (i.toNat * 3)).off + 2, none⟩ = some (.int .i64 (rd_R3 xs i).f2) := by
  obtain ⟨ad, c, e, _, hK, hc0⟩ := Kd.C_get h z3 i h0 h1
  have hc : ∀ j u, c[j]? = some u → w.cell? (ad.add (i.toNat * 3 + j)) = some u := hc0
  obtain rfl := k3_open hK
  exact ⟨ad, e, hc 0 _ rfl, by rw [← add_field _ _ 1 (by omega)]; exact hc 1 _ rfl, by rw [← add_field _ _ 2 (by omega)]; exact hc 2 _ rfl⟩
theorem info3_ : (Try.prog.info? 162).map (fun i => (i.zero, i.size, i.bytes)) = some (some (.agg #[(.int .i64 0), (.int .i64 0), (.int .i64 0)]), 3, 24) := by kernel_rfl
/-- an array's whole, in memory -/
structure IsWhole (w : World) (g : Nat) (k m c : Int) (l : Bool) (AM : Option Addr) (cM : Nat) (mm : List (List Int)) (s gone : Int) : Prop where
  blk : w.heap[g]? = some (.cells #[.int .i64 k, .int .i64 m, .int .i64 c, .bool l, .slice AM mm.length cM, .int .i64 s, .int .i64 gone] 87 (0, 0))
  rm : Kd.C (Kd.slice 5 (Kd.int .u8)) w AM mm.length mm
  cm : mm.length ≤ cM
section
variable {w W : World} {g : Nat} {k m c : Int} {l : Bool} {AM : Option Addr} {cM : Nat} {mm : List (List Int)} {s gone : Int}
theorem IsWhole.below (h : IsWhole w g k m c l AM cM mm s gone) (hb : Below w.heap.size w W) : IsWhole W g k m c l AM cM mm s gone :=
  ⟨blk_below h.blk hb, Kd.C_below h.rm hb, h.cm⟩
end
theorem width_val {k m c : Int} {l : Bool} (h : Good k m c l) : array_width.f k m c l = some (widthOf k m) := by
  unfold Good at h
  unfold array_width.f widthOf
  have hw : wrap64 (m - 1) = m - 1 := by unfold wrap64; omega
  rw [hw]
  repeat' split
  all_goals rfl
theorem chunk_val {k m c : Int} {l : Bool} (h : Good k m c l) : array_chunk.f k m c l = some (64 * c) := by
  unfold Good at h
  unfold array_chunk.f
  have hw : wrap64 (c * 64) = 64 * c := by unfold wrap64; omega
  rw [hw]
theorem whole_plain (w : World) (g : Nat) (k m c : Int) (l : Bool) (AM : Option Addr) (cM : Nat) (mm : List (List Int)) (s gone : Int) (h : IsWhole w g k m c l AM cM mm s gone) :
    Calls Try.prog 108 #[.pointer (some ⟨g, 0, none⟩)] w fun e w' => e = .returned (.bool (decide (gone < 0))) ∧ Below w.heap.size w w' := by
  have c6 : w.cell? ⟨g, 6, none⟩ = some (.int .i64 gone) := (blk_cell h.blk 6).trans rfl
  clear h
  go_enter Try.func108, Try.ntmps108
  go_wp2
  go_ret
  exact ⟨rfl, Below.refl _ _⟩
set_option maxHeartbeats 4000000 in
set_option maxRecDepth 100000 in
theorem whole_size (w : World) (g : Nat) (k m c : Int) (l : Bool) (AM : Option Addr) (cM : Nat) (mm : List (List Int)) (s gone : Int) (h : IsWhole w g k m c l AM cM mm s gone) (hg : Good k m c l) (hs0 : 0 ≤ s) (hs1 : s ≤ 65536) :
    Calls Try.prog 111 #[.pointer (some ⟨g, 0, none⟩)] w fun e w' => e = .returned (.int .i64 (s * widthOf k m)) ∧ Below w.heap.size w w' := by
  have hw := width_pos hg
  have hwv := Aside0.mk (width_val hg)
  have hwr : IntKind.i64.wrap (s * widthOf k m) = s * widthOf k m := by
    have h1 : s * widthOf k m ≤ 65536 * 8 := Int.mul_le_mul hs1 hw.2 (by omega) (by omega)
    have h2 : 0 ≤ s * widthOf k m := Int.mul_nonneg hs0 (by omega)
    rw [i64_w]; unfold wrap64; omega
  have HI := Aside0.mk h
  clear h
  go_enter Try.func111, Try.ntmps111
  go_wp2
  have hID := HI.out.below (below_drew (Below.refl w.heap.size w))
  have y0 : w.drew.cell? ⟨g, 0, none⟩ = some (.int .i64 k) := (blk_cell hID.blk 0).trans rfl
  have y1 : w.drew.cell? ⟨g, 1, none⟩ = some (.int .i64 m) := (blk_cell hID.blk 1).trans rfl
  have y2 : w.drew.cell? ⟨g, 2, none⟩ = some (.int .i64 c) := (blk_cell hID.blk 2).trans rfl
  have y3 : w.drew.cell? ⟨g, 3, none⟩ = some (.bool l) := (blk_cell hID.blk 3).trans rfl
  have y4 : w.drew.cell? ⟨g, 5, none⟩ = some (.int .i64 s) := (blk_cell hID.blk 5).trans rfl
  have HBD := Aside0.mk (below_drew (Below.refl w.heap.size w))
  clear hID
  refine start_ (n := 11) (S := fun w' => w'.cell? ⟨g, 0, none⟩ = some (.int .i64 k) ∧ w'.cell? ⟨g, 1, none⟩ = some (.int .i64 m) ∧ w'.cell? ⟨g, 2, none⟩ = some (.int .i64 c) ∧ w'.cell? ⟨g, 3, none⟩ = some (.bool l) ∧ w'.cell? ⟨g, 5, none⟩ = some (.int .i64 s)) (ds := []) #[false, false, false, false, false, false, false, false, false, false, false] (by kernel_rfl) rfl rfl ⟨y0, y1, y2, y3, y4⟩ (fun hHeld => ?_)
  generalize w.drew = wD at y0 y1 y2 y3 y4 HBD hHeld ⊢
  refine pure_ (i := 0) (N := some 3) (v := ?_) (a' := ?_) #[true, false, false, false, false, false, false, false, false, false, false] rfl rfl (by kernel_rfl) (fun _ _ _ h => h) (Or.inl ⟨by rfl, ?_⟩) ?_ ?_
  rotate_left
  · intro w'
    go_simp
    with_reducible rfl
  rotate_left
  · simp only [Act.put, List.setIfInBounds_toArray, List.set_cons_zero, List.set_cons_succ, i64_w, i32_w]
    rfl
  refine pure_ (i := 1) (N := some 4) (v := ?_) (a' := ?_) #[true, true, false, false, false, false, false, false, false, false, false] rfl rfl (by kernel_rfl) (fun _ _ _ h => h) (Or.inl ⟨by rfl, ?_⟩) ?_ ?_
  rotate_left
  · intro w'
    go_simp
    with_reducible rfl
  rotate_left
  · simp only [Act.put, List.setIfInBounds_toArray, List.set_cons_zero, List.set_cons_succ, i64_w, i32_w]
    rfl
  refine pure_ (i := 2) (N := some 5) (v := ?_) (a' := ?_) #[true, true, true, false, false, false, false, false, false, false, false] rfl rfl (by kernel_rfl) (fun _ _ _ h => h) (Or.inl ⟨by rfl, ?_⟩) ?_ ?_
  rotate_left
  · intro w'
    go_simp
    with_reducible rfl
  rotate_left
  · simp only [Act.put, List.setIfInBounds_toArray, List.set_cons_zero, List.set_cons_succ, i64_w, i32_w]
    rfl
  refine pure_ (i := 4) (N := some 7) (v := ?_) (a' := ?_) #[true, true, true, false, true, false, false, false, false, false, false] rfl rfl (by kernel_rfl) (fun _ _ _ h => h) (Or.inl ⟨by rfl, ?_⟩) ?_ ?_
  rotate_left
  · intro w'
    go_simp
    with_reducible rfl
  rotate_left
  · simp only [Act.put, List.setIfInBounds_toArray, List.set_cons_zero, List.set_cons_succ, i64_w, i32_w]
    rfl
  refine pure_ (i := 5) (N := some 8) (v := ?_) (a' := ?_) #[true, true, true, false, true, true, false, false, false, false, false] rfl rfl (by kernel_rfl) (fun _ _ _ h => h) (Or.inl ⟨by rfl, ?_⟩) ?_ ?_
  rotate_left
  · intro w'
    go_simp
    with_reducible rfl
  rotate_left
  · simp only [Act.put, List.setIfInBounds_toArray, List.set_cons_zero, List.set_cons_succ, i64_w, i32_w]
    rfl
  refine pure_ (i := 6) (N := some 9) (v := ?_) (a' := ?_) #[true, true, true, false, true, true, true, false, false, false, false] rfl rfl (by kernel_rfl) (fun _ _ _ h => h) (Or.inl ⟨by rfl, ?_⟩) ?_ ?_
  rotate_left
  · intro w'
    go_simp
    with_reducible rfl
  rotate_left
  · simp only [Act.put, List.setIfInBounds_toArray, List.set_cons_zero, List.set_cons_succ, i64_w, i32_w]
    rfl
  refine take_ (i := 3) (N := some 6) (v := ?_) (a' := ?_) #[true, true, true, true, true, true, true, false, false, false, false] rfl rfl (by kernel_rfl) (fun _ _ _ h => h) (Or.inl ⟨by rfl, ?_⟩) hHeld ?_ ?_
  rotate_left
  · rintro w' ⟨s0, s1, s2, s3, s4⟩
    go_simp
    with_reducible rfl
  rotate_left
  · simp only [Act.put, List.setIfInBounds_toArray, List.set_cons_zero, List.set_cons_succ, i64_w, i32_w]
    rfl
  refine take_ (i := 7) (N := some 10) (v := ?_) (a' := ?_) #[true, true, true, true, true, true, true, true, false, false, false] rfl rfl (by kernel_rfl) (fun _ _ _ h => h) (Or.inl ⟨by rfl, ?_⟩) hHeld ?_ ?_
  rotate_left
  · rintro w' ⟨s0, s1, s2, s3, s4⟩
    go_simp
    with_reducible rfl
  rotate_left
  · simp only [Act.put, List.setIfInBounds_toArray, List.set_cons_zero, List.set_cons_succ, i64_w, i32_w]
    rfl
  refine one_ (i := 8) (N := some 11) #[true, true, true, true, true, true, true, true, true, false, false] rfl rfl (by kernel_rfl) (by decide) (fun K hK => ?_)
  refine goes_ Try.func56 (by kernel_rfl) rfl #[.agg #[.int .i64 k, .int .i64 m, .int .i64 c, .bool l]] (by rfl) rfl rfl (by simp only [List.map_toArray, List.map_cons, List.map_nil]; rfl) ?_
  with_reducible refine (array_width.calls k m c l (widthOf k m) _ hwv.out).mono ?_
  rintro e w1 ⟨rfl, hd⟩
  refine ⟨_, rfl, ?_⟩
  refine hK.out _ _ ⟨pw_cell_below hd y0, pw_cell_below hd y1, pw_cell_below hd y2, pw_cell_below hd y3, pw_cell_below hd y4⟩ (fun hHeld => ?_)
  clear hK K
  refine norm_ (a' := ?_) ?_ ?_
  rotate_left
  · show Act.put _ (some 11) _ = _
    simp only [Act.put, List.setIfInBounds_toArray, List.set_cons_zero, List.set_cons_succ, i64_w, i32_w]
    rfl
  refine pure_ (i := 9) (N := some 12) (v := ?_) (a' := ?_) #[true, true, true, true, true, true, true, true, true, true, false] rfl rfl (by kernel_rfl) (fun _ _ _ h => h) (Or.inl ⟨by rfl, ?_⟩) ?_ ?_
  rotate_left
  · intro w'
    go_simp
    with_reducible rfl
  rotate_left
  · simp only [Act.put, List.setIfInBounds_toArray, List.set_cons_zero, List.set_cons_succ, i64_w, i32_w]
    rfl
  refine pure_ (i := 10) (N := some 2) (v := ?_) (a' := ?_) #[true, true, true, true, true, true, true, true, true, true, true] rfl rfl (by kernel_rfl) (fun _ _ _ h => h) (Or.inl ⟨by rfl, ?_⟩) ?_ ?_
  rotate_left
  · intro w'
    go_simp
    with_reducible rfl
  rotate_left
  · simp only [Act.put, List.setIfInBounds_toArray, List.set_cons_zero, List.set_cons_succ, i64_w, i32_w]
    rfl
  refine done_ (by kernel_rfl) ?_
  have HB := Aside0.mk (below_step HBD.out hd)
  clear y0 y1 y2 y3 y4 HBD hd hHeld
  go_wp2
  go_ret
  exact ⟨rfl, HB.out⟩
theorem reps_one {α : Type} (R : α → List Value → Prop) (p : α) (cs : List Value) (size : Nat) (h : cs.length = size) (hp : R p cs) : Reps R size [p] cs := by
  refine ⟨by simp [h], fun j q hq => ?_⟩
  cases j with
  | zero =>
    obtain rfl : p = q := by simpa using hq
    simpa [← h] using hp
  | succ j => simp at hq
/-- the places of bytes of a member that is missing, those of the first members -/
def atL (s mI off n : Int) : Nat → List S41
  | 0 => []
  | i + 1 => if (i : Int) = mI then atL s mI off n i else atL s mI off n i ++ [⟨(i : Int) * s + off, n⟩]
def atP (M : Nat) (s gone mI off n : Int) : List S41 := if mI = gone then atL s mI off n M else [⟨mI * s + off, n⟩]
theorem atL_len (s mI off n : Int) : ∀ i, (atL s mI off n i).length ≤ i
  | 0 => Nat.le_refl _
  | i + 1 => by
    have := atL_len s mI off n i
    unfold atL
    split
    · omega
    · rw [List.length_append, List.length_singleton]; omega
def AtRel (w wr : World) (M : Nat) (s mI off n : Int) (vi v : Value) : Prop := ∃ i : Nat, i ≤ M ∧ vi = .int .i64 (i : Int) ∧ Aside0 (k41.R 41 wr w.heap.size (fun _ => True) v (atL s mI off n i)) ∧ Aside0 (Below w.heap.size w wr)
set_option maxHeartbeats 4000000 in
set_option maxRecDepth 100000 in
theorem whole_at (w : World) (g : Nat) (k m c : Int) (l : Bool) (AM : Option Addr) (cM : Nat) (mm : List (List Int)) (s gone : Int) (h : IsWhole w g k m c l AM cM mm s gone) (hs0 : 0 ≤ s) (hs1 : s ≤ 65536) (hM : mm.length ≤ 8) (mI off n : Int) (hm0 : 0 ≤ mI) (hm1 : mI ≤ 8) (ho0 : 0 ≤ off) (ho1 : off ≤ 65536) :
    Calls Try.prog 113 #[.pointer (some ⟨g, 0, none⟩), .int .i64 mI, .int .i64 off, .int .i64 n] w fun e w' => ∃ v0, e = .returned v0 ∧ k41.R 41 w' w.heap.size (fun _ => True) v0 (atP mm.length s gone mI off n) ∧ Below w.heap.size w w' := by
  have hmul : ∀ i : Int, 0 ≤ i → i ≤ 8 → 0 ≤ i * s ∧ i * s ≤ 8 * 65536 := fun i h0 h1 => ⟨Int.mul_nonneg h0 hs0, Int.mul_le_mul h1 hs1 hs0 (by omega)⟩
  have HMUL := Aside0.mk hmul
  have HI := Aside0.mk h
  have HB := Aside0.mk (Below.refl w.heap.size w)
  have c6 : w.cell? ⟨g, 6, none⟩ = some (.int .i64 gone) := (blk_cell h.blk 6).trans rfl
  have c5 : w.cell? ⟨g, 5, none⟩ = some (.int .i64 s) := (blk_cell h.blk 5).trans rfl
  have c4 : w.cell? ⟨g, 4, none⟩ = some (.slice AM mm.length cM) := (blk_cell h.blk 4).trans rfl
  have hu41 := Try.underlying41
  by_cases he : mI = gone
  · have t0 : decide (mI = gone) = true := decide_eq_true he
    have t1 : (mI != gone) = false := by simp [he]
    have HE := Aside0.mk he
    clear h hmul he
    go_enter Try.func113, Try.ntmps113
    go_wp2
    go_loopw [33, 9] (fun vi v wr => AtRel w wr mm.length s mI off n vi v) (fun vi _ _ => mm.length - (intOf vi).toNat)
    case atStart => exact ⟨0, Nat.zero_le _, rfl, ⟨Kd.R_nil _ _ _ _ _⟩, HB⟩
    case round =>
      clear HB c4 c5 c6
      obtain ⟨i, hi, rfl, HO, HB⟩ := hrel
      by_cases hlt : i < mm.length
      · have hlti : (i : Int) < (mm.length : Int) := by omega
        have hnx : IntKind.i64.wrap ((i : Int) + 1) = (i : Int) + 1 := by rw [i64_w]; unfold wrap64; omega
        have hi2 := HI.out.below HB.out
        have c5 : wr.cell? ⟨g, 5, none⟩ = some (.int .i64 s) := (blk_cell hi2.blk 5).trans rfl
        obtain ⟨AO, cO, eO⟩ := Kd.R_slice HO.out
        have hlen := atL_len s mI off n i
        have hstep : atL s mI off n (i + 1) = if (i : Int) = mI then atL s mI off n i else atL s mI off n i ++ [⟨(i : Int) * s + off, n⟩] := rfl
        obtain ⟨O, hO⟩ : ∃ O, O = atL s mI off n i := ⟨_, rfl⟩
        rw [← hO] at HO eO hlen hstep
        subst eO
        have hb1 := HMUL.out (i : Int) (by omega) (by omega)
        clear hi2 hO
        by_cases hei : (i : Int) = mI
        · have u0 : decide ((i : Int) = mI) = true := decide_eq_true hei
          have u1 : ((i : Int) != mI) = false := by simp [hei]
          rw [if_pos hei] at hstep
          replace hstep := Aside0.mk hstep
          clear hei
          go_wp2
          go_roundw
          case rel => exact ⟨i + 1, by omega, by go_num, ⟨by rw [hstep.out]; exact HO.out⟩, HB⟩
          case measure => simp [intOf]; omega
        · have u0 : decide ((i : Int) = mI) = false := decide_eq_false hei
          have u1 : ((i : Int) != mI) = true := by simp [hei]
          rw [if_neg hei] at hstep
          replace hstep := Aside0.mk hstep
          have hw1 : IntKind.i64.wrap ((i : Int) * s) = (i : Int) * s := by rw [i64_w]; unfold wrap64; omega
          have hw2 : IntKind.i64.wrap ((i : Int) * s + off) = (i : Int) * s + off := by rw [i64_w]; unfold wrap64; omega
          have hroom : (O.length + 1) * 16 ≤ 140737488355328 := by omega
          have HRM := Aside0.mk hroom
          clear hei hb1 hlen hroom
          go_wp2_with (first
            | ((with_reducible refine gate_builtin (b := .append) (xs := #[.tmp 39, .tmp 50]) rfl ?_); at_builtin; refine Kd.R_append k41 (w0 := w) w.heap.size rfl (.tmp 39) (.tmp 50) 23 41 (.agg #[.int .i64 0, .int .i64 0]) 16 rfl Try.underlying23 info41 rfl (by decide) (by decide) (.slice AO O.length cO) O ⟨(i : Int) * s + off, n⟩ [.int .i64 ((i : Int) * s + off), .int .i64 n] (fun _ => True) (fun _ => False) rfl rfl (k41_mkM _ _ _ ⟨(i : Int) * s + off, n⟩) (fun _ h => h.elim) (fun _ _ => trivial) HO.out HB.out HB.out.size HRM.out ?_; intro v4 w4 HO4 HB4 hg4 hat4))
          go_roundw
          case rel => exact ⟨i + 1, by omega, by go_num, ⟨by rw [hstep.out]; exact HO4⟩, ⟨HB4⟩⟩
          case measure => simp [intOf]; omega
      · obtain rfl : i = mm.length := by omega
        go_wp2
        go_ret
        exact ⟨_, rfl, by unfold atP; rw [if_pos HE.out]; exact HO.out, HB.out⟩
  · have t0 : decide (mI = gone) = false := decide_eq_false he
    have t1 : (mI != gone) = true := by simp [he]
    have HE := Aside0.mk he
    have hb1 := hmul mI hm0 hm1
    have hw1 : IntKind.i64.wrap (mI * s) = mI * s := by rw [i64_w]; unfold wrap64; omega
    have hw2 : IntKind.i64.wrap (mI * s + off) = mI * s + off := by rw [i64_w]; unfold wrap64; omega
    clear h hmul he hb1 c4
    go_enter Try.func113, Try.ntmps113
    go_wp2_with (first
      | ((with_reducible refine gate_dst (N := 27) rfl ?_); refine Kd.R_lit k41 _ 41 ?hg (N := 27) ?hd (xs := ([⟨mI * s + off, n⟩] : List S41)) (inner := [.int .i64 (mI * s + off), .int .i64 n]) (ok := fun _ => True) (okp := fun _ => True) ?hr (reps_one _ _ _ _ rfl (k41_mkM _ _ _ ⟨mI * s + off, n⟩)) (fun _ hk => hk) trivial (Below.refl w.heap.size w) (Nat.le_refl _) (by simp) ?_; (case hd => rfl); (case hg => rfl); (case hr => first | (go_simp; done) | (go_simp; rfl)); intro v1 w1 HO1 HB1 hg1 hat1))
    go_ret
    exact ⟨_, rfl, by unfold atP; rw [if_neg HE.out]; exact HO1, HB1⟩
end Go.Proofs.Ytlnikhijfamakaa.Pure
