/- What a source is to its readers; the reference's question whether a source is as a model. No condition. -/
import Derived.Test.YtlnikhijfamakaaPureSourceImagesC
import Derived.Outline
namespace Go.Proofs.Ytlnikhijfamakaa.Pure
open Go Go.RowKit Go.Maps Go.Proofs.Ytlnikhijfamakaa.QSourceImages Go.Proofs.YtlnikhijfamakaaW.PrintWords Go.Proofs.YtlnikhijfamakaaW.PrintLast Go.Proofs.YtlnikhijfamakaaW.PrintMore
set_option linter.unusedVariables false
set_option linter.unusedSimpArgs false
/-- a method of a value of an interface, resolved -/
structure MethAt (T : Nat) (x : Value) (name : String) (f : Nat) : Prop where
  run : ∀ w, (method 267 T x name).run Try.prog w = .ok (f, x) w
  ahead : ∀ w, (nilAhead 267 T x name).run Try.prog w = .ok (some false) w
  ent : ∀ args w, (callFunc f args).run Try.prog w = .ok (.enter f args) w
/-- what a source's methods answer -/
structure SrcAns (x : Value) (fR fO fS fP : Nat) (b fr : List Int) (bad : List Bool) (W : World) : Prop where
  read : ∀ off k : Int, Calls Try.prog fR #[x, .int .i64 off, .int .i64 k] W fun e w' => ∃ v0, e = .returned (.tuple #[v0, .int .i64 (readErr b.length bad off k)]) ∧ (Kd.int .u8).R 5 w' W.heap.size (fun _ => True) v0 (readRow b bad off k) ∧ Below W.heap.size W w'
  road : ∀ off k : Int, Calls Try.prog fO #[x, .int .i64 off, .int .i64 k] W fun e w' => ∃ v0, e = .returned v0 ∧ k41.R 41 w' W.heap.size (fun _ => True) v0 (roadRow fr off k) ∧ Below W.heap.size W w'
  size : Calls Try.prog fS #[x] W fun e w' => e = .returned (.int .i64 (b.length : Int)) ∧ Below W.heap.size W w'
  plain : Calls Try.prog fP #[x] W fun e w' => e = .returned (.bool true) ∧ Below W.heap.size W w'
/-- a plain source of bytes, with the places of its bytes and those that cannot be read -/
structure SrcIs (w : World) (T : Nat) (x : Value) (fR fO fS fP : Nat) (b fr : List Int) (bad : List Bool) : Prop where
  mR : MethAt T x "Read" fR
  mO : MethAt T x "Road" fO
  mS : MethAt T x "Size" fS
  mP : MethAt T x "Plain" fP
  ans : ∀ W, Below w.heap.size w W → SrcAns x fR fO fS fP b fr bad W
theorem SrcIs.below {w W : World} {T : Nat} {x : Value} {fR fO fS fP : Nat} {b fr : List Int} {bad : List Bool} (h : SrcIs w T x fR fO fS fP b fr bad) (hb : Below w.heap.size w W) : SrcIs W T x fR fO fS fP b fr bad :=
  ⟨h.mR, h.mO, h.mS, h.mP, fun W' hb' => h.ans W' (below_step hb hb')⟩
/-- an image is such a source -/
theorem img_src {w : World} {g : Nat} {A : Option Addr} {c : Nat} {b : List Int} {A' : Option Addr} {c' : Nat} {l : List S41} (h : IsImg w g A c b A' c' (normP l)) (hn : b.length ≤ 65536) (hl : l.length ≤ 8796093021952) :
    SrcIs w 69 (.pointer (some ⟨g, 0, none⟩)) 98 99 100 97 b (idx b.length) (badOf b.length l) where
  mR := ⟨fun _ => by kernel_rfl, fun _ => by kernel_rfl, enters_of Try.func98 (by kernel_rfl) rfl⟩
  mO := ⟨fun _ => by kernel_rfl, fun _ => by kernel_rfl, enters_of Try.func99 (by kernel_rfl) rfl⟩
  mS := ⟨fun _ => by kernel_rfl, fun _ => by kernel_rfl, enters_of Try.func100 (by kernel_rfl) rfl⟩
  mP := ⟨fun _ => by kernel_rfl, fun _ => by kernel_rfl, enters_of Try.func97 (by kernel_rfl) rfl⟩
  ans := fun W hb => ⟨fun off k => img_read W g A c b A' c' l (h.below hb) hn hl off k, fun off k => img_road W g A c b A' c' (normP l) (h.below hb) hn off k, img_size W g A c b A' c' (normP l) (h.below hb), img_plain W g⟩
theorem equalB_l0 (xs : List Int) (hn : xs.length ≤ 4611686018427387904) : ∀ (d i : Nat), i + d = xs.length →
    Ev (fun k => slices_Equal_byte_byte.l0 k xs xs (xs.length : Int) (i : Int)) true
  | 0, i, hi => by
    refine Ev.step (f := fun _ => some _) (fun k => ?_) (Ev.now _)
    simp only [slices_Equal_byte_byte.l0]
    rw [if_neg (by omega)]
  | d + 1, i, hi => by
    refine Ev.step (fun k => ?_) (equalB_l0 xs hn d (i + 1) (by omega))
    simp only [slices_Equal_byte_byte.l0]
    rw [if_pos (by omega), if_pos (by omega), if_pos (by omega), if_pos (by omega), show wrap64 ((i : Int) + 1) = ((i + 1 : Nat) : Int) by unfold wrap64; omega]
    simp
theorem equalB_ev (xs : List Int) (hn : xs.length ≤ 4611686018427387904) : Ev (fun k => slices_Equal_byte_byte.f k xs xs) true := by
  refine Ev.congr (fun k => ?_) (equalB_l0 xs hn xs.length 0 (by omega))
  unfold slices_Equal_byte_byte.f
  rw [if_pos rfl]; rfl
set_option maxHeartbeats 8000000 in
set_option maxRecDepth 100000 in
/-- the range is wrong -/
theorem is_out (w : World) (T : Nat) (x : Value) (fR fO fS fP : Nat) (b fr : List Int) (bad : List Bool) (h : SrcIs w T x fR fO fS fP b fr bad) (A0 A1 A2 : Option Addr) (n1 n2 c0 c1 c2 : Nat) (off k : Int) (hR : ¬ inR b.length off k) (hf : fr.length = b.length) (hn : b.length ≤ 65536) :
    Calls Try.prog 11 #[.agg #[.slice A0 b.length c0, .slice A1 n1 c1, .slice A2 n2 c2], .iface T x, .int .i64 off, .int .i64 k] w fun e w' => e = .returned (.bool true) ∧ Below w.heap.size w w' := by
  have he : readErr b.length bad off k = 4 := by unfold readErr; rw [if_neg hR]
  have hr : readRow b bad off k = [] := by unfold readRow; rw [he, if_neg (by decide)]
  have ho : roadRow fr off k = [] := by unfold roadRow; rw [hf, if_neg hR]
  have hread := fun W (hb : Below w.heap.size w W) => (h.ans W hb).read off k
  have hroad := fun W (hb : Below w.heap.size w W) => (h.ans W hb).road off k
  have HSIZE := Aside0.mk (fun W (hb : Below w.heap.size w W) => (h.ans W hb).size)
  have HPLAIN := Aside0.mk (fun W (hb : Below w.heap.size w W) => (h.ans W hb).plain)
  rw [he, hr] at hread
  rw [ho] at hroad
  have hRr := h.mR.run
  have hRe := h.mR.ent
  have hOr := h.mO.run
  have hOe := h.mO.ent
  have hmS := Aside0.mk h.mS
  have hmP := Aside0.mk h.mP
  have HREAD := Aside0.mk hread
  have HROAD := Aside0.mk hroad
  have hu34 := Try.underlying34
  have HB := Aside0.mk (below_alloc (Below.refl w.heap.size w) (.cells #[.slice A0 b.length c0, .slice A1 n1 c1, .slice A2 n2 c2] 34))
  have hX := Aside0.mk (blk_new w (.cells #[.slice A0 b.length c0, .slice A1 n1 c1, .slice A2 n2 c2] 34))
  clear h hread hroad
  go_enter Try.func11, Try.ntmps11
  go_wp2
  refine (HREAD.out _ HB.out).mono ?_
  rintro e w1 ⟨v0, rfl, hv0, hb1⟩
  obtain ⟨V0, d0_, ev0⟩ := Kd.R_slice hv0
  rw [List.length_nil] at ev0
  subst ev0
  have HB1 := Aside0.mk (below_step HB.out hb1)
  have hX1 := Aside0.mk (blk_below hX.out hb1)
  have hV0 := Aside0.mk (Kd.R_reads' hv0)
  clear hb1 HB hX hv0
  go_wp2
  refine (HROAD.out _ HB1.out).mono ?_
  rintro e w2 ⟨v1, rfl, hv1, hb2⟩
  obtain ⟨V1, d1_, ev1⟩ := Kd.R_slice hv1
  rw [List.length_nil] at ev1
  subst ev1
  have HB2 := Aside0.mk (below_step HB1.out hb2)
  have hX2 := Aside0.mk (blk_below hX1.out hb2)
  have hW0 := Aside0.mk (Kd.C_below hV0.out.2.2 hb2)
  have hV1 := Aside0.mk (Kd.R_reads' hv1)
  clear hb2 HB1 hX1 hv1
  go_wp2
  have x0_ : w2.drew.cell? ⟨w.heap.size, 0, none⟩ = some (.slice A0 b.length c0) := (blk_cell (blk_drew hX2.out) 0).trans rfl
  have HBD := Aside0.mk (below_drew HB2.out)
  have hXD := Aside0.mk (blk_drew hX2.out)
  have hWD := Aside0.mk (Kd.C_below hW0.out (below_drew (Below.refl w2.heap.size w2)))
  have hVD := Aside0.mk (Kd.C_below hV1.out.2.2 (below_drew (Below.refl w2.heap.size w2)))
  clear HB2 hX2 hW0
  refine start_ (n := 11) (S := fun w' => w'.cell? ⟨w.heap.size, 0, none⟩ = some (.slice A0 b.length c0)) (ds := []) #[false, false, false, false, false, false, false, false, false, false, false] (by kernel_rfl) rfl rfl (x0_) (fun hHeld => ?_)
  generalize w2.drew = wD at x0_ HBD hXD hWD hVD hHeld ⊢
  refine pure_ (i := 0) (N := some 24) (v := ?_) (a' := ?_) #[true, false, false, false, false, false, false, false, false, false, false] rfl rfl (by kernel_rfl) (fun _ _ _ h => h) (Or.inl ⟨by rfl, ?_⟩) ?_ ?_
  rotate_left
  · intro w'
    go_simp
    with_reducible rfl
  rotate_left
  · simp only [Act.put, List.setIfInBounds_toArray, List.set_cons_zero, List.set_cons_succ, i64_w, i32_w]
    rfl
  refine pure_ (i := 2) (N := some 26) (v := ?_) (a' := ?_) #[true, false, true, false, false, false, false, false, false, false, false] rfl rfl (by kernel_rfl) (fun _ _ _ h => h) (Or.inl ⟨by rfl, ?_⟩) ?_ ?_
  rotate_left
  · intro w'
    go_simp
    with_reducible rfl
  rotate_left
  · simp only [Act.put, List.setIfInBounds_toArray, List.set_cons_zero, List.set_cons_succ, i64_w, i32_w]
    rfl
  refine take_ (i := 3) (N := some 27) (v := ?_) (a' := ?_) #[true, false, true, true, false, false, false, false, false, false, false] rfl rfl (by kernel_rfl) (fun _ _ _ h => h) (Or.inl ⟨by rfl, ?_⟩) hHeld ?_ ?_
  rotate_left
  · intro w' s0
    go_simp
    with_reducible rfl
  rotate_left
  · simp only [Act.put, List.setIfInBounds_toArray, List.set_cons_zero, List.set_cons_succ, i64_w, i32_w]
    rfl
  refine pure_ (i := 4) (N := some 28) (v := ?_) (a' := ?_) #[true, false, true, true, true, false, false, false, false, false, false] rfl rfl (by kernel_rfl) (fun _ _ _ h => h) (Or.inl ⟨by rfl, ?_⟩) ?_ ?_
  rotate_left
  · intro w'
    go_simp
    with_reducible rfl
  rotate_left
  · simp only [Act.put, List.setIfInBounds_toArray, List.set_cons_zero, List.set_cons_succ, i64_w, i32_w]
    rfl
  refine one_ (i := 1) (N := some 25) #[true, true, true, true, true, false, false, false, false, false, false] rfl rfl (by kernel_rfl) (by decide) (fun K hK => ?_)
  refine call_ fS #[x] (by rfl) rfl ?_ ?_
  · unfold execOp
    simp [resolve, Deferred.ofValue, invoke, callMethod, Act.eval]
    rw [show 167 + Made.depth = 267 from rfl, hmS.out.run]
    exact hmS.out.ent _ _
  with_reducible refine (HSIZE.out _ HBD.out).mono ?_
  rintro e w3 ⟨rfl, hb3⟩
  refine ⟨_, rfl, ?_⟩
  refine hK.out _ _ (pw_cell_below hb3 x0_) (fun hHeld => ?_)
  clear hK K
  refine norm_ (a' := ?_) ?_ ?_
  rotate_left
  · show Act.put _ (some 25) _ = _
    simp only [Act.put, List.setIfInBounds_toArray, List.set_cons_zero, List.set_cons_succ, i64_w, i32_w]
    rfl
  refine pure_ (i := 5) (N := some 29) (v := ?_) (a' := ?_) #[true, true, true, true, true, true, false, false, false, false, false] rfl rfl (by kernel_rfl) (fun _ _ _ h => h) (Or.inl ⟨by rfl, ?_⟩) ?_ ?_
  rotate_left
  · intro w'
    go_simp
    with_reducible rfl
  rotate_left
  · simp only [Act.put, List.setIfInBounds_toArray, List.set_cons_zero, List.set_cons_succ, i64_w, i32_w]
    rfl
  refine pure_ (i := 6) (N := some 30) (v := ?_) (a' := ?_) #[true, true, true, true, true, true, true, false, false, false, false] rfl rfl (by kernel_rfl) (fun _ _ _ h => h) (Or.inl ⟨by rfl, ?_⟩) ?_ ?_
  rotate_left
  · intro w'
    go_simp
    with_reducible rfl
  rotate_left
  · simp only [Act.put, List.setIfInBounds_toArray, List.set_cons_zero, List.set_cons_succ, i64_w, i32_w]
    rfl
  refine pure_ (i := 7) (N := some 31) (v := ?_) (a' := ?_) #[true, true, true, true, true, true, true, true, false, false, false] rfl rfl (by kernel_rfl) (fun _ _ _ h => h) (Or.inl ⟨by rfl, ?_⟩) ?_ ?_
  rotate_left
  · intro w'
    go_simp
    with_reducible rfl
  rotate_left
  · simp only [Act.put, List.setIfInBounds_toArray, List.set_cons_zero, List.set_cons_succ, i64_w, i32_w]
    rfl
  refine one_ (i := 8) (N := some 32) #[true, true, true, true, true, true, true, true, true, false, false] rfl rfl (by kernel_rfl) (by decide) (fun K hK => ?_)
  refine call_ fP #[x] (by rfl) rfl ?_ ?_
  · unfold execOp
    simp [resolve, Deferred.ofValue, invoke, callMethod, Act.eval]
    rw [show 167 + Made.depth = 267 from rfl, hmP.out.run]
    exact hmP.out.ent _ _
  with_reducible refine (HPLAIN.out _ (below_step HBD.out hb3)).mono ?_
  rintro e w4 ⟨rfl, hb4⟩
  refine ⟨_, rfl, ?_⟩
  refine hK.out _ _ (pw_cell_below (below_step hb3 hb4) x0_) (fun hHeld => ?_)
  clear hK K
  refine norm_ (a' := ?_) ?_ ?_
  rotate_left
  · show Act.put _ (some 32) _ = _
    simp only [Act.put, List.setIfInBounds_toArray, List.set_cons_zero, List.set_cons_succ, i64_w, i32_w]
    rfl
  refine pure_ (i := 9) (N := some 33) (v := ?_) (a' := ?_) #[true, true, true, true, true, true, true, true, true, true, false] rfl rfl (by kernel_rfl) (fun _ _ _ h => h) (Or.inl ⟨by rfl, ?_⟩) ?_ ?_
  rotate_left
  · intro w'
    go_simp
    with_reducible rfl
  rotate_left
  · simp only [Act.put, List.setIfInBounds_toArray, List.set_cons_zero, List.set_cons_succ, i64_w, i32_w]
    rfl
  refine pure_ (i := 10) (N := some 34) (v := ?_) (a' := ?_) #[true, true, true, true, true, true, true, true, true, true, true] rfl rfl (by kernel_rfl) (fun _ _ _ h => h) (Or.inl ⟨by rfl, ?_⟩) ?_ ?_
  rotate_left
  · intro w'
    go_simp
    with_reducible rfl
  rotate_left
  · simp only [Act.put, List.setIfInBounds_toArray, List.set_cons_zero, List.set_cons_succ, i64_w, i32_w]
    rfl
  refine done_ (by kernel_rfl) ?_
  have HB4 := Aside0.mk (below_step HBD.out (below_step hb3 hb4))
  have hX4 := Aside0.mk (blk_below hXD.out (below_step hb3 hb4))
  have hW4 := Aside0.mk (Kd.C_below hWD.out (below_step hb3 hb4))
  have hC4 := Aside0.mk (Kd.C_below hVD.out (below_step hb3 hb4))
  clear HBD hXD hWD hVD hHeld x0_ hb3 hb4
  have c0_ : w4.cell? ⟨w.heap.size, 0, none⟩ = some (.slice A0 b.length c0) := (blk_cell hX4.out 0).trans rfl
  have c1_ : w4.cell? ⟨w.heap.size, 1, none⟩ = some (.slice A1 n1 c1) := (blk_cell hX4.out 1).trans rfl
  have c2_ : w4.cell? ⟨w.heap.size, 2, none⟩ = some (.slice A2 n2 c2) := (blk_cell hX4.out 2).trans rfl
  unfold inR at hR
  by_cases d0 : off < 0
  · have b0 := decide_eq_true d0
    clear d0 hR
    go_wp2
    go_ret
    exact ⟨rfl, HB4.out⟩
  · have b0 := decide_eq_false d0
    by_cases d1 : k < 0
    · have b1 := decide_eq_true d1
      clear d0 d1 hR
      go_wp2
      go_ret
      exact ⟨rfl, HB4.out⟩
    · have b1 := decide_eq_false d1
      by_cases d2 : (b.length : Int) < off
      · have b2 := decide_eq_true d2
        clear d0 d1 d2 hR
        go_wp2
        go_ret
        exact ⟨rfl, HB4.out⟩
      · have b2 := decide_eq_false d2
        have hs : IntKind.i64.wrap ((b.length : Int) - off) = (b.length : Int) - off := by rw [i64_w]; unfold wrap64; omega
        have b3 : decide ((b.length : Int) - off < k) = true := decide_eq_true (by omega)
        clear d0 d1 d2 hR
        go_wp2
        go_ret
        exact ⟨rfl, HB4.out⟩
theorem part_cutI {w : World} {A0 : Option Addr} {len c0 off C : Nat} {b : List Int} (h : off + C ≤ len) (hc : len ≤ c0) (hb : b.length = len) : ∃ AP,
    (∀ W : World, (Instr.slice 31 (.slice A0 len c0) (some (.int .i64 (off : Int))) (some (.int .i64 ((off : Int) + (C : Int)))) none).run Try.prog W = .ok (.slice AP C (c0 - off)) W) ∧
    ∀ W : World, Kd.C (Kd.int .i64) W A0 len b → Kd.C (Kd.int .i64) W AP C ((b.drop off).take C) := by
  subst hb
  obtain ⟨i5, hi5, hy5⟩ := Option.map_eq_some_iff.1 info3
  simp only [Prod.mk.injEq] at hy5
  refine ⟨if c0 = off then A0 else A0.map (·.add (off * 1)), fun W => ?_, fun W hC => ?_⟩
  · have h1 := cut_mid (P := Try.prog) 31 3 .i64 .i64 Try.underlying31 hi5 1 hy5.2.1 A0 b.length c0 (off : Int) ((off : Int) + (C : Int)) (by omega) (by omega) (by omega) hc W
    rw [Int.toNat_natCast, show ((off : Int) + (C : Int)).toNat = off + C by omega, Nat.add_sub_cancel_left] at h1
    exact h1
  · have h1 := Kd.C_mid (lo := off) (hi := off + C) hC (by omega) h hc
    rw [List.drop_take, show off + C - off = C by omega] at h1
    rw [show ((b.drop off).take C).length = C by rw [List.length_take, List.length_drop]; omega] at h1
    exact h1
set_option maxHeartbeats 8000000 in
set_option maxRecDepth 100000 in
/-- a byte of the range cannot be read -/
theorem is_hit (w : World) (T : Nat) (x : Value) (fR fO fS fP : Nat) (b fr : List Int) (bad : List Bool) (h : SrcIs w T x fR fO fS fP b fr bad) (A0 A1 A2 : Option Addr) (n1 n2 c0 c1 c2 : Nat) (o n : Nat) (hon : o + n ≤ b.length) (hf : fr.length = b.length) (hbl : bad.length = b.length) (hn : b.length ≤ 65536)
    (hn1 : n1 = b.length) (hn2 : n2 = b.length) (hc1 : n1 ≤ c1) (hr1 : Kd.C (Kd.int .i64) w A1 n1 fr) (hr2 : Kd.C Kd.bool w A2 n2 bad) (hfb : ∀ y ∈ fr, 0 ≤ y ∧ y < 65536) (hh : hit bad (o : Int) (n : Int) = true) :
    Calls Try.prog 11 #[.agg #[.slice A0 b.length c0, .slice A1 n1 c1, .slice A2 n2 c2], .iface T x, .int .i64 (o : Int), .int .i64 (n : Int)] w fun e w' => e = .returned (.bool true) ∧ Below w.heap.size w w' := by
  subst hn1
  subst hn2
  have hR : inR (b.length : Int) (o : Int) (n : Int) := ⟨by omega, by omega, by omega⟩
  have he : readErr b.length bad (o : Int) (n : Int) = 19 := by unfold readErr; rw [if_pos hR, if_pos hh]
  have hr : readRow b bad (o : Int) (n : Int) = [] := by unfold readRow; rw [he, if_neg (by decide)]
  have ho : roadRow fr (o : Int) (n : Int) = gluedP [] ((fr.drop o).take n) := by unfold roadRow; rw [hf, if_pos hR, Int.toNat_natCast, Int.toNat_natCast]
  obtain ⟨AP, hcutP, hCP⟩ := part_cutI (w := w) (A0 := A1) (b := fr) hon hc1 hf
  have HPP := Aside0.mk (hCP w hr1)
  have hfl : ((fr.drop o).take n).length = n := by rw [List.length_take, List.length_drop]; omega
  obtain ⟨kg, hkg⟩ := (glued_ev ((fr.drop o).take n) (by omega) (fun y hy => hfb y (List.mem_of_mem_drop (List.mem_of_mem_take hy)))).rounds
  have hgl := glued_short ((fr.drop o).take n) []
  obtain ⟨frp, hfrp⟩ : ∃ p, p = (fr.drop o).take n := ⟨_, rfl⟩
  rw [← hfrp] at HPP hkg hgl hfl
  obtain ⟨rd_, hrd⟩ : ∃ r, r = gluedP [] frp := ⟨_, rfl⟩
  rw [← hrd] at hkg hgl
  obtain ⟨ks, hks⟩ := (same_ev rd_ (by rw [List.length_nil] at hgl; omega)).rounds
  have HKG := Aside0.mk hkg
  have HKS := Aside0.mk hks
  have hglu := fun W (hC : Kd.C (Kd.int .i64) W AP n frp) => wrackref1_Glued.calls kg AP (c1 - o) frp rd_ W (by rw [hfl]; exact hC) (by rw [hfl]; omega) hkg
  rw [hfl] at hglu
  have HGLU := Aside0.mk hglu
  have HR2 := Aside0.mk hr2
  have HBL := Aside0.mk hbl
  have hcc1 : n ≤ c1 - o := by omega
  have hcut1 := hcutP
  have ht2 : decide ((b.length : Int) < (o : Int)) = false := decide_eq_false (by omega)
  have ht2n : ¬ (b.length < o) := by omega
  have hs3 : IntKind.i64.wrap ((b.length : Int) - (o : Int)) = (b.length : Int) - (o : Int) := by rw [i64_w]; unfold wrap64; omega
  have ht3 : decide ((b.length : Int) - (o : Int) < (n : Int)) = false := decide_eq_false (by omega)
  have hson : IntKind.i64.wrap ((o : Int) + (n : Int)) = (o : Int) + (n : Int) := by rw [i64_w]; unfold wrap64; omega
  have hb65 : b.length ≤ 65536 := hn
  have hread := fun W (hb : Below w.heap.size w W) => (h.ans W hb).read (o : Int) (n : Int)
  have hroad := fun W (hb : Below w.heap.size w W) => (h.ans W hb).road (o : Int) (n : Int)
  have HSIZE := Aside0.mk (fun W (hb : Below w.heap.size w W) => (h.ans W hb).size)
  have HPLAIN := Aside0.mk (fun W (hb : Below w.heap.size w W) => (h.ans W hb).plain)
  rw [ho, ← hfrp, ← hrd] at hroad
  have HHIT := Aside0.mk hh
  clear hh hbl hfrp hrd
  clear hcutP hCP hkg hks hgl hfl hglu ho hR hr1 hr2 hfb
  rw [he, hr] at hread
  have hRr := h.mR.run
  have hRe := h.mR.ent
  have hOr := h.mO.run
  have hOe := h.mO.ent
  have hmS := Aside0.mk h.mS
  have hmP := Aside0.mk h.mP
  have HREAD := Aside0.mk hread
  have HROAD := Aside0.mk hroad
  have hu34 := Try.underlying34
  have HB := Aside0.mk (below_alloc (Below.refl w.heap.size w) (.cells #[.slice A0 b.length c0, .slice A1 b.length c1, .slice A2 b.length c2] 34))
  have hX := Aside0.mk (blk_new w (.cells #[.slice A0 b.length c0, .slice A1 b.length c1, .slice A2 b.length c2] 34))
  clear h he hr hread hroad
  go_enter Try.func11, Try.ntmps11
  go_wp2
  refine (HREAD.out _ HB.out).mono ?_
  rintro e w1 ⟨v0, rfl, hv0, hb1⟩
  obtain ⟨V0, d0_, ev0⟩ := Kd.R_slice hv0
  rw [List.length_nil] at ev0
  subst ev0
  have HB1 := Aside0.mk (below_step HB.out hb1)
  have hX1 := Aside0.mk (blk_below hX.out hb1)
  have hV0 := Aside0.mk (Kd.R_reads' hv0)
  clear hb1 HB hX hv0
  go_wp2
  refine (HROAD.out _ HB1.out).mono ?_
  rintro e w2 ⟨v1, rfl, hv1, hb2⟩
  obtain ⟨V1, d1_, ev1⟩ := Kd.R_slice hv1
  subst ev1
  have HB2 := Aside0.mk (below_step HB1.out hb2)
  have hX2 := Aside0.mk (blk_below hX1.out hb2)
  have hW0 := Aside0.mk (Kd.C_below hV0.out.2.2 hb2)
  have hV1 := Aside0.mk (Kd.R_reads' hv1)
  clear hb2 HB1 hX1 hv1
  go_wp2
  have x0_ : w2.drew.cell? ⟨w.heap.size, 0, none⟩ = some (.slice A0 b.length c0) := (blk_cell (blk_drew hX2.out) 0).trans rfl
  have HBD := Aside0.mk (below_drew HB2.out)
  have hXD := Aside0.mk (blk_drew hX2.out)
  have hWD := Aside0.mk (Kd.C_below hW0.out (below_drew (Below.refl w2.heap.size w2)))
  have hVD := Aside0.mk (Kd.C_below hV1.out.2.2 (below_drew (Below.refl w2.heap.size w2)))
  clear HB2 hX2 hW0
  refine start_ (n := 11) (S := fun w' => w'.cell? ⟨w.heap.size, 0, none⟩ = some (.slice A0 b.length c0)) (ds := []) #[false, false, false, false, false, false, false, false, false, false, false] (by kernel_rfl) rfl rfl (x0_) (fun hHeld => ?_)
  generalize w2.drew = wD at x0_ HBD hXD hWD hVD hHeld ⊢
  refine pure_ (i := 0) (N := some 24) (v := ?_) (a' := ?_) #[true, false, false, false, false, false, false, false, false, false, false] rfl rfl (by kernel_rfl) (fun _ _ _ h => h) (Or.inl ⟨by rfl, ?_⟩) ?_ ?_
  rotate_left
  · intro w'
    go_simp
    with_reducible rfl
  rotate_left
  · simp only [Act.put, List.setIfInBounds_toArray, List.set_cons_zero, List.set_cons_succ, i64_w, i32_w]
    rfl
  refine pure_ (i := 2) (N := some 26) (v := ?_) (a' := ?_) #[true, false, true, false, false, false, false, false, false, false, false] rfl rfl (by kernel_rfl) (fun _ _ _ h => h) (Or.inl ⟨by rfl, ?_⟩) ?_ ?_
  rotate_left
  · intro w'
    go_simp
    with_reducible rfl
  rotate_left
  · simp only [Act.put, List.setIfInBounds_toArray, List.set_cons_zero, List.set_cons_succ, i64_w, i32_w]
    rfl
  refine take_ (i := 3) (N := some 27) (v := ?_) (a' := ?_) #[true, false, true, true, false, false, false, false, false, false, false] rfl rfl (by kernel_rfl) (fun _ _ _ h => h) (Or.inl ⟨by rfl, ?_⟩) hHeld ?_ ?_
  rotate_left
  · intro w' s0
    go_simp
    with_reducible rfl
  rotate_left
  · simp only [Act.put, List.setIfInBounds_toArray, List.set_cons_zero, List.set_cons_succ, i64_w, i32_w]
    rfl
  refine pure_ (i := 4) (N := some 28) (v := ?_) (a' := ?_) #[true, false, true, true, true, false, false, false, false, false, false] rfl rfl (by kernel_rfl) (fun _ _ _ h => h) (Or.inl ⟨by rfl, ?_⟩) ?_ ?_
  rotate_left
  · intro w'
    go_simp
    with_reducible rfl
  rotate_left
  · simp only [Act.put, List.setIfInBounds_toArray, List.set_cons_zero, List.set_cons_succ, i64_w, i32_w]
    rfl
  refine one_ (i := 1) (N := some 25) #[true, true, true, true, true, false, false, false, false, false, false] rfl rfl (by kernel_rfl) (by decide) (fun K hK => ?_)
  refine call_ fS #[x] (by rfl) rfl ?_ ?_
  · unfold execOp
    simp [resolve, Deferred.ofValue, invoke, callMethod, Act.eval]
    rw [show 167 + Made.depth = 267 from rfl, hmS.out.run]
    exact hmS.out.ent _ _
  with_reducible refine (HSIZE.out _ HBD.out).mono ?_
  rintro e w3 ⟨rfl, hb3⟩
  refine ⟨_, rfl, ?_⟩
  refine hK.out _ _ (pw_cell_below hb3 x0_) (fun hHeld => ?_)
  clear hK K
  refine norm_ (a' := ?_) ?_ ?_
  rotate_left
  · show Act.put _ (some 25) _ = _
    simp only [Act.put, List.setIfInBounds_toArray, List.set_cons_zero, List.set_cons_succ, i64_w, i32_w]
    rfl
  refine pure_ (i := 5) (N := some 29) (v := ?_) (a' := ?_) #[true, true, true, true, true, true, false, false, false, false, false] rfl rfl (by kernel_rfl) (fun _ _ _ h => h) (Or.inl ⟨by rfl, ?_⟩) ?_ ?_
  rotate_left
  · intro w'
    go_simp
    with_reducible rfl
  rotate_left
  · simp only [Act.put, List.setIfInBounds_toArray, List.set_cons_zero, List.set_cons_succ, i64_w, i32_w]
    rfl
  refine pure_ (i := 6) (N := some 30) (v := ?_) (a' := ?_) #[true, true, true, true, true, true, true, false, false, false, false] rfl rfl (by kernel_rfl) (fun _ _ _ h => h) (Or.inl ⟨by rfl, ?_⟩) ?_ ?_
  rotate_left
  · intro w'
    go_simp
    with_reducible rfl
  rotate_left
  · simp only [Act.put, List.setIfInBounds_toArray, List.set_cons_zero, List.set_cons_succ, i64_w, i32_w]
    rfl
  refine pure_ (i := 7) (N := some 31) (v := ?_) (a' := ?_) #[true, true, true, true, true, true, true, true, false, false, false] rfl rfl (by kernel_rfl) (fun _ _ _ h => h) (Or.inl ⟨by rfl, ?_⟩) ?_ ?_
  rotate_left
  · intro w'
    go_simp
    with_reducible rfl
  rotate_left
  · simp only [Act.put, List.setIfInBounds_toArray, List.set_cons_zero, List.set_cons_succ, i64_w, i32_w]
    rfl
  refine one_ (i := 8) (N := some 32) #[true, true, true, true, true, true, true, true, true, false, false] rfl rfl (by kernel_rfl) (by decide) (fun K hK => ?_)
  refine call_ fP #[x] (by rfl) rfl ?_ ?_
  · unfold execOp
    simp [resolve, Deferred.ofValue, invoke, callMethod, Act.eval]
    rw [show 167 + Made.depth = 267 from rfl, hmP.out.run]
    exact hmP.out.ent _ _
  with_reducible refine (HPLAIN.out _ (below_step HBD.out hb3)).mono ?_
  rintro e w4 ⟨rfl, hb4⟩
  refine ⟨_, rfl, ?_⟩
  refine hK.out _ _ (pw_cell_below (below_step hb3 hb4) x0_) (fun hHeld => ?_)
  clear hK K
  refine norm_ (a' := ?_) ?_ ?_
  rotate_left
  · show Act.put _ (some 32) _ = _
    simp only [Act.put, List.setIfInBounds_toArray, List.set_cons_zero, List.set_cons_succ, i64_w, i32_w]
    rfl
  refine pure_ (i := 9) (N := some 33) (v := ?_) (a' := ?_) #[true, true, true, true, true, true, true, true, true, true, false] rfl rfl (by kernel_rfl) (fun _ _ _ h => h) (Or.inl ⟨by rfl, ?_⟩) ?_ ?_
  rotate_left
  · intro w'
    go_simp
    with_reducible rfl
  rotate_left
  · simp only [Act.put, List.setIfInBounds_toArray, List.set_cons_zero, List.set_cons_succ, i64_w, i32_w]
    rfl
  refine pure_ (i := 10) (N := some 34) (v := ?_) (a' := ?_) #[true, true, true, true, true, true, true, true, true, true, true] rfl rfl (by kernel_rfl) (fun _ _ _ h => h) (Or.inl ⟨by rfl, ?_⟩) ?_ ?_
  rotate_left
  · intro w'
    go_simp
    with_reducible rfl
  rotate_left
  · simp only [Act.put, List.setIfInBounds_toArray, List.set_cons_zero, List.set_cons_succ, i64_w, i32_w]
    rfl
  refine done_ (by kernel_rfl) ?_
  have HB4 := Aside0.mk (below_step HBD.out (below_step hb3 hb4))
  have hX4 := Aside0.mk (blk_below hXD.out (below_step hb3 hb4))
  have hW4 := Aside0.mk (Kd.C_below hWD.out (below_step hb3 hb4))
  have hC4 := Aside0.mk (Kd.C_below hVD.out (below_step hb3 hb4))
  clear HBD hXD hWD hVD hHeld x0_ hb3 hb4
  have c0_ : w4.cell? ⟨w.heap.size, 0, none⟩ = some (.slice A0 b.length c0) := (blk_cell hX4.out 0).trans rfl
  have c1_ : w4.cell? ⟨w.heap.size, 1, none⟩ = some (.slice A1 b.length c1) := (blk_cell hX4.out 1).trans rfl
  have c2_ : w4.cell? ⟨w.heap.size, 2, none⟩ = some (.slice A2 b.length c2) := (blk_cell hX4.out 2).trans rfl
  go_wp2
  go_loop [70] (fun vi => ∃ i : Nat, i ≤ n ∧ vi = .int .i64 (i : Int) ∧ Aside0 (∀ j, j < i → bad.getD (o + j) false = false)) (fun vi => n - (intOf vi).toNat)
  case atStart => exact ⟨0, Nat.zero_le _, rfl, ⟨fun j hj => absurd hj (by omega)⟩⟩
  case round =>
    obtain ⟨i, hi, rfl, hno⟩ := hrel
    by_cases hlt : i < n
    · have hlti : (i : Int) < (n : Int) := by omega
      have hnx : IntKind.i64.wrap ((i : Int) + 1) = (i : Int) + 1 := by rw [i64_w]; unfold wrap64; omega
      obtain ⟨ad, rfl, e0⟩ := Kd.at_bool (Kd.C_below HR2.out HB4.out) ((o + i : Nat) : Int) (by omega) (by omega)
      rw [Int.toNat_natCast] at e0
      have hoks : IntKind.i64.wrap ((o : Int) + (i : Int)) = (o : Int) + (i : Int) := by rw [i64_w]; unfold wrap64; omega
      have hokl : (o : Int) + (i : Int) < (b.length : Int) := by omega
      have hok0 : 0 ≤ (o : Int) + (i : Int) := by omega
      have hokn : ((o : Int) + (i : Int)).toNat = o + i := by omega
      have hval : rdOf false bad ((o + i : Nat) : Int) = bad.getD (o + i) false := by unfold rdOf; rw [Int.toNat_natCast]
      rw [hval] at e0
      cases hbv : bad.getD (o + i) false with
      | true =>
        rw [hbv] at e0
        clear hbv hval hno
        go_wp2_with (first
          | (go_at_call 32; refine (HGLU.out _ (Kd.C_below HPP.out HB4.out)).mono ?_; rintro e w6 ⟨v6, rfl, hv6, hb6⟩; obtain ⟨AG, cG, eG⟩ := Kd.R_slice hv6; subst eG; have HB6 := Aside0.mk (below_step HB4.out hb6); have hC6 := Aside0.mk (Kd.C_below hC4.out hb6); replace hv6 := Aside0.mk (Kd.R_reads' hv6); clear hb6)
          | (go_at_call 23; refine (wrackref1_SameSpans.calls ks V1 d1_ rd_ AG cG rd_ true _ hC6.out hV1.out.2.1 hv6.out.2.2 hv6.out.2.1 HKS.out).mono ?_; rintro e w7 ⟨rfl, hb7⟩; have HB7 := Aside0.mk (below_step HB6.out hb7.below); clear hb7))
        go_ret
        exact ⟨rfl, HB7.out⟩
      | false =>
        rw [hbv] at e0
        have hno2 := Aside0.mk (show ∀ j, j < i + 1 → bad.getD (o + j) false = false from fun j hj => by
          by_cases e : j = i
          · rw [e]; exact hbv
          · exact hno.out j (by omega))
        clear hbv hval hno
        go_wp2
        go_round
        case rel => exact ⟨i + 1, by omega, by go_num, hno2⟩
        case measure => simp [intOf]; omega
    · exfalso
      obtain ⟨j, h0, h1, h2⟩ := (hit_iff bad (o : Int) (n : Int) (by omega) (by omega) (by rw [HBL.out]; omega)).1 HHIT.out
      have h3 := hno.out (j - o) (by omega)
      rw [show o + (j - o) = j by omega] at h3
      rw [h3] at h2
      exact absurd h2 (by decide)
set_option maxHeartbeats 8000000 in
set_option maxRecDepth 100000 in
/-- the range can be read -/
theorem is_ok (w : World) (T : Nat) (x : Value) (fR fO fS fP : Nat) (b fr : List Int) (bad : List Bool) (h : SrcIs w T x fR fO fS fP b fr bad) (A0 A1 A2 : Option Addr) (n1 n2 c0 c1 c2 : Nat) (o n : Nat) (hon : o + n ≤ b.length) (hf : fr.length = b.length) (hbl : bad.length = b.length) (hn : b.length ≤ 65536)
    (hn1 : n1 = b.length) (hn2 : n2 = b.length) (hc0 : b.length ≤ c0) (hc1 : n1 ≤ c1) (hr0 : Kd.C (Kd.int .u8) w A0 b.length b) (hr1 : Kd.C (Kd.int .i64) w A1 n1 fr) (hr2 : Kd.C Kd.bool w A2 n2 bad) (hfb : ∀ y ∈ fr, 0 ≤ y ∧ y < 65536) (hh : ¬ hit bad (o : Int) (n : Int) = true) :
    Calls Try.prog 11 #[.agg #[.slice A0 b.length c0, .slice A1 n1 c1, .slice A2 n2 c2], .iface T x, .int .i64 (o : Int), .int .i64 (n : Int)] w fun e w' => e = .returned (.bool true) ∧ Below w.heap.size w w' := by
  subst hn1
  subst hn2
  have hR : inR (b.length : Int) (o : Int) (n : Int) := ⟨by omega, by omega, by omega⟩
  have he : readErr b.length bad (o : Int) (n : Int) = 0 := by unfold readErr; rw [if_pos hR, if_neg hh]
  have hr : readRow b bad (o : Int) (n : Int) = (b.drop o).take n := by unfold readRow; rw [he, if_pos rfl, Int.toNat_natCast, Int.toNat_natCast]
  have ho : roadRow fr (o : Int) (n : Int) = gluedP [] ((fr.drop o).take n) := by unfold roadRow; rw [hf, if_pos hR, Int.toNat_natCast, Int.toNat_natCast]
  have hpl : ((b.drop o).take n).length = n := by rw [List.length_take, List.length_drop]; omega
  obtain ⟨AB, hcutB, hCB⟩ := part_cut (w := w) (A0 := A0) hon hc0 rfl
  have HPB := Aside0.mk (hCB w hr0)
  obtain ⟨part, hpart⟩ : ∃ p, p = (b.drop o).take n := ⟨_, rfl⟩
  obtain ⟨AP, hcutP, hCP⟩ := part_cutI (w := w) (A0 := A1) (b := fr) hon hc1 hf
  have HPP := Aside0.mk (hCP w hr1)
  have hfl : ((fr.drop o).take n).length = n := by rw [List.length_take, List.length_drop]; omega
  obtain ⟨kg, hkg⟩ := (glued_ev ((fr.drop o).take n) (by omega) (fun y hy => hfb y (List.mem_of_mem_drop (List.mem_of_mem_take hy)))).rounds
  have hgl := glued_short ((fr.drop o).take n) []
  obtain ⟨frp, hfrp⟩ : ∃ p, p = (fr.drop o).take n := ⟨_, rfl⟩
  rw [← hfrp] at HPP hkg hgl hfl
  obtain ⟨rd_, hrd⟩ : ∃ r, r = gluedP [] frp := ⟨_, rfl⟩
  rw [← hrd] at hkg hgl
  obtain ⟨ks, hks⟩ := (same_ev rd_ (by rw [List.length_nil] at hgl; omega)).rounds
  have HKG := Aside0.mk hkg
  have HKS := Aside0.mk hks
  have hglu := fun W (hC : Kd.C (Kd.int .i64) W AP n frp) => wrackref1_Glued.calls kg AP (c1 - o) frp rd_ W (by rw [hfl]; exact hC) (by rw [hfl]; omega) hkg
  rw [hfl] at hglu
  have HGLU := Aside0.mk hglu
  have HR2 := Aside0.mk hr2
  have HBL := Aside0.mk hbl
  have hcc1 : n ≤ c1 - o := by omega
  have hcut1 := hcutP
  have ht2 : decide ((b.length : Int) < (o : Int)) = false := decide_eq_false (by omega)
  have ht2n : ¬ (b.length < o) := by omega
  have hs3 : IntKind.i64.wrap ((b.length : Int) - (o : Int)) = (b.length : Int) - (o : Int) := by rw [i64_w]; unfold wrap64; omega
  have ht3 : decide ((b.length : Int) - (o : Int) < (n : Int)) = false := decide_eq_false (by omega)
  have hson : IntKind.i64.wrap ((o : Int) + (n : Int)) = (o : Int) + (n : Int) := by rw [i64_w]; unfold wrap64; omega
  have hb65 : b.length ≤ 65536 := hn
  have hread := fun W (hb : Below w.heap.size w W) => (h.ans W hb).read (o : Int) (n : Int)
  have hroad := fun W (hb : Below w.heap.size w W) => (h.ans W hb).road (o : Int) (n : Int)
  have HSIZE := Aside0.mk (fun W (hb : Below w.heap.size w W) => (h.ans W hb).size)
  have HPLAIN := Aside0.mk (fun W (hb : Below w.heap.size w W) => (h.ans W hb).plain)
  rw [ho, ← hfrp, ← hrd] at hroad
  have hall := Aside0.mk (show ∀ j, j < n → bad.getD (o + j) false = false from fun j hj => by
    cases hb : bad.getD (o + j) false with
    | false => rfl
    | true => exact absurd ((hit_iff bad (o : Int) (n : Int) (by omega) (by omega) (by rw [hbl]; omega)).2 ⟨o + j, by omega, by omega, hb⟩) hh)
  clear hh hbl hfrp hrd
  clear hcutP hCP hkg hks hgl hfl hglu ho hR hr1 hr2 hfb
  rw [he, hr] at hread
  rw [← hpart] at hread hpl HPB
  have HPL := Aside0.mk hpl
  clear hCB
  have hRr := h.mR.run
  have hRe := h.mR.ent
  have hOr := h.mO.run
  have hOe := h.mO.ent
  have hmS := Aside0.mk h.mS
  have hmP := Aside0.mk h.mP
  have HREAD := Aside0.mk hread
  have HROAD := Aside0.mk hroad
  have hu34 := Try.underlying34
  have HB := Aside0.mk (below_alloc (Below.refl w.heap.size w) (.cells #[.slice A0 b.length c0, .slice A1 b.length c1, .slice A2 b.length c2] 34))
  have hX := Aside0.mk (blk_new w (.cells #[.slice A0 b.length c0, .slice A1 b.length c1, .slice A2 b.length c2] 34))
  clear h he hr hread hroad
  go_enter Try.func11, Try.ntmps11
  go_wp2
  refine (HREAD.out _ HB.out).mono ?_
  rintro e w1 ⟨v0, rfl, hv0, hb1⟩
  obtain ⟨V0, d0_, ev0⟩ := Kd.R_slice hv0
  rw [hpl] at ev0
  subst ev0
  clear hpl hpart hr0 hc0
  have HB1 := Aside0.mk (below_step HB.out hb1)
  have hX1 := Aside0.mk (blk_below hX.out hb1)
  have hV0 := Aside0.mk (Kd.R_reads' hv0)
  clear hb1 HB hX hv0
  go_wp2
  refine (HROAD.out _ HB1.out).mono ?_
  rintro e w2 ⟨v1, rfl, hv1, hb2⟩
  obtain ⟨V1, d1_, ev1⟩ := Kd.R_slice hv1
  subst ev1
  have HB2 := Aside0.mk (below_step HB1.out hb2)
  have hX2 := Aside0.mk (blk_below hX1.out hb2)
  have hW0 := Aside0.mk (Kd.C_below hV0.out.2.2 hb2)
  have hV1 := Aside0.mk (Kd.R_reads' hv1)
  clear hb2 HB1 hX1 hv1
  go_wp2
  have x0_ : w2.drew.cell? ⟨w.heap.size, 0, none⟩ = some (.slice A0 b.length c0) := (blk_cell (blk_drew hX2.out) 0).trans rfl
  have HBD := Aside0.mk (below_drew HB2.out)
  have hXD := Aside0.mk (blk_drew hX2.out)
  have hWD := Aside0.mk (Kd.C_below hW0.out (below_drew (Below.refl w2.heap.size w2)))
  have hVD := Aside0.mk (Kd.C_below hV1.out.2.2 (below_drew (Below.refl w2.heap.size w2)))
  clear HB2 hX2 hW0
  refine start_ (n := 11) (S := fun w' => w'.cell? ⟨w.heap.size, 0, none⟩ = some (.slice A0 b.length c0)) (ds := []) #[false, false, false, false, false, false, false, false, false, false, false] (by kernel_rfl) rfl rfl (x0_) (fun hHeld => ?_)
  generalize w2.drew = wD at x0_ HBD hXD hWD hVD hHeld ⊢
  refine pure_ (i := 0) (N := some 24) (v := ?_) (a' := ?_) #[true, false, false, false, false, false, false, false, false, false, false] rfl rfl (by kernel_rfl) (fun _ _ _ h => h) (Or.inl ⟨by rfl, ?_⟩) ?_ ?_
  rotate_left
  · intro w'
    go_simp
    with_reducible rfl
  rotate_left
  · simp only [Act.put, List.setIfInBounds_toArray, List.set_cons_zero, List.set_cons_succ, i64_w, i32_w]
    rfl
  refine pure_ (i := 2) (N := some 26) (v := ?_) (a' := ?_) #[true, false, true, false, false, false, false, false, false, false, false] rfl rfl (by kernel_rfl) (fun _ _ _ h => h) (Or.inl ⟨by rfl, ?_⟩) ?_ ?_
  rotate_left
  · intro w'
    go_simp
    with_reducible rfl
  rotate_left
  · simp only [Act.put, List.setIfInBounds_toArray, List.set_cons_zero, List.set_cons_succ, i64_w, i32_w]
    rfl
  refine take_ (i := 3) (N := some 27) (v := ?_) (a' := ?_) #[true, false, true, true, false, false, false, false, false, false, false] rfl rfl (by kernel_rfl) (fun _ _ _ h => h) (Or.inl ⟨by rfl, ?_⟩) hHeld ?_ ?_
  rotate_left
  · intro w' s0
    go_simp
    with_reducible rfl
  rotate_left
  · simp only [Act.put, List.setIfInBounds_toArray, List.set_cons_zero, List.set_cons_succ, i64_w, i32_w]
    rfl
  refine pure_ (i := 4) (N := some 28) (v := ?_) (a' := ?_) #[true, false, true, true, true, false, false, false, false, false, false] rfl rfl (by kernel_rfl) (fun _ _ _ h => h) (Or.inl ⟨by rfl, ?_⟩) ?_ ?_
  rotate_left
  · intro w'
    go_simp
    with_reducible rfl
  rotate_left
  · simp only [Act.put, List.setIfInBounds_toArray, List.set_cons_zero, List.set_cons_succ, i64_w, i32_w]
    rfl
  refine one_ (i := 1) (N := some 25) #[true, true, true, true, true, false, false, false, false, false, false] rfl rfl (by kernel_rfl) (by decide) (fun K hK => ?_)
  refine call_ fS #[x] (by rfl) rfl ?_ ?_
  · unfold execOp
    simp [resolve, Deferred.ofValue, invoke, callMethod, Act.eval]
    rw [show 167 + Made.depth = 267 from rfl, hmS.out.run]
    exact hmS.out.ent _ _
  with_reducible refine (HSIZE.out _ HBD.out).mono ?_
  rintro e w3 ⟨rfl, hb3⟩
  refine ⟨_, rfl, ?_⟩
  refine hK.out _ _ (pw_cell_below hb3 x0_) (fun hHeld => ?_)
  clear hK K
  refine norm_ (a' := ?_) ?_ ?_
  rotate_left
  · show Act.put _ (some 25) _ = _
    simp only [Act.put, List.setIfInBounds_toArray, List.set_cons_zero, List.set_cons_succ, i64_w, i32_w]
    rfl
  refine pure_ (i := 5) (N := some 29) (v := ?_) (a' := ?_) #[true, true, true, true, true, true, false, false, false, false, false] rfl rfl (by kernel_rfl) (fun _ _ _ h => h) (Or.inl ⟨by rfl, ?_⟩) ?_ ?_
  rotate_left
  · intro w'
    go_simp
    with_reducible rfl
  rotate_left
  · simp only [Act.put, List.setIfInBounds_toArray, List.set_cons_zero, List.set_cons_succ, i64_w, i32_w]
    rfl
  refine pure_ (i := 6) (N := some 30) (v := ?_) (a' := ?_) #[true, true, true, true, true, true, true, false, false, false, false] rfl rfl (by kernel_rfl) (fun _ _ _ h => h) (Or.inl ⟨by rfl, ?_⟩) ?_ ?_
  rotate_left
  · intro w'
    go_simp
    with_reducible rfl
  rotate_left
  · simp only [Act.put, List.setIfInBounds_toArray, List.set_cons_zero, List.set_cons_succ, i64_w, i32_w]
    rfl
  refine pure_ (i := 7) (N := some 31) (v := ?_) (a' := ?_) #[true, true, true, true, true, true, true, true, false, false, false] rfl rfl (by kernel_rfl) (fun _ _ _ h => h) (Or.inl ⟨by rfl, ?_⟩) ?_ ?_
  rotate_left
  · intro w'
    go_simp
    with_reducible rfl
  rotate_left
  · simp only [Act.put, List.setIfInBounds_toArray, List.set_cons_zero, List.set_cons_succ, i64_w, i32_w]
    rfl
  refine one_ (i := 8) (N := some 32) #[true, true, true, true, true, true, true, true, true, false, false] rfl rfl (by kernel_rfl) (by decide) (fun K hK => ?_)
  refine call_ fP #[x] (by rfl) rfl ?_ ?_
  · unfold execOp
    simp [resolve, Deferred.ofValue, invoke, callMethod, Act.eval]
    rw [show 167 + Made.depth = 267 from rfl, hmP.out.run]
    exact hmP.out.ent _ _
  with_reducible refine (HPLAIN.out _ (below_step HBD.out hb3)).mono ?_
  rintro e w4 ⟨rfl, hb4⟩
  refine ⟨_, rfl, ?_⟩
  refine hK.out _ _ (pw_cell_below (below_step hb3 hb4) x0_) (fun hHeld => ?_)
  clear hK K
  refine norm_ (a' := ?_) ?_ ?_
  rotate_left
  · show Act.put _ (some 32) _ = _
    simp only [Act.put, List.setIfInBounds_toArray, List.set_cons_zero, List.set_cons_succ, i64_w, i32_w]
    rfl
  refine pure_ (i := 9) (N := some 33) (v := ?_) (a' := ?_) #[true, true, true, true, true, true, true, true, true, true, false] rfl rfl (by kernel_rfl) (fun _ _ _ h => h) (Or.inl ⟨by rfl, ?_⟩) ?_ ?_
  rotate_left
  · intro w'
    go_simp
    with_reducible rfl
  rotate_left
  · simp only [Act.put, List.setIfInBounds_toArray, List.set_cons_zero, List.set_cons_succ, i64_w, i32_w]
    rfl
  refine pure_ (i := 10) (N := some 34) (v := ?_) (a' := ?_) #[true, true, true, true, true, true, true, true, true, true, true] rfl rfl (by kernel_rfl) (fun _ _ _ h => h) (Or.inl ⟨by rfl, ?_⟩) ?_ ?_
  rotate_left
  · intro w'
    go_simp
    with_reducible rfl
  rotate_left
  · simp only [Act.put, List.setIfInBounds_toArray, List.set_cons_zero, List.set_cons_succ, i64_w, i32_w]
    rfl
  refine done_ (by kernel_rfl) ?_
  have HB4 := Aside0.mk (below_step HBD.out (below_step hb3 hb4))
  have hX4 := Aside0.mk (blk_below hXD.out (below_step hb3 hb4))
  have hW4 := Aside0.mk (Kd.C_below hWD.out (below_step hb3 hb4))
  have hC4 := Aside0.mk (Kd.C_below hVD.out (below_step hb3 hb4))
  clear HBD hXD hWD hVD hHeld x0_ hb3 hb4
  have c0_ : w4.cell? ⟨w.heap.size, 0, none⟩ = some (.slice A0 b.length c0) := (blk_cell hX4.out 0).trans rfl
  have c1_ : w4.cell? ⟨w.heap.size, 1, none⟩ = some (.slice A1 b.length c1) := (blk_cell hX4.out 1).trans rfl
  have c2_ : w4.cell? ⟨w.heap.size, 2, none⟩ = some (.slice A2 b.length c2) := (blk_cell hX4.out 2).trans rfl
  go_wp2
  go_loop [70] (fun vi => ∃ i : Nat, i ≤ n ∧ vi = .int .i64 (i : Int)) (fun vi => n - (intOf vi).toNat)
  case atStart => exact ⟨0, Nat.zero_le _, rfl⟩
  case round =>
    obtain ⟨i, hi, rfl⟩ := hrel
    by_cases hlt : i < n
    · have hlti : (i : Int) < (n : Int) := by omega
      have hnx : IntKind.i64.wrap ((i : Int) + 1) = (i : Int) + 1 := by rw [i64_w]; unfold wrap64; omega
      obtain ⟨ad, rfl, e0⟩ := Kd.at_bool (Kd.C_below HR2.out HB4.out) ((o + i : Nat) : Int) (by omega) (by omega)
      rw [Int.toNat_natCast] at e0
      have hoks : IntKind.i64.wrap ((o : Int) + (i : Int)) = (o : Int) + (i : Int) := by rw [i64_w]; unfold wrap64; omega
      have hokl : (o : Int) + (i : Int) < (b.length : Int) := by omega
      have hok0 : 0 ≤ (o : Int) + (i : Int) := by omega
      have hokn : ((o : Int) + (i : Int)).toNat = o + i := by omega
      have hval : rdOf false bad ((o + i : Nat) : Int) = bad.getD (o + i) false := by unfold rdOf; rw [Int.toNat_natCast]
      rw [hval] at e0
      rw [hall.out i hlt] at e0
      clear hval
      go_wp2
      go_round
      case rel => exact ⟨i + 1, by omega, by go_num⟩
      case measure => simp [intOf]; omega
    · obtain rfl : i = n := by omega
      clear hlt hi
      go_wp2
      have y0 : w4.drew.cell? ⟨w.heap.size, 0, none⟩ = some (.slice A0 b.length c0) := c0_
      have y1 : w4.drew.cell? ⟨w.heap.size, 1, none⟩ = some (.slice A1 b.length c1) := c1_
      have HBE := Aside0.mk (below_drew HB4.out)
      have hCE := Aside0.mk (Kd.C_below hC4.out (below_drew (Below.refl w4.heap.size w4)))
      have hSE := Aside0.mk (show Kd.C (Kd.int .u8) w4.drew V0 i part from by have := Kd.C_below hW4.out (below_drew (Below.refl w4.heap.size w4)); rw [HPL.out] at this; exact this)
      have hPE := Aside0.mk (show Kd.C (Kd.int .u8) w4.drew AB i part from Kd.C_below HPB.out (below_drew HB4.out))
      obtain ⟨ss, hss⟩ : ∃ s, s = strOfNums part := ⟨_, rfl⟩
      replace hss := Aside0.mk hss
      have y2 : (convert 22 9 (.slice V0 i d0_)).run Try.prog w4.drew = .ok (.string ss) w4.drew := (Kd.C_string (P := Try.prog) Try.underlying22 Try.underlying5 Try.underlying9 hSE.out).trans (by rw [hss.out])
      have y3 : (convert 22 9 (.slice AB i (c0 - o))).run Try.prog w4.drew = .ok (.string ss) w4.drew := (Kd.C_string (P := Try.prog) Try.underlying22 Try.underlying5 Try.underlying9 hPE.out).trans (by rw [hss.out])
      clear c0_ c1_ c2_ HB4 hC4 hW4 hX4
      refine start_ (n := 28) (S := fun w' => w'.cell? ⟨w.heap.size, 0, none⟩ = some (.slice A0 b.length c0) ∧ w'.cell? ⟨w.heap.size, 1, none⟩ = some (.slice A1 b.length c1) ∧ (convert 22 9 (.slice V0 i d0_)).run Try.prog w' = .ok (.string ss) w' ∧ (convert 22 9 (.slice AB i (c0 - o))).run Try.prog w' = .ok (.string ss) w') (ds := []) #[false, false, false, false, false, false, false, false, false, false, false, false, false, false, false, false, false, false, false, false, false, false, false, false, false, false, false, false] (by kernel_rfl) rfl rfl ⟨y0, y1, y2, y3⟩ (fun hHeld => ?_)
      generalize w4.drew = wE at y0 y1 y2 y3 HBE hCE hSE hPE hHeld ⊢
      refine pure_ (i := 0) (N := some 100) (v := ?_) (a' := ?_) #[true, false, false, false, false, false, false, false, false, false, false, false, false, false, false, false, false, false, false, false, false, false, false, false, false, false, false, false] rfl rfl (by kernel_rfl) (fun _ _ _ h => h) (Or.inl ⟨by rfl, ?_⟩) ?_ ?_
      rotate_left
      · intro w'
        go_simp
        with_reducible rfl
      rotate_left
      · simp only [Act.put, List.setIfInBounds_toArray, List.set_cons_zero, List.set_cons_succ, i64_w, i32_w]
        rfl
      refine pure_ (i := 1) (N := some 101) (v := ?_) (a' := ?_) #[true, true, false, false, false, false, false, false, false, false, false, false, false, false, false, false, false, false, false, false, false, false, false, false, false, false, false, false] rfl rfl (by kernel_rfl) (fun _ _ _ h => h) (Or.inl ⟨by rfl, ?_⟩) ?_ ?_
      rotate_left
      · intro w'
        go_simp
        with_reducible rfl
      rotate_left
      · simp only [Act.put, List.setIfInBounds_toArray, List.set_cons_zero, List.set_cons_succ, i64_w, i32_w]
        rfl
      refine pure_ (i := 2) (N := some 102) (v := ?_) (a' := ?_) #[true, true, true, false, false, false, false, false, false, false, false, false, false, false, false, false, false, false, false, false, false, false, false, false, false, false, false, false] rfl rfl (by kernel_rfl) (fun _ _ _ h => h) (Or.inl ⟨by rfl, ?_⟩) ?_ ?_
      rotate_left
      · intro w'
        go_simp
        with_reducible rfl
      rotate_left
      · simp only [Act.put, List.setIfInBounds_toArray, List.set_cons_zero, List.set_cons_succ, i64_w, i32_w]
        rfl
      refine pure_ (i := 3) (N := some 103) (v := ?_) (a' := ?_) #[true, true, true, true, false, false, false, false, false, false, false, false, false, false, false, false, false, false, false, false, false, false, false, false, false, false, false, false] rfl rfl (by kernel_rfl) (fun _ _ _ h => h) (Or.inl ⟨by rfl, ?_⟩) ?_ ?_
      rotate_left
      · intro w'
        go_simp
        with_reducible rfl
      rotate_left
      · simp only [Act.put, List.setIfInBounds_toArray, List.set_cons_zero, List.set_cons_succ, i64_w, i32_w]
        rfl
      refine pure_ (i := 5) (N := some 105) (v := ?_) (a' := ?_) #[true, true, true, true, false, true, false, false, false, false, false, false, false, false, false, false, false, false, false, false, false, false, false, false, false, false, false, false] rfl rfl (by kernel_rfl) (fun _ _ _ h => h) (Or.inl ⟨by rfl, ?_⟩) ?_ ?_
      rotate_left
      · intro w'
        go_simp
        with_reducible rfl
      rotate_left
      · simp only [Act.put, List.setIfInBounds_toArray, List.set_cons_zero, List.set_cons_succ, i64_w, i32_w]
        rfl
      refine pure_ (i := 7) (N := some 107) (v := ?_) (a' := ?_) #[true, true, true, true, false, true, false, true, false, false, false, false, false, false, false, false, false, false, false, false, false, false, false, false, false, false, false, false] rfl rfl (by kernel_rfl) (fun _ _ _ h => h) (Or.inl ⟨by rfl, ?_⟩) ?_ ?_
      rotate_left
      · intro w'
        go_simp
        with_reducible rfl
      rotate_left
      · simp only [Act.put, List.setIfInBounds_toArray, List.set_cons_zero, List.set_cons_succ, i64_w, i32_w]
        rfl
      refine pure_ (i := 8) (N := some 108) (v := ?_) (a' := ?_) #[true, true, true, true, false, true, false, true, true, false, false, false, false, false, false, false, false, false, false, false, false, false, false, false, false, false, false, false] rfl rfl (by kernel_rfl) (fun _ _ _ h => h) (Or.inl ⟨by rfl, ?_⟩) ?_ ?_
      rotate_left
      · intro w'
        go_simp
        with_reducible rfl
      rotate_left
      · simp only [Act.put, List.setIfInBounds_toArray, List.set_cons_zero, List.set_cons_succ, i64_w, i32_w]
        rfl
      refine pure_ (i := 9) (N := some 109) (v := ?_) (a' := ?_) #[true, true, true, true, false, true, false, true, true, true, false, false, false, false, false, false, false, false, false, false, false, false, false, false, false, false, false, false] rfl rfl (by kernel_rfl) (fun _ _ _ h => h) (Or.inl ⟨by rfl, ?_⟩) ?_ ?_
      rotate_left
      · intro w'
        go_simp
        with_reducible rfl
      rotate_left
      · simp only [Act.put, List.setIfInBounds_toArray, List.set_cons_zero, List.set_cons_succ, i64_w, i32_w]
        rfl
      refine pure_ (i := 10) (N := some 110) (v := ?_) (a' := ?_) #[true, true, true, true, false, true, false, true, true, true, true, false, false, false, false, false, false, false, false, false, false, false, false, false, false, false, false, false] rfl rfl (by kernel_rfl) (fun _ _ _ h => h) (Or.inl ⟨by rfl, ?_⟩) ?_ ?_
      rotate_left
      · intro w'
        go_simp
        with_reducible rfl
      rotate_left
      · simp only [Act.put, List.setIfInBounds_toArray, List.set_cons_zero, List.set_cons_succ, i64_w, i32_w]
        rfl
      refine take_ (i := 4) (N := some 104) (v := ?_) (a' := ?_) #[true, true, true, true, true, true, false, true, true, true, true, false, false, false, false, false, false, false, false, false, false, false, false, false, false, false, false, false] rfl rfl (by kernel_rfl) (fun _ _ _ h => h) (Or.inl ⟨by rfl, ?_⟩) hHeld ?_ ?_
      rotate_left
      · rintro w' ⟨s0, s1, s2, s3⟩
        go_simp
        with_reducible rfl
      rotate_left
      · simp only [Act.put, List.setIfInBounds_toArray, List.set_cons_zero, List.set_cons_succ, i64_w, i32_w]
        rfl
      refine take_ (i := 6) (N := some 106) (v := ?_) (a' := ?_) #[true, true, true, true, true, true, true, true, true, true, true, false, false, false, false, false, false, false, false, false, false, false, false, false, false, false, false, false] rfl rfl (by kernel_rfl) (fun _ _ _ h => h) (Or.inl ⟨by rfl, ?_⟩) hHeld ?_ ?_
      rotate_left
      · rintro w' ⟨s0, s1, s2, s3⟩
        go_simp
        with_reducible rfl
      rotate_left
      · simp only [Act.put, List.setIfInBounds_toArray, List.set_cons_zero, List.set_cons_succ, i64_w, i32_w]
        rfl
      refine pure_ (i := 11) (N := some 111) (v := ?_) (a' := ?_) #[true, true, true, true, true, true, true, true, true, true, true, true, false, false, false, false, false, false, false, false, false, false, false, false, false, false, false, false] rfl rfl (by kernel_rfl) (fun _ _ _ h => h) (Or.inl ⟨by rfl, ?_⟩) ?_ ?_
      rotate_left
      · intro w'
        go_simp
        with_reducible rfl
      rotate_left
      · simp only [Act.put, List.setIfInBounds_toArray, List.set_cons_zero, List.set_cons_succ, i64_w, i32_w]
        rfl
      refine take_ (i := 12) (N := some 112) (v := ?_) (a' := ?_) #[true, true, true, true, true, true, true, true, true, true, true, true, true, false, false, false, false, false, false, false, false, false, false, false, false, false, false, false] rfl rfl (by kernel_rfl) (fun _ _ _ h => h) (Or.inl ⟨by rfl, ?_⟩) hHeld ?_ ?_
      rotate_left
      · rintro w' ⟨s0, s1, s2, s3⟩
        go_simp
        with_reducible rfl
      rotate_left
      · simp only [Act.put, List.setIfInBounds_toArray, List.set_cons_zero, List.set_cons_succ, i64_w, i32_w]
        rfl
      refine pure_ (i := 13) (N := some 113) (v := ?_) (a' := ?_) #[true, true, true, true, true, true, true, true, true, true, true, true, true, true, false, false, false, false, false, false, false, false, false, false, false, false, false, false] rfl rfl (by kernel_rfl) (fun _ _ _ h => h) (Or.inl ⟨by rfl, ?_⟩) ?_ ?_
      rotate_left
      · intro w'
        go_simp
        with_reducible rfl
      rotate_left
      · simp only [Act.put, List.setIfInBounds_toArray, List.set_cons_zero, List.set_cons_succ, i64_w, i32_w]
        rfl
      refine pure_ (i := 14) (N := some 114) (v := ?_) (a' := ?_) #[true, true, true, true, true, true, true, true, true, true, true, true, true, true, true, false, false, false, false, false, false, false, false, false, false, false, false, false] rfl rfl (by kernel_rfl) (fun _ _ _ h => h) (Or.inl ⟨by rfl, ?_⟩) ?_ ?_
      rotate_left
      · intro w'
        go_simp
        with_reducible rfl
      rotate_left
      · simp only [Act.put, List.setIfInBounds_toArray, List.set_cons_zero, List.set_cons_succ, i64_w, i32_w]
        rfl
      refine pure_ (i := 15) (N := some 115) (v := ?_) (a' := ?_) #[true, true, true, true, true, true, true, true, true, true, true, true, true, true, true, true, false, false, false, false, false, false, false, false, false, false, false, false] rfl rfl (by kernel_rfl) (fun _ _ _ h => h) (Or.inl ⟨by rfl, ?_⟩) ?_ ?_
      rotate_left
      · intro w'
        go_simp
        with_reducible rfl
      rotate_left
      · simp only [Act.put, List.setIfInBounds_toArray, List.set_cons_zero, List.set_cons_succ, i64_w, i32_w]
        rfl
      refine pure_ (i := 16) (N := some 116) (v := ?_) (a' := ?_) #[true, true, true, true, true, true, true, true, true, true, true, true, true, true, true, true, true, false, false, false, false, false, false, false, false, false, false, false] rfl rfl (by kernel_rfl) (fun _ _ _ h => h) (Or.inl ⟨by rfl, ?_⟩) ?_ ?_
      rotate_left
      · intro w'
        go_simp
        with_reducible rfl
      rotate_left
      · simp only [Act.put, List.setIfInBounds_toArray, List.set_cons_zero, List.set_cons_succ, i64_w, i32_w]
        rfl
      refine pure_ (i := 17) (N := some 117) (v := ?_) (a' := ?_) #[true, true, true, true, true, true, true, true, true, true, true, true, true, true, true, true, true, true, false, false, false, false, false, false, false, false, false, false] rfl rfl (by kernel_rfl) (fun _ _ _ h => h) (Or.inl ⟨by rfl, ?_⟩) ?_ ?_
      rotate_left
      · intro w'
        go_simp
        with_reducible rfl
      rotate_left
      · simp only [Act.put, List.setIfInBounds_toArray, List.set_cons_zero, List.set_cons_succ, i64_w, i32_w]
        rfl
      refine pure_ (i := 19) (N := some 119) (v := ?_) (a' := ?_) #[true, true, true, true, true, true, true, true, true, true, true, true, true, true, true, true, true, true, false, true, false, false, false, false, false, false, false, false] rfl rfl (by kernel_rfl) (fun _ _ _ h => h) (Or.inl ⟨by rfl, ?_⟩) ?_ ?_
      rotate_left
      · intro w'
        go_simp
        with_reducible rfl
      rotate_left
      · simp only [Act.put, List.setIfInBounds_toArray, List.set_cons_zero, List.set_cons_succ, i64_w, i32_w]
        rfl
      refine pure_ (i := 20) (N := some 120) (v := ?_) (a' := ?_) #[true, true, true, true, true, true, true, true, true, true, true, true, true, true, true, true, true, true, false, true, true, false, false, false, false, false, false, false] rfl rfl (by kernel_rfl) (fun _ _ _ h => h) (Or.inl ⟨by rfl, ?_⟩) ?_ ?_
      rotate_left
      · intro w'
        go_simp
        with_reducible rfl
      rotate_left
      · simp only [Act.put, List.setIfInBounds_toArray, List.set_cons_zero, List.set_cons_succ, i64_w, i32_w]
        rfl
      refine pure_ (i := 21) (N := some 121) (v := ?_) (a' := ?_) #[true, true, true, true, true, true, true, true, true, true, true, true, true, true, true, true, true, true, false, true, true, true, false, false, false, false, false, false] rfl rfl (by kernel_rfl) (fun _ _ _ h => h) (Or.inl ⟨by rfl, ?_⟩) ?_ ?_
      rotate_left
      · intro w'
        go_simp
        with_reducible rfl
      rotate_left
      · simp only [Act.put, List.setIfInBounds_toArray, List.set_cons_zero, List.set_cons_succ, i64_w, i32_w]
        rfl
      refine pure_ (i := 22) (N := some 122) (v := ?_) (a' := ?_) #[true, true, true, true, true, true, true, true, true, true, true, true, true, true, true, true, true, true, false, true, true, true, true, false, false, false, false, false] rfl rfl (by kernel_rfl) (fun _ _ _ h => h) (Or.inl ⟨by rfl, ?_⟩) ?_ ?_
      rotate_left
      · intro w'
        go_simp
        with_reducible rfl
      rotate_left
      · simp only [Act.put, List.setIfInBounds_toArray, List.set_cons_zero, List.set_cons_succ, i64_w, i32_w]
        rfl
      refine take_ (i := 18) (N := some 118) (v := ?_) (a' := ?_) #[true, true, true, true, true, true, true, true, true, true, true, true, true, true, true, true, true, true, true, true, true, true, true, false, false, false, false, false] rfl rfl (by kernel_rfl) (fun _ _ _ h => h) (Or.inl ⟨by rfl, ?_⟩) hHeld ?_ ?_
      rotate_left
      · rintro w' ⟨s0, s1, s2, s3⟩
        go_simp
        with_reducible rfl
      rotate_left
      · simp only [Act.put, List.setIfInBounds_toArray, List.set_cons_zero, List.set_cons_succ, i64_w, i32_w]
        rfl
      refine pure_ (i := 23) (N := some 123) (v := ?_) (a' := ?_) #[true, true, true, true, true, true, true, true, true, true, true, true, true, true, true, true, true, true, true, true, true, true, true, true, false, false, false, false] rfl rfl (by kernel_rfl) (fun _ _ _ h => h) (Or.inl ⟨by rfl, ?_⟩) ?_ ?_
      rotate_left
      · intro w'
        go_simp
        with_reducible rfl
      rotate_left
      · simp only [Act.put, List.setIfInBounds_toArray, List.set_cons_zero, List.set_cons_succ, i64_w, i32_w]
        rfl
      refine one_ (i := 24) (N := some 124) #[true, true, true, true, true, true, true, true, true, true, true, true, true, true, true, true, true, true, true, true, true, true, true, true, true, false, false, false] rfl rfl (by kernel_rfl) (by decide) (fun K hK => ?_)
      refine goes_ Try.func32 (by kernel_rfl) rfl #[.slice AP i (c1 - o)] (by rfl) rfl rfl (by simp only [List.map_toArray, List.map_cons, List.map_nil]; rfl) ?_
      with_reducible refine (HGLU.out _ (Kd.C_below HPP.out HBE.out)).mono ?_
      rintro e w6 ⟨v6, rfl, hv6, hb6⟩
      obtain ⟨AG, cG, eG⟩ := Kd.R_slice hv6
      subst eG
      refine ⟨_, rfl, ?_⟩
      refine hK.out _ _ ⟨pw_cell_below hb6 y0, pw_cell_below hb6 y1, (Kd.C_string (P := Try.prog) Try.underlying22 Try.underlying5 Try.underlying9 (Kd.C_below hSE.out hb6)).trans (by rw [hss.out]), (Kd.C_string (P := Try.prog) Try.underlying22 Try.underlying5 Try.underlying9 (Kd.C_below hPE.out hb6)).trans (by rw [hss.out])⟩ (fun hHeld => ?_)
      clear hK K
      refine norm_ (a' := ?_) ?_ ?_
      rotate_left
      · show Act.put _ (some 124) _ = _
        simp only [Act.put, List.setIfInBounds_toArray, List.set_cons_zero, List.set_cons_succ, i64_w, i32_w]
        rfl
      refine one_ (i := 25) (N := some 125) #[true, true, true, true, true, true, true, true, true, true, true, true, true, true, true, true, true, true, true, true, true, true, true, true, true, true, false, false] rfl rfl (by kernel_rfl) (by decide) (fun K hK => ?_)
      refine goes_ Try.func23 (by kernel_rfl) rfl #[.slice V1 rd_.length d1_, .slice AG rd_.length cG] (by rfl) rfl rfl (by simp only [List.map_toArray, List.map_cons, List.map_nil]; rfl) ?_
      with_reducible refine (wrackref1_SameSpans.calls ks V1 d1_ rd_ AG cG rd_ true _ (Kd.C_below hCE.out hb6) hV1.out.2.1 (Kd.R_reads' hv6).2.2 (Kd.R_reads' hv6).2.1 HKS.out).mono ?_
      rintro e w7 ⟨rfl, hb7⟩
      refine ⟨_, rfl, ?_⟩
      refine hK.out _ _ ⟨pw_cell_below (below_step hb6 hb7.below) y0, pw_cell_below (below_step hb6 hb7.below) y1, (Kd.C_string (P := Try.prog) Try.underlying22 Try.underlying5 Try.underlying9 (Kd.C_below hSE.out (below_step hb6 hb7.below))).trans (by rw [hss.out]), (Kd.C_string (P := Try.prog) Try.underlying22 Try.underlying5 Try.underlying9 (Kd.C_below hPE.out (below_step hb6 hb7.below))).trans (by rw [hss.out])⟩ (fun hHeld => ?_)
      clear hK K
      refine norm_ (a' := ?_) ?_ ?_
      rotate_left
      · show Act.put _ (some 125) _ = _
        simp only [Act.put, List.setIfInBounds_toArray, List.set_cons_zero, List.set_cons_succ, i64_w, i32_w]
        rfl
      refine pure_ (i := 26) (N := some 126) (v := ?_) (a' := ?_) #[true, true, true, true, true, true, true, true, true, true, true, true, true, true, true, true, true, true, true, true, true, true, true, true, true, true, true, false] rfl rfl (by kernel_rfl) (fun _ _ _ h => h) (Or.inl ⟨by rfl, ?_⟩) ?_ ?_
      rotate_left
      · intro w'
        go_simp
        with_reducible rfl
      rotate_left
      · simp only [Act.put, List.setIfInBounds_toArray, List.set_cons_zero, List.set_cons_succ, i64_w, i32_w]
        rfl
      refine pure_ (i := 27) (N := some 8) (v := ?_) (a' := ?_) #[true, true, true, true, true, true, true, true, true, true, true, true, true, true, true, true, true, true, true, true, true, true, true, true, true, true, true, true] rfl rfl (by kernel_rfl) (fun _ _ _ h => h) (Or.inl ⟨by rfl, ?_⟩) ?_ ?_
      rotate_left
      · intro w'
        go_simp
        with_reducible rfl
      rotate_left
      · simp only [Act.put, List.setIfInBounds_toArray, List.set_cons_zero, List.set_cons_succ, i64_w, i32_w]
        rfl
      refine done_ (by kernel_rfl) ?_
      have HB9 := Aside0.mk (below_step HBE.out (below_step hb6 hb7.below))
      clear hb6 hb7 hHeld y0 y1 y2 y3
      go_wp2
      go_ret
      exact ⟨rfl, HB9.out⟩
end Go.Proofs.Ytlnikhijfamakaa.Pure
