/- Written by a program of this session (wip/mprint): the walk of the Go code, function by function, for every input; no condition. -/
import Derived.Test.YtdgkbpoljcndgaaQSumTreesx0
import Derived.Test.YtdgkbpoljcndgaaQSumTreesx1
import Derived.Test.YtdgkbpoljcndgaaSumTreePlain
import Derived.Test.YtdgkbpoljcndgaaSumPlain
import Derived.Test.YtdgkbpoljcndgaaSumTreePlain
import Derived.Test.YtdgkbpoljcndgaaSumTreePlain
import Derived.Test.YtdgkbpoljcndgaaSumTreePlain
namespace Go.Proofs.Ytdgkbpoljcndgaa.QSumTrees
open Go.RowKit Go.Proofs.YtdgkbpoljcndgaaW.PrintWords Go.Proofs.YtdgkbpoljcndgaaW.PrintLast Go.Proofs.YtdgkbpoljcndgaaW.PrintMore
attribute [local go_sem] max2_int min2_int max_two min_two max_three min_three max_four min_four   -- for this text's walks alone
set_option linter.unusedVariables false
set_option linter.unusedSimpArgs false

/-! ### wrackref1_Parts: function 84 -/
def wrackref1_Parts.l0 : Nat → List Int → List ByteArray → Option (List ByteArray)
  | 0, _, _ => none
  | k + 1, x0, x3 => if (x0.length : Int) > 64 then (if 64 ≤ (x0.length : Int) then (if x3.length < 8796093022208 then (wrackref1_Parts.l0 k (x0.drop 64) (x3 ++ [strOfNums (x0.take 64)])) else (none)) else (none)) else (if x3.length < 8796093022208 then (some (x3 ++ [strOfNums x0])) else (none))
def wrackref1_Parts.f (k : Nat) (l0 : List Int) : Option (List ByteArray) := wrackref1_Parts.l0 k l0 ([] : List ByteArray)
theorem wrackref1_Parts.mono_l : ∀ k, (∀ y0 y1, LeO (wrackref1_Parts.l0 k y0 y1) (wrackref1_Parts.l0 (k + 1) y0 y1))
  | 0 => fun _ _ r h => by simp [wrackref1_Parts.l0] at h
  | k + 1 => by
    have ih0 := wrackref1_Parts.mono_l k
    · intro y0 y1
      unfold wrackref1_Parts.l0
      repeat' first
      | (with_reducible exact ih0 _ _)
      | (with_reducible exact LeO.refl _)
      | (with_reducible exact LeO.none _)
      | (with_reducible refine LeO.ite ?_ ?_)
      | (with_reducible refine LeO.bind ?_ (fun _ => ?_))
      | exact ih0 _ _
      | exact LeO.none _
      | refine LeO.ite ?_ ?_
      | refine LeO.bind ?_ (fun _ => ?_)
theorem wrackref1_Parts.mono : ∀ a0 k, LeO (wrackref1_Parts.f k a0) (wrackref1_Parts.f (k + 1) a0) := by
  intro a0 k
  have ih0 := wrackref1_Parts.mono_l k
  unfold wrackref1_Parts.f
  repeat' first
      | (with_reducible exact ih0 _ _)
      | (with_reducible exact LeO.refl _)
      | (with_reducible exact LeO.none _)
      | (with_reducible refine LeO.ite ?_ ?_)
      | (with_reducible refine LeO.bind ?_ (fun _ => ?_))
      | exact ih0 _ _
      | exact LeO.none _
      | refine LeO.ite ?_ ?_
      | refine LeO.bind ?_ (fun _ => ?_)
def wrackref1_Parts.T3 : Bool × List (List Nat × List Nat) := (true, [([], []), ([], []), ([1], [1]), ([2], [2]), ([3], [3]), ([0, 4], [0, 4]), ([], []), ([6], [6]), ([5, 5, 0, 1, 2, 3, 4, 5], [0, 5]), ([7, 8, 0, 1, 2, 3, 4, 5, 6, 7, 8], [1, 6, 7])])
def wrackref1_Parts.B3 : List Nat := [0, 0, 2, 6, 14, 31, 0, 64, 63, 511]
theorem wrackref1_Parts.tab3 : rtab .any (opsOf Try.f84 3) = wrackref1_Parts.T3 := by kernel_rfl
theorem wrackref1_Parts.bits3 : waitsOk wrackref1_Parts.T3.2 wrackref1_Parts.B3 = true := by kernel_rfl
set_option maxHeartbeats 8000000 in
set_option maxRecDepth 100000 in
theorem wrackref1_Parts.calls (k : Nat) (P0_ : Nat → Prop) (A0 : Option Addr) (c0 : Nat) (l0 : List Int) (r : List ByteArray) (w : World) (hs0 : Kd.V (Kd.int .u8) 5 w w.heap.size (fun k_ => P0_ k_) (.slice A0 l0.length c0) l0) (h : wrackref1_Parts.f k l0 = some r) :
    Calls Try.prog 84 #[.slice A0 l0.length c0] w fun e w' => ∃ v0_ : Value, e = .returned (v0_) ∧ Kd.R Kd.string 9 w' w.heap.size (fun k_ => (w.heap.size ≤ k_)) v0_ r ∧ Below w.heap.size w w' := by
  have HO0 := Aside0.mk (show Kd.V (Kd.int .u8) 5 w w.heap.size (fun k_ => (P0_ k_ ∨ w.heap.size ≤ k_)) (.slice A0 l0.length c0) l0 from Kd.V_mono hs0 (fun k_ hk => .inl hk))
  have HB := Aside0.mk (Below.refl w.heap.size w)
  have H : (wrackref1_Parts.l0 k l0 ([] : List ByteArray)) = some r := h
  clear h
  have H' := Aside0.mk H
  clear H
  go_enter Try.func84, Try.ntmps84
  go_wp2
  go_loopg [0, 3] k (fun kq v0 v3 w' => ∃ (x0_1 : List Int) (x3_1 : List ByteArray), Aside0 (wrackref1_Parts.l0 kq x0_1 x3_1 = some r) ∧ Aside0 (kq ≤ k) ∧ Aside0 (Kd.V (Kd.int .u8) 5 w' w.heap.size (fun k_ => (P0_ k_ ∨ w.heap.size ≤ k_) ∧ some k_ ≠ (v3 : Value).ownBlock) v0 x0_1) ∧ Aside0 (Kd.R Kd.string 9 w' w.heap.size (fun k_ => (w.heap.size ≤ k_)) v3 x3_1) ∧ Aside0 (Below w.heap.size w w'))
  case atStart => exact ⟨(l0), (([] : List ByteArray)), H', ⟨Nat.le_refl _⟩, ⟨by (with_reducible repeat (first | apply Kd.V_alloc | apply Kd.V_drewN | apply Kd.V_drew)); exact Kd.V_mono HO0.out (fun _ hk => ⟨hk, (by simp [Value.ownBlock])⟩)⟩, ⟨by first | exact Kd.R_nil _ _ _ _ _ | exact Kd.N_nil _ _ _ _ _ | exact Kd.V_nil _ _ _ _ _ | exact Kd.Q_nil _ _ _ _ _ | exact Kd.S_nil _ _ _ _ _⟩, ⟨by repeat (first | (with_reducible first | exact HB.out | apply below_alloc | apply pw_below_drewN | apply below_drew1) | exact HB.out)⟩⟩
  case round =>
    clear H'
    obtain ⟨x0_1, x3_1, HA, HK1, HO_0, HO_3, HB⟩ := hrel
    cases gk with
    | zero => exact absurd HA.out (by simp [wrackref1_Parts.l0])
    | succ k1 =>
      have H := HA.out
      clear HA
      simp only [wrackref1_Parts.l0] at H
      by_cases c2 : (x0_1.length : Int) > 64
      · rw [if_pos c2] at H
        have c2b0 : decide (64 < (x0_1.length : Int)) = true := decide_eq_true c2
        have c2b1 : decide (64 < x0_1.length) = true := decide_eq_true (by omega)
        clear c2
        by_cases c3 : 64 ≤ (x0_1.length : Int)
        · rw [if_pos c3] at H
          have c3b0 := eq_true c3
          have c3b1 : decide (64 ≤ (x0_1.length : Int)) = true := decide_eq_true c3
          clear c3
          obtain ⟨y118, hy118⟩ : ∃ y_ : List Int, y_ = (x0_1.take 64) := ⟨_, rfl⟩
          replace H : (if x3_1.length < 8796093022208 then (wrackref1_Parts.l0 k1 (x0_1.drop 64) (x3_1 ++ [strOfNums y118])) else (none)) = some r := by first | (rw [hy118]; with_reducible exact H) | (have H2_ := (Option.bind_some _ _).symm.trans H; rw [hy118]; with_reducible exact H2_) | (have H2_ := (Option.bind_some _ _).symm.trans H; with_reducible exact H2_) | with_reducible exact H | (rw [hy118]; exact H) | exact H
          have Ny118 := Aside0.mk hy118
          clear hy118
          by_cases c4 : x3_1.length < 8796093022208
          · rw [if_pos c4] at H
            have LMc4 := Aside0.mk c4
            clear c4
            obtain ⟨y123, hy123⟩ : ∃ y_ : List ByteArray, y_ = (x3_1 ++ [strOfNums y118]) := ⟨_, rfl⟩
            replace H : (wrackref1_Parts.l0 k1 (x0_1.drop 64) y123) = some r := by first | (rw [hy123]; with_reducible exact H) | (have H2_ := (Option.bind_some _ _).symm.trans H; rw [hy123]; with_reducible exact H2_) | (have H2_ := (Option.bind_some _ _).symm.trans H; with_reducible exact H2_) | with_reducible exact H | (rw [hy123]; exact H) | exact H
            have Ny123 := Aside0.mk hy123
            clear hy123
            have c5b0 := eq_true (of_decide_eq_true (by first | (with_reducible assumption) | assumption) : 64 ≤ (x0_1.length : Int))
            obtain ⟨y126, hy126⟩ : ∃ y_ : List Int, y_ = (x0_1.drop 64) := ⟨_, rfl⟩
            replace H : (wrackref1_Parts.l0 k1 y126 y123) = some r := by first | (rw [hy126]; with_reducible exact H) | (have H2_ := (Option.bind_some _ _).symm.trans H; rw [hy126]; with_reducible exact H2_) | (have H2_ := (Option.bind_some _ _).symm.trans H; with_reducible exact H2_) | with_reducible exact H | (rw [hy126]; exact H) | exact H
            have Ny126 := Aside0.mk hy126
            clear hy126
            have H' := Aside0.mk H
            clear H
            obtain ⟨Ao6, co6, eo6⟩ := Kd.V_slice HO_0.out
            subst eo6
            try go_wp2
            have n0_ := Aside0.mk (Kd.V_drew HO_0.out)
            have n1_ := Aside0.mk (Kd.R_drew HO_3.out)
            have n2_ := Aside0.mk (below_drew1 HB.out)
            clear HO_0
            clear HO_3
            clear HB
            have HO_0 := n0_
            have HO_3 := n1_
            have HB := n2_
            clear n0_ n1_ n2_
            have q8 : (64 : Int) ≤ ((x0_1.length : Int) : Int) := of_decide_eq_true (by first | (with_reducible assumption) | assumption)
            obtain ⟨i08, hi08, _, hsz8, _⟩ := info_parts info5
            have hroom8 : x0_1.length ≤ co6 := (Kd.V_reads' HO_0.out).2.1
            have hC8 : Kd.F (Kd.int .u8) _ _ Ao6 x0_1.length x0_1 := (Kd.V_at (base := w.heap.size) HO_0.out).2.2
            have hcut8 := cut_to (P := Try.prog) 22 5 .i64 Try.underlying22 hi08 Ao6 x0_1.length co6 64 (by omega) q8 hroom8
            have hr8 := Kd.F_take (m := 64) hC8 (by omega)
            have hy8 : y118.length = (64 : Int).toNat := (by rw [Ny118.out, List.length_take]; omega)
            rw [← Ny118.out] at hr8
            rw [← hy8] at hcut8
            have HO122 := Aside0.mk (show Kd.V (Kd.int .u8) 5 _ w.heap.size _ (.slice Ao6 y118.length co6) y118 from Kd.V_mk (by omega) hr8)
            have HC122 := Aside0.mk (show y118.length ≤ co6 from by omega)
            clear hr8 hC8 hroom8 hi08 hsz8
            have KY8 := Aside0.mk hy8
            clear hy8
            replace q8 := eq_true q8
            have q9 : (64 : Int) ≤ ((x0_1.length : Int) : Int) := of_decide_eq_true (by first | (with_reducible assumption) | assumption)
            obtain ⟨i09, hi09, _, hsz9, _⟩ := info_parts info5
            have hroom9 : x0_1.length ≤ co6 := (Kd.V_reads' HO_0.out).2.1
            have hC9 : Kd.F (Kd.int .u8) _ _ Ao6 x0_1.length x0_1 := (Kd.V_at (base := w.heap.size) HO_0.out).2.2
            have hcut9 := cut_from (P := Try.prog) 22 5 .i64 Try.underlying22 hi09 1 hsz9 Ao6 x0_1.length co6 64 (by omega) q9
            have hr9 := Kd.F_cut (m := (64 : Int).toNat) (c := co6) hC9 (by omega) hroom9
            obtain ⟨A9, hA9⟩ : ∃ A1, A1 = (if co6 = (64 : Int).toNat then Ao6 else (Ao6 : Option Addr).map (·.add ((64 : Int).toNat * 1))) := ⟨_, rfl⟩
            obtain ⟨c9, hc9⟩ : ∃ c1, c1 = co6 - (64 : Int).toNat := ⟨_, rfl⟩
            have hy9 : y126.length = x0_1.length - (64 : Int).toNat := (by rw [Ny126.out, List.length_drop] <;> omega)
            rw [show (x0_1).drop (64 : Int).toNat = y126 from Ny126.out.symm] at hr9
            replace hr9 : Kd.F (Kd.int .u8) _ _ A9 y126.length y126 := (by rw [hA9]; exact hr9)
            rw [← hy9, ← hA9, ← hc9] at hcut9
            have HO130 := Aside0.mk (show Kd.V (Kd.int .u8) 5 _ w.heap.size _ (.slice A9 y126.length c9) y126 from Kd.V_mk (by rw [hy9, hc9]; exact Nat.sub_le_sub_right hroom9 _) hr9)
            have HC130 := Aside0.mk (show y126.length ≤ c9 from by rw [hy9, hc9]; exact Nat.sub_le_sub_right hroom9 _)
            clear hr9 hC9 hroom9 hi09 hsz9 hc9
            have KY9 := Aside0.mk hy9
            have KA9 := Aside0.mk hA9
            clear hy9 hA9
            replace q9 := eq_true q9
            refine start_ (n := 10) (S := fun w' => True) (ds := []) #[false, false, false, false, false, false, false, false, false, false] (by kernel_rfl) rfl rfl trivial (fun hHeld => ?_); refine with_tabW wrackref1_Parts.tab3 wrackref1_Parts.bits3 (fun HT_ HW_ => ?_)
            generalize wr.drew = w7 at HO_0 HO_3 HB HO122 HO130 hHeld ⊢
            refine pure_ (i := 0) (N := some 7) (v := ?_) (a' := ?_) #[true, false, false, false, false, false, false, false, false, false] rfl rfl (any_of HT_.out (by kernel_rfl)) (fun _ _ _ h => h) (Or.inl ⟨by rfl, ?_⟩) ?_ ?_
            rotate_left
            · intro w'
              go_simp
              with_reducible rfl
            rotate_left
            · simp only [Act.put, List.setIfInBounds_toArray, List.set_cons_zero, List.set_cons_succ, i64_w, i32_w]
              rfl
            refine pure_ (i := 1) (N := some 8) (v := ?_) (a' := ?_) #[true, true, false, false, false, false, false, false, false, false] rfl rfl (any_of HT_.out (by kernel_rfl)) (fun _ _ _ h => h) (Or.inl ⟨by rfl, ?_⟩) ?_ ?_
            rotate_left
            · intro w'
              go_simp
              with_reducible rfl
            rotate_left
            · simp only [Act.put, List.setIfInBounds_toArray, List.set_cons_zero, List.set_cons_succ, i64_w, i32_w]
              rfl
            refine pure_ (i := 2) (N := some 9) (v := ?_) (a' := ?_) #[true, true, true, false, false, false, false, false, false, false] rfl rfl (any_of HT_.out (by kernel_rfl)) (fun _ _ _ h => h) (Or.inl ⟨by rfl, ?_⟩) ?_ ?_
            rotate_left
            · intro w'
              go_simp
              with_reducible rfl
            rotate_left
            · simp only [Act.put, List.setIfInBounds_toArray, List.set_cons_zero, List.set_cons_succ, i64_w, i32_w]
              rfl
            refine pure_ (i := 6) (N := some 13) (v := ?_) (a' := ?_) #[true, true, true, false, false, false, true, false, false, false] rfl rfl (any_of HT_.out (by kernel_rfl)) (fun _ _ _ h => h) (Or.inl ⟨by rfl, ?_⟩) ?_ ?_
            rotate_left
            · intro w'
              go_simp
              with_reducible rfl
            rotate_left
            · simp only [Act.put, List.setIfInBounds_toArray, List.set_cons_zero, List.set_cons_succ, i64_w, i32_w]
              rfl
            refine pure_ (i := 7) (N := some 14) (v := ?_) (a' := ?_) #[true, true, true, false, false, false, true, true, false, false] rfl rfl (any_of HT_.out (by kernel_rfl)) (fun _ _ _ h => h) (Or.inl ⟨by rfl, ?_⟩) ?_ ?_
            rotate_left
            · intro w'
              go_simp
              with_reducible rfl
            rotate_left
            · simp only [Act.put, List.setIfInBounds_toArray, List.set_cons_zero, List.set_cons_succ, i64_w, i32_w]
              rfl
            refine one_ (i := 3) (N := some 10) #[true, true, true, true, false, false, true, true, false, false] rfl rfl (one_of HT_.out (by kernel_rfl)) (by decide) (fun K hK => ?_)
            have hcv10 := Kd.C_string (P := Try.prog) (A := Ao6) (c := co6) Try.underlying22 Try.underlying5 Try.underlying9 (Kd.V_reads' HO122.out).2.2
            refine value_ (w1 := ?_) (v := ?_) (by rfl) rfl ?_ ?_
            rotate_left 2
            · go_simp
              constructor
              · rfl
              · rfl
            clear hcv10
            refine hK.out _ _ trivial (fun hHeld => ?_)
            clear hK K
            refine norm_ (a' := ?_) ?_ ?_
            rotate_left
            · show Act.put _ (some 10) _ = _
              simp only [Act.put, List.setIfInBounds_toArray, List.set_cons_zero, List.set_cons_succ, i64_w, i32_w]
              rfl
            refine one_ (i := 4) (N := some 11) #[true, true, true, true, true, false, true, true, false, false] rfl rfl (one_of HT_.out (by kernel_rfl)) (by decide) (fun K hK => ?_)
            refine value_ (w1 := ?_) (v := ?_) (by rfl) rfl ?_ ?_
            rotate_left 2
            · go_simp
              constructor
              · rfl
              · rfl
            refine hK.out _ _ trivial (fun hHeld => ?_)
            clear hK K
            refine norm_ (a' := ?_) ?_ ?_
            rotate_left
            · show Act.put _ (some 11) _ = _
              simp only [Act.put, List.setIfInBounds_toArray, List.set_cons_zero, List.set_cons_succ, i64_w, i32_w]
              rfl
            refine one_ (i := 5) (N := some 12) #[true, true, true, true, true, true, true, true, false, false] rfl rfl (one_of HT_.out (by kernel_rfl)) (by decide) (fun K hK => ?_)
            refine Kd.R_append_step Kd.string (w0 := w) w.heap.size (by rfl) (.tmp 7) (.tmp 11) 123 9 (.string ⟨#[]⟩) 16 rfl Try.underlying123 info9 rfl (by decide) (by omega) u3 x3_1 (strOfNums y118) [.string (strOfNums y118)] (fun k_ => (w.heap.size ≤ k_)) (fun _ => False) rfl rfl ?aP (fun _ hk => hk.elim) ?aF ?aO ?aB ?aS ?aL ?_
            (case aP => exact rfl)
            (case aB => exact (by repeat (first | (with_reducible first | exact HB.out | apply below_alloc | apply pw_below_drewN | apply below_drew1) | exact HB.out)))
            (case aF => exact (fun k_ hk => (Nat.le_trans (below_size (by repeat (first | (with_reducible first | exact HB.out | apply below_alloc | apply pw_below_drewN | apply below_drew1) | exact HB.out))) hk)))
            (case aO => exact (by (with_reducible repeat (first | apply Kd.R_alloc | apply Kd.R_drewN | apply Kd.R_drew)); exact HO_3.out))
            (case aS => exact (below_size (by repeat (first | (with_reducible first | exact HB.out | apply below_alloc | apply pw_below_drewN | apply below_drew1) | exact HB.out))))
            (case aL => have := LMc4.out; omega)
            intro v124 w11 ho hb hg hat
            rw [← Ny123.out] at ho
            have n0_ := Aside0.mk (Kd.V_afterv (ok := (fun k_ => (P0_ k_ ∨ w.heap.size ≤ k_))) (by (with_reducible repeat (first | apply Kd.V_alloc | apply Kd.V_drewN | apply Kd.V_drew)); exact HO_0.out) hg hat)
            have n1_ := Aside0.mk (Kd.V_afterv (ok := (fun k_ => (P0_ k_ ∨ w.heap.size ≤ k_))) (by (with_reducible repeat (first | apply Kd.V_alloc | apply Kd.V_drewN | apply Kd.V_drew)); exact HO122.out) hg hat)
            have n2_ := Aside0.mk (Kd.V_afterv (ok := (fun k_ => (P0_ k_ ∨ w.heap.size ≤ k_))) (by (with_reducible repeat (first | apply Kd.V_alloc | apply Kd.V_drewN | apply Kd.V_drew)); exact HO130.out) hg hat)
            have n3_ := Aside0.mk (hb)
            have n4_ := Aside0.mk (ho)
            clear HO_0
            clear HO122
            clear HO130
            clear HB
            clear HO_3
            have HO_0 := n0_
            have HO122 := n1_
            have HO130 := n2_
            have HB := n3_
            have HO125 := n4_
            clear n0_ n1_ n2_ n3_ n4_
            clear ho hb hg hat
            refine hK.out _ _ trivial (fun hHeld => ?_)
            clear hK K
            refine norm_ (a' := ?_) ?_ ?_
            rotate_left
            · show Act.put _ (some 12) _ = _
              simp only [Act.put, List.setIfInBounds_toArray, List.set_cons_zero, List.set_cons_succ, i64_w, i32_w]
              rfl
            refine pure_ (i := 8) (N := some 3) (v := ?_) (a' := ?_) #[true, true, true, true, true, true, true, true, true, false] rfl rfl (any_of HT_.out (by kernel_rfl)) (fun _ _ _ h => h) (Or.inl ⟨by rfl, ?_⟩) ?_ ?_
            rotate_left
            · intro w'
              go_simp
              with_reducible rfl
            rotate_left
            · simp only [Act.put, List.setIfInBounds_toArray, List.set_cons_zero, List.set_cons_succ, i64_w, i32_w]
              rfl
            refine pure_ (i := 9) (N := some 0) (v := ?_) (a' := ?_) #[true, true, true, true, true, true, true, true, true, true] rfl rfl (any_of HT_.out (by kernel_rfl)) (fun _ _ _ h => h) (Or.inl ⟨by rfl, ?_⟩) ?_ ?_
            rotate_left
            · intro w'
              go_simp
              with_reducible rfl
            rotate_left
            · simp only [Act.put, List.setIfInBounds_toArray, List.set_cons_zero, List.set_cons_succ, i64_w, i32_w]
              rfl
            refine done_ (done_of HT_.out (by kernel_rfl)) ?_
            try go_wp2
            go_roundg k1
            case measure => have := HK1.out; omega
            case rel => exact ⟨(y126), (y123), H', ⟨by have := HK1.out; omega⟩, ⟨by (with_reducible repeat (first | apply Kd.V_alloc | apply Kd.V_drewN | apply Kd.V_drew)); exact HO130.out⟩, ⟨by (with_reducible repeat (first | apply Kd.R_alloc | apply Kd.R_drewN | apply Kd.R_drew)); exact HO125.out⟩, ⟨by repeat (first | (with_reducible first | exact HB.out | apply below_alloc | apply pw_below_drewN | apply below_drew1) | exact HB.out)⟩⟩
          · rw [if_neg c4] at H
            exact absurd H (by simp)
        · rw [if_neg c3] at H
          exact absurd H (by simp)
      · rw [if_neg c2] at H
        have c2b0 : decide (64 < (x0_1.length : Int)) = false := decide_eq_false c2
        have c2b1 : decide (64 < x0_1.length) = false := decide_eq_false (by omega)
        clear c2
        by_cases c12 : x3_1.length < 8796093022208
        · rw [if_pos c12] at H
          have LMc12 := Aside0.mk c12
          clear c12
          obtain ⟨y131, hy131⟩ : ∃ y_ : List ByteArray, y_ = (x3_1 ++ [strOfNums x0_1]) := ⟨_, rfl⟩
          replace H : (some y131) = some r := by first | (rw [hy131]; with_reducible exact H) | (have H2_ := (Option.bind_some _ _).symm.trans H; rw [hy131]; with_reducible exact H2_) | (have H2_ := (Option.bind_some _ _).symm.trans H; with_reducible exact H2_) | with_reducible exact H | (rw [hy131]; exact H) | exact H
          have Ny131 := Aside0.mk hy131
          clear hy131
          obtain rfl := Option.some.inj H
          obtain ⟨Ao13, co13, eo13⟩ := Kd.V_slice HO_0.out
          subst eo13
          have hcv14 := Kd.C_string (P := Try.prog) (A := Ao13) (c := co13) Try.underlying22 Try.underlying5 Try.underlying9 (Kd.V_reads' HO_0.out).2.2
          go_wp2_with (first | ((with_reducible refine gate_builtin (b := .append) (xs := #[.tmp 15, .tmp 18]) rfl ?_); at_builtin; refine Kd.R_append Kd.string (w0 := w) w.heap.size rfl (.tmp 15) (.tmp 18) 123 9 (.string ⟨#[]⟩) 16 rfl Try.underlying123 info9 rfl (by decide) (by omega) u3 x3_1 (strOfNums x0_1) [.string (strOfNums x0_1)] (fun k_ => (w.heap.size ≤ k_)) (fun _ => False) rfl rfl ?aP (fun _ hk => hk.elim) ?aF ?aO ?aB ?aS ?aL ?_; (case aP => exact rfl); (case aB => exact (by repeat (first | (with_reducible first | exact HB.out | apply below_alloc | apply pw_below_drewN | apply below_drew1) | exact HB.out))); (case aF => exact (fun k_ hk => (Nat.le_trans (below_size (by repeat (first | (with_reducible first | exact HB.out | apply below_alloc | apply pw_below_drewN | apply below_drew1) | exact HB.out))) hk))); (case aO => exact (by (with_reducible repeat (first | apply Kd.R_alloc | apply Kd.R_drewN | apply Kd.R_drew)); exact HO_3.out)); (case aS => exact (below_size (by repeat (first | (with_reducible first | exact HB.out | apply below_alloc | apply pw_below_drewN | apply below_drew1) | exact HB.out)))); (case aL => have := LMc12.out; omega); intro v132 w15 ho hb hg hat; rw [← Ny131.out] at ho; have n0_ := Aside0.mk (Kd.V_afterv (ok := (fun k_ => (P0_ k_ ∨ w.heap.size ≤ k_))) (by (with_reducible repeat (first | apply Kd.V_alloc | apply Kd.V_drewN | apply Kd.V_drew)); exact HO_0.out) hg hat); have n1_ := Aside0.mk (hb); have n2_ := Aside0.mk (ho); clear HO_0; clear HB; clear HO_3; have HO_0 := n0_; have HB := n1_; have HO133 := n2_; clear n0_ n1_ n2_; clear ho hb hg hat))
          go_ret
          exact ⟨_, by first | rfl | (simp [errW_none, errW_some] <;> rfl) | (simp [*, errW_none, errW_some] <;> rfl), by (with_reducible repeat (first | apply Kd.R_alloc | apply Kd.R_drewN | apply Kd.R_drew)); exact HO133.out, by repeat (first | (with_reducible first | exact HB.out | apply below_alloc | apply pw_below_drewN | apply below_drew1) | exact HB.out)⟩
        · rw [if_neg c12] at H
          exact absurd H (by simp)

-- import Derived.Test.YtdgkbpoljcndgaaSumTreePlain
open Go.Proofs.Ytdgkbpoljcndgaa.SumPlain
theorem parts_l0 (b : List Int) (hn : b.length ≤ 140737488351232) : ∀ (d i : Nat), i + d + 1 = nBlocks b →
    Ev (fun k => wrackref1_Parts.l0 k (b.drop (64 * i)) ((List.range i).map fun i => strOfNums (blockAt b i))) (partsOf b)
  | 0, i, h => by
    refine Ev.step (f := fun _ => some _) (fun k => ?_) (Ev.now _)
    simp only [wrackref1_Parts.l0]
    have h2 := h; unfold nBlocks at h2
    rw [if_neg (by rw [List.length_drop]; omega), if_pos (by simp; omega)]
    unfold partsOf
    rw [← h, show i + 0 + 1 = i + 1 by omega, List.range_succ, List.map_append]
    congr 2
    simp only [List.map_cons, List.map_nil]
    congr 2
    unfold blockAt; rw [List.take_of_length_le (by rw [List.length_drop]; omega)]
  | d + 1, i, h => by
    have h2 := h; unfold nBlocks at h2
    refine Ev.step (f := fun k => wrackref1_Parts.l0 k (b.drop (64 * (i + 1))) ((List.range (i + 1)).map fun i => strOfNums (blockAt b i))) (fun k => ?_) (parts_l0 b hn d (i + 1) (by omega))
    simp only [wrackref1_Parts.l0]
    rw [if_pos (by rw [List.length_drop]; omega), if_pos (by rw [List.length_drop]; omega), if_pos (by simp; omega), List.drop_drop, List.range_succ, List.map_append]
    simp only [List.map_cons, List.map_nil, blockAt]
    rw [show 64 * i + 64 = 64 * (i + 1) by omega]
theorem parts_ev (b : List Int) (hn : b.length ≤ 140737488351232) : Ev (fun k => wrackref1_Parts.f k b) (partsOf b) := by
  have := parts_l0 b hn (nBlocks b - 1) 0 (by unfold nBlocks; omega)
  unfold wrackref1_Parts.f; simpa using this
theorem parts_calls (A0 : Option Addr) (c0 : Nat) (l0 : List Int) (w : World) (hr0 : Kd.C (Kd.int .u8) w A0 l0.length l0) (hc0 : l0.length ≤ c0) (hn : l0.length ≤ 140737488351232) :
    Calls Try.prog 84 #[.slice A0 l0.length c0] w fun e w' => ∃ v, e = .returned v ∧ Kd.R Kd.string 9 w' w.heap.size (fun _ => True) v (partsOf l0) ∧ Below w.heap.size w w' := by
  obtain ⟨k, hk⟩ := (parts_ev l0 hn).rounds
  refine (wrackref1_Parts.calls k (fun _ => True) A0 c0 l0 _ w (Kd.V_mk hc0 ?_) hk).mono ?_
  · exact F_of_C hr0
  · rintro e w' ⟨v, he, hR, hB⟩
    exact ⟨v, he, Kd.R_mono hR (fun _ _ => trivial), hB⟩


/-! ### sum_Hash: function 18 -/
def sum_Hash.l0 : Nat → Int → List Int → Int → Int → Option (Int)
  | 0, _, _, _, _ => none
  | k + 1, x3, x6, x7, x8 => if x8 < x7 then (if 0 ≤ x8 then (if x8 < (x6.length : Int) then (sum_Hash.l0 k (Go.bits .xor .u64 (IntKind.u64.wrap ((Go.bits .xor .u64 x3 (IntKind.u64.wrap (rd x6 x8))) * 1099511628211)) ((IntKind.u64.wrap ((Go.bits .xor .u64 x3 (IntKind.u64.wrap (rd x6 x8))) * 1099511628211)) / 536870912)) x6 x7 (wrap64 (x8 + 1))) else (none)) else (none)) else (some x3)
def sum_Hash.f (k : Nat) (l0 : List Int) : Option (Int) := sum_Hash.l0 k 11400714819323198485 l0 (l0.length : Int) 0
theorem sum_Hash.mono_l : ∀ k, (∀ y0 y1 y2 y3, LeO (sum_Hash.l0 k y0 y1 y2 y3) (sum_Hash.l0 (k + 1) y0 y1 y2 y3))
  | 0 => fun _ _ _ _ r h => by simp [sum_Hash.l0] at h
  | k + 1 => by
    have ih0 := sum_Hash.mono_l k
    · intro y0 y1 y2 y3
      unfold sum_Hash.l0
      repeat' first
      | (with_reducible exact ih0 _ _ _ _)
      | (with_reducible exact LeO.refl _)
      | (with_reducible exact LeO.none _)
      | (with_reducible refine LeO.ite ?_ ?_)
      | (with_reducible refine LeO.bind ?_ (fun _ => ?_))
      | exact ih0 _ _ _ _
      | exact LeO.none _
      | refine LeO.ite ?_ ?_
      | refine LeO.bind ?_ (fun _ => ?_)
theorem sum_Hash.mono : ∀ a0 k, LeO (sum_Hash.f k a0) (sum_Hash.f (k + 1) a0) := by
  intro a0 k
  have ih0 := sum_Hash.mono_l k
  unfold sum_Hash.f
  repeat' first
      | (with_reducible exact ih0 _ _ _ _)
      | (with_reducible exact LeO.refl _)
      | (with_reducible exact LeO.none _)
      | (with_reducible refine LeO.ite ?_ ?_)
      | (with_reducible refine LeO.bind ?_ (fun _ => ?_))
      | exact ih0 _ _ _ _
      | exact LeO.none _
      | refine LeO.ite ?_ ?_
      | refine LeO.bind ?_ (fun _ => ?_)
set_option maxHeartbeats 8000000 in
set_option maxRecDepth 100000 in
theorem sum_Hash.calls (k : Nat) (A0 : Option Addr) (c0 : Nat) (l0 : List Int) (r : Int) (w : World) (hr0 : Kd.C (Kd.int .u8) w A0 l0.length l0) (hc0 : l0.length ≤ c0) (h : sum_Hash.f k l0 = some r) :
    Calls Try.prog 18 #[.slice A0 l0.length c0] w fun e w' => e = .returned (.int .u64 r) ∧ Drawn0 w w' := by
  have HR0 := Aside0.mk hr0
  have HC0 := Aside0.mk hc0
  clear hr0 hc0
  have H : (sum_Hash.l0 k 11400714819323198485 l0 (l0.length : Int) 0) = some r := h
  clear h
  have H' := Aside0.mk H
  clear H
  go_enter Try.func18, Try.ntmps18
  go_wp2
  go_loopg [3, 8] k (fun kq v3 v8 w' => ∃ (x3_1 : Int) (x8_1 : Int), v3 = .int .u64 x3_1 ∧ v8 = .int .i64 x8_1 ∧ Aside0 (sum_Hash.l0 kq x3_1 l0 (l0.length : Int) x8_1 = some r) ∧ Aside0 (kq ≤ k) ∧ Drawn0 w w')
  case atStart => exact ⟨(11400714819323198485), (0), (by first | rfl | (simp; done) | (simp [*]; done)), (by first | rfl | (simp; done) | (simp [*]; done)), H', ⟨Nat.le_refl _⟩, by repeat (first | exact Drawn0.refl _ | apply Drawn0.step)⟩
  case round =>
    clear H'
    try clear c1
    obtain ⟨x3_1, x8_1, rfl, rfl, HA, HK1, ⟨m1, rfl⟩⟩ := hrel
    cases gk with
    | zero => exact absurd HA.out (by simp [sum_Hash.l0])
    | succ k1 =>
      have H := HA.out
      clear HA
      simp only [sum_Hash.l0] at H
      by_cases c2 : x8_1 < (l0.length : Int)
      · rw [if_pos c2] at H
        have c2b0 : decide (x8_1 < (l0.length : Int)) = true := decide_eq_true c2
        clear c2
        by_cases c3 : 0 ≤ x8_1
        · rw [if_pos c3] at H
          have c3b0 : decide (0 ≤ x8_1) = true := decide_eq_true c3
          clear c3
          by_cases c4 : x8_1 < (l0.length : Int)
          · rw [if_pos c4] at H
            have c4b0 : decide (x8_1 < (l0.length : Int)) = true := decide_eq_true c4
            clear c4
            have H' := Aside0.mk H
            clear H
            have p134 : 0 ≤ (x8_1 : Int) := of_decide_eq_true (by first | (with_reducible assumption) | assumption)
            have q134 : x8_1 < (l0.length : Int) := of_decide_eq_true (by first | (with_reducible assumption) | assumption)
            obtain ⟨ad134, e134, hx134_0⟩ := Kd.at_int HR0.out x8_1 p134 q134
            cases e134
            replace p134 := eq_true p134
            replace q134 := eq_true q134
            go_wp2
            go_roundg k1
            case measure => have := HK1.out; omega
            case rel => exact ⟨(Go.bits .xor .u64 (IntKind.u64.wrap ((Go.bits .xor .u64 x3_1 (IntKind.u64.wrap (rd l0 x8_1))) * 1099511628211)) ((IntKind.u64.wrap ((Go.bits .xor .u64 x3_1 (IntKind.u64.wrap (rd l0 x8_1))) * 1099511628211)) / 536870912)), (wrap64 (x8_1 + 1)), (by first | rfl | (simp; done) | (simp [*]; done)), (by first | rfl | (simp; done) | (simp [*]; done)), H', ⟨by have := HK1.out; omega⟩, by repeat (first | exact Drawn0.refl _ | apply Drawn0.step)⟩
          · rw [if_neg c4] at H
            exact absurd H (by simp)
        · rw [if_neg c3] at H
          exact absurd H (by simp)
      · rw [if_neg c2] at H
        have c2b0 : decide (x8_1 < (l0.length : Int)) = false := decide_eq_false c2
        clear c2
        obtain rfl := Option.some.inj H
        go_wp2
        go_ret
        exact ⟨by first | rfl | (simp; done) | (simp [*]; done), by repeat (first | exact Drawn0.refl _ | apply Drawn0.step)⟩

-- import Derived.Test.YtdgkbpoljcndgaaSumPlain
open Go.Proofs.Ytdgkbpoljcndgaa.SumPlain
/-! the hash -/
theorem hash_l0 (xs : List Int) (hn : xs.length ≤ 140737488351232) : ∀ (d i : Nat) (h : Int), i + d = xs.length →
    Ev (fun k => sum_Hash.l0 k h xs (xs.length : Int) (i : Int)) ((xs.drop i).foldl hashStep h)
  | 0, i, h, hi => by
    refine Ev.step (f := fun _ => some _) (fun k => ?_) (Ev.now _)
    simp only [sum_Hash.l0]
    rw [if_neg (by omega), List.drop_of_length_le (by omega)]; rfl
  | d + 1, i, h, hi => by
    refine Ev.step (f := fun k => sum_Hash.l0 k (hashStep h (xs.getD i 0)) xs (xs.length : Int) ((i + 1 : Nat) : Int)) (fun k => ?_) ?_
    · simp only [sum_Hash.l0]
      rw [if_pos (by omega), if_pos (by omega), if_pos (by omega), rd_nat, next i xs.length (by omega) hn]; rfl
    · rw [drop_step xs i (by omega)]
      exact hash_l0 xs hn d (i + 1) _ (by omega)
theorem hash_ev (xs : List Int) (hn : xs.length ≤ 140737488351232) : Ev (fun k => sum_Hash.f k xs) (hashOf xs) := hash_l0 xs hn xs.length 0 _ (by omega)
theorem hash_calls (A0 : Option Addr) (c0 : Nat) (l0 : List Int) (w : World) (hr0 : Kd.C (Kd.int .u8) w A0 l0.length l0) (hc0 : l0.length ≤ c0) (hn : l0.length ≤ 140737488351232) :
    Calls Try.prog 18 #[.slice A0 l0.length c0] w fun e w' => e = .returned (.int .u64 (hashOf l0)) ∧ Drawn0 w w' := by
  obtain ⟨k, hk⟩ := (hash_ev l0 hn).rounds
  exact sum_Hash.calls k A0 c0 l0 _ w hr0 hc0 hk


/-! ### sum_Blocks: function 37 -/
def sum_Blocks.f (l0 : List Int) : Option (Int) := some (mx 1 (wrap64 (Int.tdiv (wrap64 ((wrap64 ((l0.length : Int) + 64)) - 1)) 64)))
set_option maxHeartbeats 8000000 in
set_option maxRecDepth 100000 in
theorem sum_Blocks.calls (A0 : Option Addr) (c0 : Nat) (l0 : List Int) (r : Int) (w : World) (hr0 : Kd.C (Kd.int .u8) w A0 l0.length l0) (hc0 : l0.length ≤ c0) (h : sum_Blocks.f l0 = some r) :
    Calls Try.prog 37 #[.slice A0 l0.length c0] w fun e w' => e = .returned (.int .i64 r) ∧ Below w.heap.size w w' := by
  have HR0 := Aside0.mk hr0
  have HC0 := Aside0.mk hc0
  clear hr0 hc0
  have HB := Aside0.mk (Below.refl w.heap.size w)
  have H : (some (mx 1 (wrap64 (Int.tdiv (wrap64 ((wrap64 ((l0.length : Int) + 64)) - 1)) 64)))) = some r := h
  clear h
  obtain ⟨ji2, hji2⟩ : ∃ j_ : Int, (mx 1 (wrap64 (Int.tdiv (wrap64 ((wrap64 ((l0.length : Int) + 64)) - 1)) 64))) = j_ := ⟨_, rfl⟩
  replace H : (some ji2) = some r := by first | (rw [hji2] at H; exact H) | (simp only [hji2] at H ⊢; exact H)
  (try (have hji2l : 1 ≤ ji2 := by (rw [← hji2]; unfold mx; (repeat' split) <;> omega)))
  (try (have hji2m : 0 ≤ ji2 := by omega))
  have hji2_ : (if 1 < (wrap64 (Int.tdiv (wrap64 ((wrap64 ((l0.length : Int) + 64)) - 1)) 64)) then (wrap64 (Int.tdiv (wrap64 ((wrap64 ((l0.length : Int) + 64)) - 1)) 64)) else 1) = ji2 := hji2
  obtain rfl := Option.some.inj H
  go_enter Try.func37, Try.ntmps37
  go_wp2
  go_ret
  exact ⟨by first | rfl | (simp [errW_none, errW_some] <;> rfl) | (simp only [← hji2]; first | rfl | (simp [errW_none, errW_some] <;> rfl)) | (simp [*, errW_none, errW_some] <;> rfl), by repeat (first | (with_reducible first | exact HB.out | apply below_alloc | apply pw_below_drewN | apply below_drew1) | exact HB.out)⟩

-- import Derived.Test.YtdgkbpoljcndgaaSumTreePlain
open Go.Proofs.Ytdgkbpoljcndgaa.SumPlain
theorem blocks_calls (A0 : Option Addr) (c0 : Nat) (l0 : List Int) (w : World) (hr0 : Kd.C (Kd.int .u8) w A0 l0.length l0) (hc0 : l0.length ≤ c0) (hn : l0.length ≤ 140737488351232) :
    Calls Try.prog 37 #[.slice A0 l0.length c0] w fun e w' => e = .returned (.int .i64 (nBlocks l0 : Nat)) ∧ Below w.heap.size w w' := by
  refine sum_Blocks.calls A0 c0 l0 _ w hr0 hc0 ?_
  unfold sum_Blocks.f nBlocks
  congr 1
  have e : Int.tdiv (wrap64 ((wrap64 ((l0.length : Int) + 64)) - 1)) 64 = (((l0.length + 63) / 64 : Nat) : Int) := by
    have : wrap64 ((wrap64 ((l0.length : Int) + 64)) - 1) = ((l0.length + 63 : Nat) : Int) := by unfold wrap64; omega
    rw [this, Int.tdiv_eq_ediv_of_nonneg (by omega)]; omega
  rw [e]
  unfold mx wrap64
  split <;> omega


/-- all lists, one after the other -/
def slices_Concat_byte.f (l0 : List (List Int)) : Option (List Int) := if totLen l0 ≤ 140737488355328 then some l0.flatten else none
set_option maxHeartbeats 2000000 in
set_option maxRecDepth 100000 in
theorem slices_Concat_byte_grow (n : Int) (w : World) (h0 : 0 ≤ n) (hn : n ≤ 140737488355328) :
    Calls Try.prog 118 #[.slice none 0 0, .int .i64 n] w fun e w' => ∃ v, e = .returned v ∧ Kd.R (Kd.int .u8) 5 w' w.heap.size (fun _ => True) v [] ∧ Below w.heap.size w w' := by
  have hd : decide (n < 0) = false := decide_eq_false (by omega)
  by_cases hz : 0 < n
  · have hd2 : decide (0 < n) = true := decide_eq_true hz
    have hroom : (([] : List Int).length + n.toNat) * 1 ≤ 140737488355328 := by simp; omega
    obtain ⟨i5, hi5, hz0, hz1, hz2⟩ := info_parts info5
    go_enter Try.func118, Try.ntmps118
    go_wp2_with (first
      | (refine Kd.R_append_zeros (Kd.int .u8) _ rfl (.tmp 20) (.tmp 21) 22 3 5 (.int .u8 0) 1 rfl Try.underlying22 Try.underlying3 info5 rfl (by decide) (by decide) (.slice none 0 0) [] 0 n (fun _ => True) rfl rfl rfl (fun _ _ => trivial) (Kd.R_nil _ _ _ _ _) h0 (Below.refl _ _) (Nat.le_refl _) hroom ?_; intro v1 w1 HO HB hg hat; obtain ⟨A, c, rfl⟩ := Kd.R_slice HO; have hcut := cut_to (P := Try.prog) 22 5 .i64 Try.underlying22 hi5 A _ c 0 (by omega) (by omega) (Kd.R_reads' HO).2.1; have HT := Kd.R_take (m := 0) HO (by omega)))
    go_ret
    exact ⟨_, rfl, by simpa using HT, HB⟩
  · have hd2 : decide (0 < n) = false := decide_eq_false hz
    go_enter Try.func118, Try.ntmps118
    go_wp2
    go_ret
    exact ⟨_, rfl, Kd.R_nil _ _ _ _ _, Below.refl _ _⟩
set_option maxHeartbeats 2000000 in
set_option maxRecDepth 100000 in
theorem slices_Concat_byte_any (A0 : Option Addr) (c0 : Nat) (l0 : List (List Int)) (w : World) (hr0 : Kd.C (Kd.slice 5 (Kd.int .u8)) w A0 l0.length l0) (hc0 : l0.length ≤ c0) (hl : totLen l0 ≤ 140737488355328) :
    Calls Try.prog 109 #[.slice A0 l0.length c0] w fun e w' => ∃ v, e = .returned v ∧ Kd.R (Kd.int .u8) 5 w' w.heap.size (fun _ => True) v l0.flatten ∧ Below w.heap.size w w' := by
  have hmax := Kd.C_max hr0
  go_enter Try.func109, Try.ntmps109
  go_wp2
  go_loop [3, 11] (fun s i => ∃ k : Nat, k ≤ l0.length ∧ i = .int .i64 k ∧ s = .int .i64 (totLen (l0.take k))) (fun _ i => l0.length - (intOf i).toNat)
  case atStart => exact ⟨0, Nat.zero_le _, rfl, rfl⟩
  case round =>
    obtain ⟨k, hk, rfl, rfl⟩ := hrel
    by_cases hlt : k < l0.length
    · obtain ⟨ad, A1, c1, rfl, hcell, hle1, hC1⟩ := Kd.at_slice hr0 k hlt
      have ht := tot_take l0 k hlt
      have htl := tot_le l0 (k + 1)
      obtain ⟨m, hm⟩ : ∃ m, m = (l0.getD k []).length := ⟨_, rfl⟩
      rw [← hm] at hcell hle1 hC1 ht
      obtain ⟨T0, hT0⟩ : ∃ m, m = totLen (l0.take k) := ⟨_, rfl⟩
      rw [← hT0] at ht ⊢
      have hT1 := Aside0.mk ht
      have hb : T0 + m ≤ 140737488355328 := by omega
      clear ht htl hm hT0 hC1
      go_wp2
      go_round
      case rel => exact ⟨k + 1, by omega, by go_num, by rw [hT1.out]; go_num⟩
      case measure => simp [intOf]; omega
    · have : k = l0.length := by omega
      subst this
      have HT := Aside0.mk (show totLen (l0.take l0.length) = totLen l0 by rw [List.take_length])
      rw [HT.out]
      have hb0 : (0 : Int) ≤ (totLen l0 : Int) := by omega
      have hb1 : (totLen l0 : Int) ≤ 140737488355328 := by omega
      go_wp2_with (first | (go_at_call 118; refine (slices_Concat_byte_grow _ _ hb0 hb1).mono ?_; rintro e w1 ⟨v, rfl, HO, HB⟩))
      go_loopw [6, 27] (fun v i wr => ∃ k : Nat, k ≤ l0.length ∧ i = .int .i64 k ∧ Aside0 (Kd.R (Kd.int .u8) 5 wr w.heap.size (fun _ => True) v (l0.take k).flatten) ∧ Aside0 (Below w.heap.size w wr)) (fun _ i _ => l0.length - (intOf i).toNat)
      case atStart => exact ⟨0, Nat.zero_le _, rfl, ⟨HO⟩, ⟨HB⟩⟩
      case round =>
        clear HO HB
        obtain ⟨k, hk, rfl, HO, HB⟩ := hrel
        by_cases hlt : k < l0.length
        · obtain ⟨ad, A1, c1, rfl, hcell, hle1, hC1⟩ := Kd.at_slice (Kd.C_below hr0 HB.out) k hlt
          have HT2 := Aside0.mk (flat_take l0 k hlt)
          have ht := tot_take l0 k hlt
          have htl := tot_le l0 (k + 1)
          obtain ⟨ys, hys⟩ : ∃ ys, ys = l0.getD k [] := ⟨_, rfl⟩
          rw [← hys] at hcell hle1 hC1 HT2 ht
          have hC1 := Aside0.mk hC1
          obtain ⟨A, c, hv⟩ := Kd.R_slice HO.out
          have hroom : ((l0.take k).flatten.length + ys.length) * 1 ≤ 140737488355328 := by unfold totLen at *; omega
          clear ht htl hys
          subst hv
          go_wp2_with (first | (refine Kd.R_append_rows (Kd.int .u8) (Rr := (Kd.int .u8).K wr) w.heap.size rfl (.tmp 31) (.tmp 32) 22 5 (.int .u8 0) 1 rfl Try.underlying22 info5 rfl (by decide) (by decide) (.slice A (l0.take k).flatten.length c) (l0.take k).flatten ys A1 ys.length c1 (fun _ => True) (fun _ => False) rfl rfl HO.out hC1.out (fun _ _ h => h) (fun _ h => h.elim) (fun _ _ => trivial) HB.out HB.out.size hroom ?_; intro v1 w2 HO2 HB2 hg hat))
          go_roundw
          case rel => exact ⟨k + 1, by omega, by go_num, ⟨by rw [HT2.out]; exact HO2⟩, ⟨HB2⟩⟩
          case measure => simp [intOf]; omega
        · have : k = l0.length := by omega
          subst this
          go_wp2
          go_ret
          exact ⟨_, rfl, by have := HO.out; rw [List.take_length] at this; exact this, HB.out⟩
theorem slices_Concat_byte.calls (A0 : Option Addr) (c0 : Nat) (l0 : List (List Int)) (r : List Int) (w : World) (hr0 : Kd.C (Kd.slice 5 (Kd.int .u8)) w A0 l0.length l0) (hc0 : l0.length ≤ c0) (h : slices_Concat_byte.f l0 = some r) :
    Calls Try.prog 109 #[.slice A0 l0.length c0] w fun e w' => ∃ v0_ : Value, e = .returned (v0_) ∧ Kd.R (Kd.int .u8) 5 w' w.heap.size (fun _ => True) v0_ r ∧ Below w.heap.size w w' := by
  unfold slices_Concat_byte.f at h
  split at h
  · obtain rfl := Option.some.inj h
    exact slices_Concat_byte_any A0 c0 l0 w hr0 hc0 (by assumption)
  · cases h


/-! ### sum_pair: function 80 -/
def sum_pair.f (k : Nat) (a0 : Int) (a1 : Int) : Option (Int) := (sum_Number.f k a0).bind fun t135 => ((sum_Number.f k a1).bind fun t138 => ((slices_Concat_byte.f (([t135, t138] : List (List Int)))).bind fun t144 => ((sum_Hash.f k t144).bind fun t147 => (some t147))))
theorem sum_pair.mono : ∀ a0 a1 k, LeO (sum_pair.f k a0 a1) (sum_pair.f (k + 1) a0 a1) := by
  intro a0 a1 k
  unfold sum_pair.f
  repeat' first
      | (with_reducible exact sum_Hash.mono _ _)
      | (with_reducible exact sum_Number.mono _ _)
      | (with_reducible exact LeO.refl _)
      | (with_reducible exact LeO.none _)
      | (with_reducible refine LeO.ite ?_ ?_)
      | (with_reducible refine LeO.bind ?_ (fun _ => ?_))
      | exact sum_Hash.mono _ _
      | exact sum_Number.mono _ _
      | exact LeO.none _
      | refine LeO.ite ?_ ?_
      | refine LeO.bind ?_ (fun _ => ?_)
set_option maxHeartbeats 8000000 in
set_option maxRecDepth 100000 in
theorem sum_pair.calls (k : Nat) (a0 : Int) (a1 : Int) (r : Int) (w : World) (h : sum_pair.f k a0 a1 = some r) :
    Calls Try.prog 80 #[.int .u64 a0, .int .u64 a1] w fun e w' => e = .returned (.int .u64 r) ∧ Below w.heap.size w w' := by
  have HB := Aside0.mk (Below.refl w.heap.size w)
  have H : ((sum_Number.f k a0).bind fun t135 => ((sum_Number.f k a1).bind fun t138 => ((slices_Concat_byte.f (([t135, t138] : List (List Int)))).bind fun t144 => ((sum_Hash.f k t144).bind fun t147 => (some t147))))) = some r := h
  clear h
  replace H := Option.bind_eq_some_iff.mp H
  obtain ⟨t135, A30, H⟩ := H
  replace H : ((sum_Number.f k a1).bind fun t138 => ((slices_Concat_byte.f (([t135, t138] : List (List Int)))).bind fun t144 => ((sum_Hash.f k t144).bind fun t147 => (some t147)))) = some r := H
  have A3 := Aside0.mk A30
  clear A30
  replace H := Option.bind_eq_some_iff.mp H
  obtain ⟨t138, A40, H⟩ := H
  replace H : ((slices_Concat_byte.f (([t135, t138] : List (List Int)))).bind fun t144 => ((sum_Hash.f k t144).bind fun t147 => (some t147))) = some r := H
  have A4 := Aside0.mk A40
  clear A40
  obtain ⟨y141, hy141⟩ : ∃ y_ : List (List Int), y_ = (([t135, t138] : List (List Int))) := ⟨_, rfl⟩
  replace H : ((slices_Concat_byte.f y141).bind fun t144 => ((sum_Hash.f k t144).bind fun t147 => (some t147))) = some r := by first | (rw [hy141]; with_reducible exact H) | (have H2_ := (Option.bind_some _ _).symm.trans H; rw [hy141]; with_reducible exact H2_) | (have H2_ := (Option.bind_some _ _).symm.trans H; with_reducible exact H2_) | with_reducible exact H | (rw [hy141]; exact H) | exact H
  have Ny141 := Aside0.mk hy141
  clear hy141
  replace H := Option.bind_eq_some_iff.mp H
  obtain ⟨t144, A50, H⟩ := H
  replace H : ((sum_Hash.f k t144).bind fun t147 => (some t147)) = some r := H
  have A5 := Aside0.mk A50
  clear A50
  replace H := Option.bind_eq_some_iff.mp H
  obtain ⟨t147, A60, H⟩ := H
  replace H : (some t147) = some r := H
  have A6 := Aside0.mk A60
  clear A60
  obtain rfl := Option.some.inj H
  go_enter Try.func80, Try.ntmps80
  go_wp2_with (first | ((with_reducible refine gate_callee (f := 20) rfl ?_); refine goesL_ (some 6) rfl rfl Try.func20 (by kernel_rfl) rfl #[.int .u64 a0] rfl (by (try simp only [List.map_toArray, List.map_cons, List.map_nil]); first | done | rfl | (simp only [List.length_drop, List.length_take]; rfl)) ?_; (with_reducible refine (sum_Number.calls k a0 t135 _ A3.out).mono ?_); rintro e w7 ⟨v136, rfl, ho0, hb⟩; refine ⟨_, rfl, ?_⟩; have n0_ := Aside0.mk (Kd.R_lower ho0 (below_size (by repeat (first | (with_reducible first | exact HB.out | apply below_alloc | apply pw_below_drewN | apply below_drew1) | exact HB.out)))); have n1_ := Aside0.mk (below_step (by repeat (first | (with_reducible first | exact HB.out | apply below_alloc | apply pw_below_drewN | apply below_drew1) | exact HB.out)) hb); clear HB; have HO137 := n0_; have HB := n1_; clear n0_ n1_; (try clear hb); (try clear hb2); (try clear hk); (try clear hi); (try clear ho0)) | ((with_reducible refine gate_callee (f := 20) rfl ?_); refine goesL_ (some 8) rfl rfl Try.func20 (by kernel_rfl) rfl #[.int .u64 a1] rfl (by (try simp only [List.map_toArray, List.map_cons, List.map_nil]); first | done | rfl | (simp only [List.length_drop, List.length_take]; rfl)) ?_; (with_reducible refine (sum_Number.calls k a1 t138 _ A4.out).mono ?_); rintro e w8 ⟨v139, rfl, ho0, hb⟩; refine ⟨_, rfl, ?_⟩; have n0_ := Aside0.mk (Kd.R_elder' (by (with_reducible repeat (first | apply Kd.R_alloc | apply Kd.R_drewN | apply Kd.R_drew)); exact HO137.out) (Kd.R_base ho0) hb); have n1_ := Aside0.mk (Kd.R_lower (Kd.R_new' ho0 (Kd.R_lt (by (with_reducible repeat (first | apply Kd.R_alloc | apply Kd.R_drewN | apply Kd.R_drew)); exact HO137.out))) (below_size (by repeat (first | (with_reducible first | exact HB.out | apply below_alloc | apply pw_below_drewN | apply below_drew1) | exact HB.out)))); have n2_ := Aside0.mk (below_step (by repeat (first | (with_reducible first | exact HB.out | apply below_alloc | apply pw_below_drewN | apply below_drew1) | exact HB.out)) hb); clear HO137; clear HB; have HO137 := n0_; have HO140 := n1_; have HB := n2_; clear n0_ n1_ n2_; (try clear hb); (try clear hb2); (try clear hk); (try clear hi); (try clear ho0); obtain ⟨Ao9, co9, eo9⟩ := Kd.R_slice HO137.out; subst eo9; obtain ⟨Ao10, co10, eo10⟩ := Kd.R_slice HO140.out; subst eo10) | ((with_reducible refine gate_dst (N := 9) rfl ?_); refine Kd.N_lit (Kd.slice 5 (Kd.int .u8)) _ 22 ?hg (N' := 9) ?hd (xs := ([t135, t138] : List (List Int))) (inner := [.slice Ao9 t135.length co9, .slice Ao10 t138.length co10]) (ok := (fun _ => True)) (okp := (fun _ => True)) ?hr ?hp (fun _ hk => hk) ((show ∀ k_, w8.heap.size ≤ k_ → (fun _ => True) k_ from fun k_ hk => trivial) _ (Nat.le_refl _)) (Below.refl _ _) (Nat.le_refl _) (by simp) ?_; (case hd => rfl); (case hg => rfl); (case hr => first | (go_simp; done) | (go_simp; rfl)); (case hp => exact (Reps.one (show Kd.FK (Kd.slice 5 (Kd.int .u8)) _ _ t135 [.slice Ao9 t135.length co9] from (Kd.FK_slice_mk (Kd.R_reads' (Kd.R_mono (ok' := (fun _ => True)) (HO137.out) (fun k_ hk => trivial))).2.1 (Kd.R_F (Kd.R_mono (ok' := (fun _ => True)) (HO137.out) (fun k_ hk => trivial))))) (Reps.one (show Kd.FK (Kd.slice 5 (Kd.int .u8)) _ _ t138 [.slice Ao10 t138.length co10] from (Kd.FK_slice_mk (Kd.R_reads' (Kd.R_mono (ok' := (fun _ => True)) (HO140.out) (fun k_ hk => trivial))).2.1 (Kd.R_F (Kd.R_mono (ok' := (fun _ => True)) (HO140.out) (fun k_ hk => trivial))))) (Reps.none _ _)))); intro v142 w11 ho12 hb hg_ hnew_; clear hg_ hnew_; (first | rw [← Ny141.out] at ho12 | (simp only [Int.reduceToNat] at ho12; rw [← Ny141.out] at ho12)); have n0_ := Aside0.mk (Kd.N_lower ho12 (below_size (by repeat (first | (with_reducible first | exact HB.out | apply below_alloc | apply pw_below_drewN | apply below_drew1) | exact HB.out)))); have n1_ := Aside0.mk (below_step (by repeat (first | (with_reducible first | exact HB.out | apply below_alloc | apply pw_below_drewN | apply below_drew1) | exact HB.out)) hb); clear HB; clear HO137; clear HO140; have HO143 := n0_; have HB := n1_; clear n0_ n1_; clear hb ho12; obtain ⟨Ao13, co13, eo13⟩ := Kd.N_slice HO143.out; subst eo13) | ((with_reducible refine gate_callee (f := 109) rfl ?_); refine goesL_ (some 10) rfl rfl Try.func109 (by kernel_rfl) rfl #[.slice Ao13 y141.length co13] rfl (by (try simp only [List.map_toArray, List.map_cons, List.map_nil]); first | done | rfl | (simp only [List.length_drop, List.length_take]; rfl)) ?_; (with_reducible refine (slices_Concat_byte.calls _ _ y141 t144 _ ?side1 ?side2 A5.out).mono ?_); (case side1 => repeat (first | exact (Kd.N_reads' HO143.out).2.2 | (with_reducible refine Kd.C_alloc ?_ _) | (with_reducible refine Kd.C_drewN ?_ _) | (with_reducible refine Kd.C_drew ?_))); (case side2 => exact (Kd.N_reads' HO143.out).2.1); rintro e w14 ⟨v145, rfl, ho0, hb⟩; refine ⟨_, rfl, ?_⟩; have n0_ := Aside0.mk (Kd.N_elder' (by (with_reducible repeat (first | apply Kd.N_alloc | apply Kd.N_drewN | apply Kd.N_drew)); exact HO143.out) (Kd.R_base ho0) hb); have n1_ := Aside0.mk (Kd.R_lower ho0 (below_size (by repeat (first | (with_reducible first | exact HB.out | apply below_alloc | apply pw_below_drewN | apply below_drew1) | exact HB.out)))); have n2_ := Aside0.mk (below_step (by repeat (first | (with_reducible first | exact HB.out | apply below_alloc | apply pw_below_drewN | apply below_drew1) | exact HB.out)) hb); clear HO143; clear HB; have HO143 := n0_; have HO146 := n1_; have HB := n2_; clear n0_ n1_ n2_; (try clear hb); (try clear hb2); (try clear hk); (try clear hi); (try clear ho0); obtain ⟨Ao15, co15, eo15⟩ := Kd.R_slice HO146.out; subst eo15) | ((with_reducible refine gate_callee (f := 18) rfl ?_); refine goesL_ (some 11) rfl rfl Try.func18 (by kernel_rfl) rfl #[.slice Ao15 t144.length co15] rfl (by (try simp only [List.map_toArray, List.map_cons, List.map_nil]); first | done | rfl | (simp only [List.length_drop, List.length_take]; rfl)) ?_; (with_reducible refine (sum_Hash.calls k _ _ t144 t147 _ ?side1 ?side2 A6.out).mono ?_); (case side1 => repeat (first | exact (Kd.R_reads' HO146.out).2.2 | (with_reducible refine Kd.C_alloc ?_ _) | (with_reducible refine Kd.C_drewN ?_ _) | (with_reducible refine Kd.C_drew ?_))); (case side2 => exact (Kd.R_reads' HO146.out).2.1); rintro e w' ⟨rfl, ⟨nd, rfl⟩⟩; refine ⟨_, rfl, ?_⟩))
  go_ret
  exact ⟨by first | rfl | (simp [errW_none, errW_some] <;> rfl) | (simp [*, errW_none, errW_some] <;> rfl), by repeat (first | (with_reducible first | exact HB.out | apply below_alloc | apply pw_below_drewN | apply below_drew1) | exact HB.out)⟩

-- import Derived.Test.YtdgkbpoljcndgaaSumTreePlain
open Go.Proofs.Ytdgkbpoljcndgaa.SumPlain
theorem pair_ev (a b : Nat) (ha : a < 18446744073709551616) (hb : b < 18446744073709551616) : Ev (fun k => sum_pair.f k (a : Int) (b : Int)) (pairOf a b) := by
  unfold sum_pair.f
  refine Ev.bind (Ev.of (g := fun k => sum_Number.f k (a : Int)) (fun k => sum_Number.mono _ k) (number_ev a)) (Ev.bind (Ev.of (g := fun k => sum_Number.f k (b : Int)) (fun k => sum_Number.mono _ k) (number_ev b)) ?_)
  refine Ev.congr (f := fun k => (sum_Hash.f k (numList a ++ numList b)).bind fun t => some t) (fun k => ?_) (Ev.bind (hash_ev _ (by simp [numList])) (Ev.congr (fun k => ?_) (Ev.now _)))
  · have : slices_Concat_byte.f [numList a, numList b] = some (numList a ++ numList b) := by
      unfold slices_Concat_byte.f totLen; simp [numList]
    rw [this]; rfl
  · unfold pairOf; simp
theorem pair_calls (a b : Int) (ha : U64 a) (hb : U64 b) (w : World) : Calls Try.prog 80 #[.int .u64 a, .int .u64 b] w fun e w' => e = .returned (.int .u64 (pairOf a b)) ∧ Below w.heap.size w w' := by
  obtain ⟨x, rfl⟩ := Int.eq_ofNat_of_zero_le ha.1
  obtain ⟨y, rfl⟩ := Int.eq_ofNat_of_zero_le hb.1
  obtain ⟨k, hk⟩ := (pair_ev x y (by have := ha.2; omega) (by have := hb.2; omega)).rounds
  exact sum_pair.calls k _ _ _ w hk


-- import Derived.Test.YtdgkbpoljcndgaaSumTreePlain
open Go.Proofs.Ytdgkbpoljcndgaa.SumPlain
theorem t_info23 : (Try.prog.info? 23).map (fun i => (i.zero, i.size, i.bytes)) = some (some (.int .u64 0), 1, 8) := by kernel_rfl
theorem t_info42 : (Try.prog.info? 42).map (fun i => (i.zero, i.size, i.bytes)) = some (some (.slice none 0 0), 1, 24) := by kernel_rfl
/-- all levels of the tree -/
def sum_levels.f (l0 : List Int) : Option (List (List Int)) := if l0.length ≤ 140737488351232 ∧ (∀ x ∈ l0, 0 ≤ x ∧ x ≤ 255) then some (levelsOf pairOf (leaves l0)) else none
set_option maxHeartbeats 4000000 in
set_option maxRecDepth 100000 in
theorem block_calls (A0 : Option Addr) (c0 : Nat) (l0 : List Int) (k : Nat) (w : World) (hr0 : Kd.C (Kd.int .u8) w A0 l0.length l0) (hc0 : l0.length ≤ c0) (hn : l0.length ≤ 140737488351232) (hk : 64 * k ≤ l0.length) :
    Calls Try.prog 111 #[.slice A0 l0.length c0, .int .i64 k] w fun e w' => ∃ A c, e = .returned (.slice A (blockAt l0 k).length c) ∧ Kd.C (Kd.int .u8) w A (blockAt l0 k).length (blockAt l0 k) ∧ (blockAt l0 k).length ≤ c ∧ w = w' := by
  obtain ⟨i5, hi5, hz0, hz1, hz2⟩ := info_parts info5
  have hl : (blockAt l0 k).length = min l0.length (64 * k + 64) - 64 * k := by rw [← blockAt_mid, List.length_drop, List.length_take]; omega
  obtain ⟨A1, hA1⟩ : ∃ A1, A1 = (if c0 = 64 * k then A0 else A0.map (·.add (64 * k * 1))) := ⟨_, rfl⟩
  obtain ⟨c1, hc1⟩ : ∃ c1, c1 = c0 - 64 * k := ⟨_, rfl⟩
  obtain ⟨m, hm0⟩ : ∃ m, m = (blockAt l0 k).length := ⟨_, rfl⟩
  have hm : Kd.C (Kd.int .u8) w A1 m (blockAt l0 k) := by
    have := Kd.C_mid (lo := 64 * k) (hi := min l0.length (64 * k + 64)) (c := c0) hr0 (by omega) (by omega) hc0
    rw [blockAt_mid] at this
    rw [hA1, hm0]; exact this
  have hm := Aside0.mk hm
  have hmc : m ≤ c1 := by omega
  rw [← hm0]
  by_cases hlt : 64 * k + 64 < l0.length
  · have hcut := cut_mid (P := Try.prog) 22 5 .i64 .i64 Try.underlying22 hi5 1 hz1 A0 l0.length c0 ((k : Int) * 64) ((k : Int) * 64 + 64) (by omega) (by omega) (by omega) hc0
    rw [show ((k : Int) * 64).toNat = 64 * k by omega, show ((k : Int) * 64 + 64).toNat = 64 * k + 64 by omega, show 64 * k + 64 - 64 * k = m by omega, ← hA1, ← hc1] at hcut
    have hd1 : decide ((k : Int) * 64 + 64 < (l0.length : Int)) = true := decide_eq_true (by omega)
    have hd2 : (k : Int) * 64 + 64 < (l0.length : Int) := by omega
    clear hl hA1 hc1 hm0
    go_enter Try.func111, Try.ntmps111
    go_wp2
    go_ret
    exact ⟨_, _, rfl, hm.out, hmc, rfl⟩
  · have hcut := cut_mid (P := Try.prog) 22 5 .i64 .i64 Try.underlying22 hi5 1 hz1 A0 l0.length c0 ((k : Int) * 64) (l0.length : Int) (by omega) (by omega) (by omega) hc0
    rw [show ((k : Int) * 64).toNat = 64 * k by omega, Int.toNat_natCast, show l0.length - 64 * k = m by omega, ← hA1, ← hc1] at hcut
    have hd1 : decide ((k : Int) * 64 + 64 < (l0.length : Int)) = false := decide_eq_false (by omega)
    have hd2 : ¬ (k : Int) * 64 + 64 < (l0.length : Int) := by omega
    clear hl hA1 hc1 hm0
    go_enter Try.func111, Try.ntmps111
    go_wp2
    go_ret
    exact ⟨_, _, rfl, hm.out, hmc, rfl⟩
def LvIn (wo : World) (L : List Int) (v6 i : Value) (wi' : World) : Prop := ∃ (q : Nat) (U : List Int), i = .int .i64 (q : Int) ∧ Aside0 (∃ j, q = 2 * j ∧ q ≤ L.length + 1 ∧ U = upOf pairOf (L.take (2 * j))) ∧ Aside0 (Kd.R (Kd.int .u64) 23 wi' wo.heap.size (fun _ => True) v6 U) ∧ Aside0 (Below wo.heap.size wo wi')
set_option maxHeartbeats 4000000 in
set_option maxRecDepth 100000 in
theorem levels_any (A0 : Option Addr) (c0 : Nat) (l0 : List Int) (w : World) (hr0 : Kd.C (Kd.int .u8) w A0 l0.length l0) (hc0 : l0.length ≤ c0) (hb : Bytes l0) (hn : l0.length ≤ 140737488351232) :
    Calls Try.prog 85 #[.slice A0 l0.length c0] w fun e w' => ∃ v, e = .returned v ∧ Kd.R (Kd.slice 23 (Kd.int .u64)) 42 w' w.heap.size (fun _ => True) v (levelsOf pairOf (leaves l0)) ∧ Below w.heap.size w w' := by
  have hN : 1 ≤ nBlocks l0 ∧ nBlocks l0 ≤ 2199023255552 ∧ 64 * nBlocks l0 < l0.length + 64 + 64 := by unfold nBlocks; omega
  obtain ⟨N, hNe⟩ : ∃ N, nBlocks l0 = N := ⟨_, rfl⟩
  rw [hNe] at hN
  have hbl := blocks_calls A0 c0 l0 w hr0 hc0 hn
  rw [hNe] at hbl
  have hNe := Aside0.mk hNe
  go_enter Try.func85, Try.ntmps85
  go_wp2_with (first | (go_at_call 37; refine hbl.mono ?_; rintro e w1 ⟨rfl, HB⟩))
  go_loopw [3, 10] (fun v i wr => ∃ k : Nat, k ≤ N ∧ i = .int .i64 k ∧ Aside0 (Kd.R (Kd.int .u64) 23 wr w.heap.size (fun _ => True) v ((leaves l0).take k)) ∧ Aside0 (Below w.heap.size w wr)) (fun _ i _ => N - (intOf i).toNat)
  case atStart => exact ⟨0, Nat.zero_le _, rfl, ⟨Kd.R_nil _ _ _ _ _⟩, ⟨HB⟩⟩
  case round =>
    clear HB
    obtain ⟨k, hk, rfl, HO, HB⟩ := hrel
    obtain ⟨U, hU⟩ : ∃ U, U = (leaves l0).take k := ⟨_, rfl⟩
    rw [← hU] at HO
    obtain ⟨Av, cv, hv⟩ := Kd.R_slice HO.out
    by_cases hlt : k < N
    · have hC := Aside0.mk (Kd.C_below hr0 HB.out)
      have HT := Aside0.mk (leaves_take l0 k (by rw [hNe.out]; exact hlt))
      have hT2 : U.length = k := by rw [hU, List.length_take, leaves_len, hNe.out]; omega
      have hroom : (U.length + 1) * 8 ≤ 140737488355328 := by omega
      have hk64 : 64 * k ≤ l0.length := by unfold nBlocks at hNe; have := hNe.out; omega
      have HU := Aside0.mk hU
      clear hU
      clear hT2
      subst hv
      go_wp2_with (first
        | (go_at_call 111; refine (block_calls A0 c0 l0 k _ hC.out hc0 hn hk64).mono ?_; rintro e w' ⟨A1, c1, rfl, hC1, hc1, rfl⟩; have hC1 := Aside0.mk hC1)
        | (go_at_call 18; refine (hash_calls A1 c1 (blockAt l0 k) _ hC1.out hc1 (by have := blockAt_len l0 k; omega)).mono ?_; rintro e w' ⟨rfl, ⟨nd, rfl⟩⟩)
        | (refine Kd.R_append (Kd.int .u64) w.heap.size rfl (.tmp 13) (.tmp 18) 42 23 (.int .u64 0) 8 rfl Try.underlying42 t_info23 rfl (by decide) (by decide) _ _ (hashOf (blockAt l0 k)) [.int .u64 (hashOf (blockAt l0 k))] (fun _ => True) (fun _ => False) rfl rfl rfl (fun _ h => h.elim) (fun _ _ => trivial) (Kd.R_drewN HO.out nd) (pw_below_drewN HB.out nd) HB.out.size hroom ?_; intro v1 w2 HO2 HB2 hg hat))
      go_roundw
      case rel => exact ⟨k + 1, by omega, by go_num, ⟨by have := HT.out; have h2 := HU.out; unfold leaves at h2 ⊢; rw [this, ← h2]; exact HO2⟩, ⟨HB2⟩⟩
      case measure => simp [intOf]; omega
    · obtain rfl : N = k := by omega
      have hUL : U = leaves l0 := by rw [hU, List.take_of_length_le (by rw [leaves_len, hNe.out]; omega)]
      have hlenU : U.length = N := by rw [hUL, leaves_len, hNe.out]
      have hu64 : ∀ x ∈ U, U64 x := by
        rw [hUL]; intro x hx; obtain ⟨i, _, rfl⟩ := List.mem_map.1 hx; exact hash_u64 _
      replace hUL := Aside0.mk hUL
      replace hlenU := Aside0.mk hlenU
      replace hu64 := Aside0.mk hu64
      clear hU
      subst hv
      go_wp2_with (first
        | (refine Kd.R_lit (Kd.slice 23 (Kd.int .u64)) w.heap.size 42 ?hg (N := 22) ?hd (xs := [U]) (inner := [.slice Av U.length cv]) (ok := fun _ => True) (okp := fun _ => True) ?hr ?hp (fun _ hk => hk) trivial HB.out HB.out.size (by simp) ?_; (case hd => rfl); (case hg => rfl); (case hr => first | (go_simp; done) | (go_simp; rfl)); (case hp => exact (Reps.one (show Kd.M (Kd.slice 23 (Kd.int .u64)) _ _ _ U [.slice Av U.length cv] from ⟨_, rfl, HO.out⟩) (Reps.none _ _))); intro v5 w2 HO5 HB2 hg2 hnew))
      have hC3 := Kd.C_below (Kd.R_reads' HO.out).2.2 ((Below.refl _ _).grown hg2 (Nat.le_refl _) (fun j hj => by cases hj))
      have hle3 := (Kd.R_reads' HO.out).2.1
      clear HO HB hg2 hnew
      go_loopw [3, 5] (fun v3 v5 wr => ∃ (L : List Int) (Ls : List (List Int)) (A : Option Addr) (c : Nat), v3 = .slice A L.length c ∧ Aside0 (L.length ≤ c ∧ 1 ≤ L.length ∧ Ls.length + L.length ≤ N + 1 ∧ 1 ≤ Ls.length ∧ (∀ x ∈ L, U64 x) ∧ Ls ++ (levelsOf pairOf L).tail = levelsOf pairOf (leaves l0)) ∧ Aside0 (Kd.C (Kd.int .u64) wr A L.length L) ∧ Aside0 (Kd.R (Kd.slice 23 (Kd.int .u64)) 42 wr w.heap.size (fun _ => True) v5 Ls) ∧ Aside0 (Below w.heap.size w wr)) (fun v3 _ _ => sliceLen v3)
      case atStart =>
        refine ⟨U, [U], Av, cv, rfl, ⟨hle3, by have := hlenU.out; omega, by have := hlenU.out; simp; omega, by simp, hu64.out, ?_⟩, ⟨hC3⟩, ⟨HO5⟩, ⟨HB2⟩⟩
        rw [hUL.out]
        by_cases h1 : (leaves l0).length ≤ 1
        · rw [levelsOf_stop _ _ h1]; rfl
        · rw [levelsOf_go _ _ h1]; rfl
      case round =>
        clear HO5 HB2 hC3 hle3 hu64 hUL hlenU
        obtain ⟨L, Ls, A3, c3, rfl, HL, HC3, HO5, HB⟩ := hrel
        obtain ⟨wo, rfl⟩ : ∃ wo : World, wo = wr := ⟨_, rfl⟩
        have hmaxL : L.length ≤ 2199023255553 := by have := HL.out; omega
        obtain ⟨A5, c5, hv5⟩ := Kd.R_slice HO5.out
        subst hv5
        by_cases hgt : 1 < L.length
        · have hgt1 : decide ((1 : Int) < (L.length : Int)) = true := decide_eq_true (by omega)
          go_wp2_with fail
          go_loopw [6, 7] (LvIn wo L) (fun _ i _ => L.length + 2 - (intOf i).toNat)
          case atStart => exact ⟨0, [], rfl, ⟨0, rfl, by omega, rfl⟩, ⟨Kd.R_nil _ _ _ _ _⟩, ⟨Below.refl _ _⟩⟩
          case round =>
            obtain ⟨q, U, rfl, HU, HO6, HB6⟩ := hrel
            obtain ⟨A6, c6, hv6⟩ := Kd.R_slice HO6.out
            have hroom : (U.length + 1) * 8 ≤ 140737488355328 := by
              obtain ⟨j, hq, hj, hU⟩ := HU.out
              have := upOf_length pairOf (L.take (2 * j))
              rw [← hU, List.length_take] at this
              have := HL.out; omega
            subst hv6
            by_cases hlt : q < L.length
            · obtain ⟨ad, hA3, hc0o⟩ := Kd.at_int HC3.out (q : Int) (by omega) (by omega)
              subst hA3
              rw [rd_nat, Int.toNat_natCast] at hc0o
              obtain ⟨x, hx⟩ : ∃ x, x = L.getD q 0 := ⟨_, rfl⟩
              rw [← hx] at hc0o
              have hc0 := pw_cell_below HB6.out hc0o
              replace hc0o := Aside0.mk hc0o
              have hx0 : U64 x := HL.out.2.2.2.2.1 _ (by rw [hx, List.getD_eq_getElem?_getD, List.getElem?_eq_getElem hlt]; exact List.getElem_mem hlt)
              replace hx := Aside0.mk hx
              have hltb : decide (q < L.length) = true := decide_eq_true hlt
              by_cases hlt2 : q + 1 < L.length
              · obtain ⟨ad2, hA4, hc1o⟩ := Kd.at_int HC3.out ((q + 1 : Nat) : Int) (by omega) (by omega)
                obtain rfl := Option.some.inj hA4
                rw [rd_nat, Int.toNat_natCast] at hc1o
                obtain ⟨y, hy⟩ : ∃ y, y = L.getD (q + 1) 0 := ⟨_, rfl⟩
                rw [← hy] at hc1o
                simp [Addr.add] at hc1o
                have hc1 := pw_cell_below HB6.out hc1o
                replace hc1o := Aside0.mk hc1o
                have hy0 : U64 y := HL.out.2.2.2.2.1 _ (by rw [hy, List.getD_eq_getElem?_getD, List.getElem?_eq_getElem hlt2]; exact List.getElem_mem hlt2)
                replace hy := Aside0.mk hy
                have hlt2b : decide ((q : Int) + 1 < (L.length : Int)) = true := decide_eq_true (by omega)
                have hlt2i : (q : Int) + 1 < (L.length : Int) := by omega
                have hlti : (q : Int) < (L.length : Int) := by omega
                have hz0 : (0 : Int) ≤ (q : Int) := by omega
                have hz1 : (0 : Int) ≤ (q : Int) + 1 := by omega
                have hz2 : IntKind.i64.wrap ((q : Int) + 1) = (q : Int) + 1 := by rw [IntKind.wrap_i64]; omega
                have hz3 : ((q : Int) + 1).toNat = q + 1 := by omega
                go_wp2_with fail
                go_region_held3 (fun w' => w'.cell? (ad.add q) = some (.int .u64 x) ∧ w'.cell? ⟨ad.block, ad.off + (q + 1), none⟩ = some (.int .u64 y)) (first | go_keep | exact ⟨pw_cell_below HB7 hc0o.out, pw_cell_below HB7 hc1o.out⟩ | exact ⟨pw_cell_below hb3 (by assumption), pw_cell_below hb3 (by assumption)⟩)
                  (first | (go_at_call 80; refine (pair_calls x y hx0 hy0 _).mono ?_; rintro e w3 ⟨rfl, hb3⟩) | (refine Kd.R_append_step (Kd.int .u64) wo.heap.size (by rfl) (.tmp 37) (.tmp 48) 42 23 (.int .u64 0) 8 rfl Try.underlying42 t_info23 rfl (by decide) (by decide) (.slice A6 U.length c6) U (pairOf x y) [.int .u64 (pairOf x y)] (fun _ => True) (fun _ => False) (by rfl) (by rfl) rfl (fun _ h => h.elim) (fun _ _ => trivial) (Kd.R_below (Kd.R_drew HO6.out) hb3) (below_step (below_drew HB6.out) hb3) (below_step (below_drew HB6.out) hb3).size hroom ?_; intro v7 w4 HO7 HB7 hg7 hat7))
                go_wp2
                go_roundw
                case rel =>
                  obtain ⟨j, hq, hj, hU⟩ := HU.out
                  have hr : Aside0 (∃ j, q + 2 = 2 * j ∧ q + 2 ≤ L.length + 1 ∧ U ++ [pairOf x y] = upOf pairOf (L.take (2 * j))) := ⟨j + 1, by omega, by omega, by rw [up_two pairOf 0 L j (by omega), ← hU, ← hq, ← hx.out, ← hy.out]⟩
                  exact ⟨q + 2, U ++ [pairOf x y], by go_num, hr, ⟨HO7⟩, ⟨HB7⟩⟩
                case measure => simp [intOf]; omega
              · have hlt2b : decide ((q : Int) + 1 < (L.length : Int)) = false := decide_eq_false (by omega)
                have hlt2i : ¬ (q : Int) + 1 < (L.length : Int) := by omega
                have hlti : (q : Int) < (L.length : Int) := by omega
                go_wp2_with (first | (refine Kd.R_append (Kd.int .u64) wo.heap.size rfl (.tmp 50) (.tmp 55) 42 23 (.int .u64 0) 8 rfl Try.underlying42 t_info23 rfl (by decide) (by decide) (.slice A6 U.length c6) U x [.int .u64 x] (fun _ => True) (fun _ => False) rfl rfl rfl (fun _ h => h.elim) (fun _ _ => trivial) HO6.out HB6.out HB6.out.size hroom ?_; intro v7 w4 HO7 HB7 hg7 hat7))
                go_roundw
                case rel =>
                  obtain ⟨j, hq, hj, hU⟩ := HU.out
                  exact ⟨q + 2, U ++ [x], by go_num, ⟨j + 1, by omega, by omega, by rw [up_one pairOf 0 L j (by omega), ← hU, ← hq, ← hx.out]⟩, ⟨HO7⟩, ⟨HB7⟩⟩
                case measure => simp [intOf]; omega
            · have hltb : decide (q < L.length) = false := decide_eq_false hlt
              obtain ⟨j, hq, hj, hUe⟩ := HU.out
              have hUf : U = upOf pairOf L := by rw [hUe, List.take_of_length_le (by omega)]
              have hUlen : U.length = (L.length + 1) / 2 := by rw [hUf, upOf_length]
              have hM : Kd.R (Kd.int .u64) 23 wr w.heap.size (fun k => wo.heap.size ≤ k) (.slice A6 U.length c6) U := Kd.R_lower (Kd.R_mono (Kd.R_bound HO6.out) (fun k hk => hk.2.1)) HB.out.size
              have h5lt := Kd.R_lt HO5.out
              have hHL := HL.out
              have hroom5 : (Ls.length + 1) * 24 ≤ 140737488355328 := by omega
              have hnew : ∀ k, wo.heap.size ≤ k → some k ≠ (Value.slice A5 Ls.length c5).ownBlock := fun k hk he => by have := h5lt k he.symm; omega
              replace hM := Aside0.mk hM
              replace h5lt := Aside0.mk h5lt
              replace hHL := Aside0.mk hHL
              replace hUf := Aside0.mk hUf
              replace hUlen := Aside0.mk hUlen
              replace hnew := Aside0.mk hnew
              clear hUe hq hj
              go_wp2_with (first | (refine Kd.R_append (Kd.slice 23 (Kd.int .u64)) w.heap.size rfl (.tmp 57) (.tmp 59) 54 42 (.slice none 0 0) 24 rfl Try.underlying54 t_info42 rfl (by decide) (by decide) (.slice A5 Ls.length c5) Ls U [.slice A6 U.length c6] (fun _ => True) (fun k => wo.heap.size ≤ k) rfl rfl ⟨_, rfl, hM.out⟩ (fun k hk => ⟨trivial, hnew.out k hk⟩) (fun _ _ => trivial) (Kd.R_below HO5.out HB6.out) (below_step HB.out HB6.out) (below_step HB.out HB6.out).size hroom5 ?_; intro v9 w9 HO9 HB9 hg9 hat9))
              have hC9 := (Kd.R_reads' (Kd.R_grown hM.out hg9 (fun k hk => hnew.out k hk))).2
              go_roundw
              case rel =>
                refine ⟨U, Ls ++ [U], A6, c6, rfl, ⟨hC9.1, ?_, ?_, ?_, ?_, ?_⟩, ⟨hC9.2⟩, ⟨HO9⟩, ⟨HB9⟩⟩
                · have := hUlen.out; omega
                · have := hUlen.out; have := hHL.out; simp; omega
                · simp
                · rw [hUf.out]; exact upOf_all pairOf (fun a b => hash_u64 _) L hHL.out.2.2.2.2.1
                · have h := hHL.out.2.2.2.2.2
                  rw [levelsOf_go pairOf L (by omega), List.tail_cons, ← hUf.out] at h
                  rw [List.append_assoc, List.singleton_append, ← levelsOf_head]; exact h
              case measure => simp [sliceLen]; have := hUlen.out; omega
        · have hgt1 : decide (1 < L.length) = false := decide_eq_false hgt
          go_wp2
          go_ret
          refine ⟨_, rfl, ?_, HB.out⟩
          have h := HL.out.2.2.2.2.2
          rw [levelsOf_stop _ _ (by omega)] at h
          simp at h
          rw [← h]; exact HO5.out
theorem sum_levels.calls (A0 : Option Addr) (c0 : Nat) (l0 : List Int) (r : List (List Int)) (w : World) (hr0 : Kd.C (Kd.int .u8) w A0 l0.length l0) (hc0 : l0.length ≤ c0) (h : sum_levels.f l0 = some r) :
    Calls Try.prog 85 #[.slice A0 l0.length c0] w fun e w' => ∃ v0_ : Value, e = .returned (v0_) ∧ Kd.R (Kd.slice 23 (Kd.int .u64)) 42 w' w.heap.size (fun _ => True) v0_ r ∧ Below w.heap.size w w' := by
  unfold sum_levels.f at h
  split at h
  · rename_i hh
    obtain rfl := Option.some.inj h
    exact levels_any A0 c0 l0 w hr0 hc0 hh.2 hh.1
  · exact absurd h (by simp)


end Go.Proofs.Ytdgkbpoljcndgaa.QSumTrees
