/- Written by a program of this session (wip/mprint): the walk of the Go code, function by function, for every input; no condition. -/
import Derived.Test.YtdgkbpoljcndgaaQPassRunsx0
namespace Go.Proofs.Ytdgkbpoljcndgaa.QPassRuns
open Go.RowKit Go.Proofs.YtdgkbpoljcndgaaW.PrintWords Go.Proofs.YtdgkbpoljcndgaaW.PrintLast Go.Proofs.YtdgkbpoljcndgaaW.PrintMore
attribute [local go_sem] max2_int min2_int max_two min_two max_three min_three max_four min_four   -- for this text's walks alone
set_option linter.unusedVariables false
set_option linter.unusedSimpArgs false

/-! ### wrackref1_Needs: function 33 -/
def wrackref1_Needs.l0 : Nat → Int → List (S121) → Int → Int → Option (Int × Int)
  | 0, _, _, _, _ => none
  | k + 1, x1, x9, x10, x11 => if x11 < x10 then (if 0 ≤ x11 then (if x11 < (x9.length : Int) then (if ((rd_T121 x9 x11).f0) = x1 then ((some (([0, 0, (rd_T121 x9 x11).f2, 1] : List Int) : List Int)).bind fun y147 => (if 0 ≤ ((rd_T121 x9 x11).f1) then (if ((rd_T121 x9 x11).f1) < (y147.length : Int) then ((some (([0, 1, 1, (rd_T121 x9 x11).f2] : List Int) : List Int)).bind fun y151 => (if ((rd_T121 x9 x11).f1) < (y151.length : Int) then (some (rd y147 ((rd_T121 x9 x11).f1), rd y151 ((rd_T121 x9 x11).f1))) else (none))) else (none)) else (none))) else (wrackref1_Needs.l0 k x1 x9 x10 (wrap64 (x11 + 1)))) else (none)) else (none)) else (some (1, 1))
def wrackref1_Needs.f (k : Nat) (l0_0 : List Int) (l0_1 : List (S121)) (a1 : Int) : Option (Int × Int) := wrackref1_Needs.l0 k a1 l0_1 (l0_1.length : Int) 0
theorem wrackref1_Needs.mono_l : ∀ k, (∀ y0 y1 y2 y3, LeO (wrackref1_Needs.l0 k y0 y1 y2 y3) (wrackref1_Needs.l0 (k + 1) y0 y1 y2 y3))
  | 0 => fun _ _ _ _ r h => by simp [wrackref1_Needs.l0] at h
  | k + 1 => by
    have ih0 := wrackref1_Needs.mono_l k
    · intro y0 y1 y2 y3
      unfold wrackref1_Needs.l0
      repeat' first
      | (with_reducible exact ih0 _ _ _ _)
      | (with_reducible exact LeO.refl _)
      | (with_reducible exact LeO.none _)
      | (with_reducible refine LeO.ite ?_ ?_)
      | (with_reducible refine LeO.bind ?_ (fun _ => ?_))
      | exact ih0 _ _ _ _
      | exact LeO.none _
      | refine LeO.ite ?_ ?_
      | refine LeO.bind ?_ (fun _ => ?_)
theorem wrackref1_Needs.mono : ∀ a0 a1 a2 k, LeO (wrackref1_Needs.f k a0 a1 a2) (wrackref1_Needs.f (k + 1) a0 a1 a2) := by
  intro a0 a1 a2 k
  have ih0 := wrackref1_Needs.mono_l k
  unfold wrackref1_Needs.f
  repeat' first
      | (with_reducible exact ih0 _ _ _ _)
      | (with_reducible exact LeO.refl _)
      | (with_reducible exact LeO.none _)
      | (with_reducible refine LeO.ite ?_ ?_)
      | (with_reducible refine LeO.bind ?_ (fun _ => ?_))
      | exact ih0 _ _ _ _
      | exact LeO.none _
      | refine LeO.ite ?_ ?_
      | refine LeO.bind ?_ (fun _ => ?_)
def wrackref1_Needs.T5 : Bool × List (List Nat × List Nat) := (true, [([], []), ([0], [0]), ([1], [1]), ([], []), ([3], [3]), ([2, 4], [2, 4]), ([5], [5]), ([], []), ([7], [7]), ([8], [8]), ([], []), ([10], [10]), ([9, 11], [9, 11]), ([12], [12]), ([6, 0, 1, 2, 3, 4, 5, 6], [6]), ([13, 14, 0, 1, 2, 3, 4, 5, 6, 7, 8, 9, 10, 11, 12, 13, 14], [13])])
def wrackref1_Needs.B5 : List Nat := [0, 1, 3, 0, 8, 31, 63, 0, 128, 384, 0, 1024, 3968, 8064, 127, 32767]
theorem wrackref1_Needs.tab5 : rtab .any (opsOf Try.f33 5) = wrackref1_Needs.T5 := by kernel_rfl
theorem wrackref1_Needs.bits5 : waitsOk wrackref1_Needs.T5.2 wrackref1_Needs.B5 = true := by kernel_rfl
set_option maxHeartbeats 8000000 in
set_option maxRecDepth 100000 in
theorem wrackref1_Needs.calls (k : Nat) (A0_0 : Option Addr) (c0_0 : Nat) (l0_0 : List Int) (A0_1 : Option Addr) (c0_1 : Nat) (l0_1 : List (S121)) (a1 : Int) (r1 : Int) (r2 : Int) (w : World) (hr0_0 : Kd.C (Kd.int .u8) w A0_0 l0_0.length l0_0) (hc0_0 : l0_0.length ≤ c0_0) (hr0_1 : Kd.C k121 w A0_1 l0_1.length l0_1) (hc0_1 : l0_1.length ≤ c0_1) (h : wrackref1_Needs.f k l0_0 l0_1 a1 = some (r1, r2)) :
    Calls Try.prog 33 #[.agg #[.slice A0_0 l0_0.length c0_0, .slice A0_1 l0_1.length c0_1], .int .i64 a1] w fun e w' => e = .returned (.tuple #[.int .i64 r1, .int .i64 r2]) ∧ Below w.heap.size w w' := by
  have hu46 := Try.underlying46
  have hu121 := Try.underlying121
  have HR0_0 := Aside0.mk hr0_0
  have HC0_0 := Aside0.mk hc0_0
  clear hr0_0 hc0_0
  have HR0_1 := Aside0.mk hr0_1
  have HC0_1 := Aside0.mk hc0_1
  clear hr0_1 hc0_1
  have HB := Aside0.mk (Below.refl w.heap.size w)
  have H : (wrackref1_Needs.l0 k a1 l0_1 (l0_1.length : Int) 0) = some (r1, r2) := h
  clear h
  have H' := Aside0.mk H
  clear H
  go_enter Try.func33, Try.ntmps33
  go_wp2_with (first | ((with_reducible refine gate_dst (N := 2) rfl ?_); refine box_event ?hg (N := 2) ?hd (cs := #[.slice A0_0 l0_0.length c0_0, .slice A0_1 l0_1.length c0_1]) (t := 46) ?hr ?_; (case hd => rfl); (case hg => rfl); (case hr => first | (go_simp; done) | (go_simp; rfl)); intro gb144 hg w3 hbox hb; have n0_ := Aside0.mk (below_step (by repeat (first | (with_reducible first | exact HB.out | apply below_alloc | apply pw_below_drewN | apply below_drew1) | exact HB.out)) hb); have n1_ := Aside0.mk (hbox); have n2_ := Aside0.mk ((by rw [hg]; exact (below_size (by repeat (first | (with_reducible first | exact HB.out | apply below_alloc | apply pw_below_drewN | apply below_drew1) | exact HB.out))) : w.heap.size ≤ gb144)); have n3_ := Aside0.mk ((by rw [hg]; exact (below_size (by repeat (first | (with_reducible first | exact HB.out | apply below_alloc | apply pw_below_drewN | apply below_drew1) | exact HB.out))) : w.heap.size ≤ gb144)); clear HB; have HB := n0_; have BK144 := n1_; have GW144 := n2_; have GE144 := n3_; clear n0_ n1_ n2_ n3_; clear hb hbox hg; have hcz4_0 : w3.cell? ⟨gb144, 0, none⟩ = some (.slice A0_0 l0_0.length c0_0) := (blk_cell BK144.out 0).trans rfl; have hcz4_1 : w3.cell? ⟨gb144, 1, none⟩ = some (.slice A0_1 l0_1.length c0_1) := (blk_cell BK144.out 1).trans rfl; have hfz4_0 := blk_frozen BK144.out 0; have hfz4_1 := blk_frozen BK144.out 1))
  go_loopg [11] k (fun kq v11 w' => ∃ (x11_1 : Int), v11 = .int .i64 x11_1 ∧ Aside0 (wrackref1_Needs.l0 kq a1 l0_1 (l0_1.length : Int) x11_1 = some (r1, r2)) ∧ Aside0 (kq ≤ k) ∧ Aside0 (w'.heap[gb144]? = some (.cells #[(.slice A0_0 l0_0.length c0_0), (.slice A0_1 l0_1.length c0_1)] 46 (0, 0))) ∧ Aside0 (Below w.heap.size w w'))
  case atStart => exact ⟨(0), (by first | rfl | (simp; done) | (simp [*]; done)), H', ⟨Nat.le_refl _⟩, ⟨by (with_reducible repeat (first | refine blk_drewN ?_ _ | refine blk_drew ?_ | refine blk_alloc ?_ _)); exact BK144.out⟩, ⟨by repeat (first | (with_reducible first | exact HB.out | apply below_alloc | apply pw_below_drewN | apply below_drew1 | refine below_set ?_ GE144.out) | exact HB.out)⟩⟩
  case round =>
    clear H'
    try clear p2
    try clear c3
    try clear hcz4_0
    try clear hcz4_1
    try clear hfz4_0
    try clear hfz4_1
    obtain ⟨x11_1, rfl, HA, HK1, BK144, HB⟩ := hrel
    cases gk with
    | zero => exact absurd HA.out (by simp [wrackref1_Needs.l0])
    | succ k1 =>
      have H := HA.out
      clear HA
      simp only [wrackref1_Needs.l0] at H
      by_cases c5 : x11_1 < (l0_1.length : Int)
      · rw [if_pos c5] at H
        have c5b0 : decide (x11_1 < (l0_1.length : Int)) = true := decide_eq_true c5
        clear c5
        by_cases c6 : 0 ≤ x11_1
        · rw [if_pos c6] at H
          have c6b0 : decide (0 ≤ x11_1) = true := decide_eq_true c6
          clear c6
          by_cases c7 : x11_1 < (l0_1.length : Int)
          · rw [if_pos c7] at H
            have c7b0 : decide (x11_1 < (l0_1.length : Int)) = true := decide_eq_true c7
            clear c7
            by_cases c8 : ((rd_T121 l0_1 x11_1).f0) = a1
            · rw [if_pos c8] at H
              have c8b0 : (((rd_T121 l0_1 x11_1).f0) == a1) = true := beq_iff_eq.mpr c8
              have c8b1 : (((rd_T121 l0_1 x11_1).f0) != a1) = false := bne_eq_false_iff_eq.mpr c8
              clear c8
              obtain ⟨y147, hy147⟩ : ∃ y_ : List Int, y_ = (([0, 0, (rd_T121 l0_1 x11_1).f2, 1] : List Int)) := ⟨_, rfl⟩
              replace H : (if 0 ≤ ((rd_T121 l0_1 x11_1).f1) then (if ((rd_T121 l0_1 x11_1).f1) < (y147.length : Int) then ((some (([0, 1, 1, (rd_T121 l0_1 x11_1).f2] : List Int) : List Int)).bind fun y151 => (if ((rd_T121 l0_1 x11_1).f1) < (y151.length : Int) then (some (rd y147 ((rd_T121 l0_1 x11_1).f1), rd y151 ((rd_T121 l0_1 x11_1).f1))) else (none))) else (none)) else (none)) = some (r1, r2) := by first | (rw [hy147]; with_reducible exact H) | (have H2_ := (Option.bind_some _ _).symm.trans H; rw [hy147]; with_reducible exact H2_) | (have H2_ := (Option.bind_some _ _).symm.trans H; with_reducible exact H2_) | with_reducible exact H | (rw [hy147]; exact H) | exact H
              have Ny147 := Aside0.mk hy147
              clear hy147
              by_cases c9 : 0 ≤ ((rd_T121 l0_1 x11_1).f1)
              · rw [if_pos c9] at H
                have c9b0 : decide (0 ≤ ((rd_T121 l0_1 x11_1).f1)) = true := decide_eq_true c9
                clear c9
                by_cases c10 : ((rd_T121 l0_1 x11_1).f1) < (y147.length : Int)
                · rw [if_pos c10] at H
                  have c10b0 : decide (((rd_T121 l0_1 x11_1).f1) < (y147.length : Int)) = true := decide_eq_true c10
                  clear c10
                  obtain ⟨y151, hy151⟩ : ∃ y_ : List Int, y_ = (([0, 1, 1, (rd_T121 l0_1 x11_1).f2] : List Int)) := ⟨_, rfl⟩
                  replace H : (if ((rd_T121 l0_1 x11_1).f1) < (y151.length : Int) then (some (rd y147 ((rd_T121 l0_1 x11_1).f1), rd y151 ((rd_T121 l0_1 x11_1).f1))) else (none)) = some (r1, r2) := by first | (rw [hy151]; with_reducible exact H) | (have H2_ := (Option.bind_some _ _).symm.trans H; rw [hy151]; with_reducible exact H2_) | (have H2_ := (Option.bind_some _ _).symm.trans H; with_reducible exact H2_) | with_reducible exact H | (rw [hy151]; exact H) | exact H
                  have Ny151 := Aside0.mk hy151
                  clear hy151
                  by_cases c11 : ((rd_T121 l0_1 x11_1).f1) < (y151.length : Int)
                  · rw [if_pos c11] at H
                    have c11b0 : decide (((rd_T121 l0_1 x11_1).f1) < (y151.length : Int)) = true := decide_eq_true c11
                    clear c11
                    simp only [Option.some.injEq, Prod.mk.injEq] at H
                    obtain ⟨rfl, rfl⟩ := H
                    have p145 : 0 ≤ (x11_1 : Int) := of_decide_eq_true (by first | (with_reducible assumption) | assumption)
                    have q145 : x11_1 < (l0_1.length : Int) := of_decide_eq_true (by first | (with_reducible assumption) | assumption)
                    obtain ⟨ad145, e145, hx145_0, hx145_1, hx145_2⟩ := at_T121 HR0_1.out x11_1 p145 q145
                    cases e145
                    replace hx145_0 := (HB.out.cell (World.block_lt_of_cell? w _ hx145_0)).trans hx145_0
                    replace hx145_1 := (HB.out.cell (World.block_lt_of_cell? w _ hx145_1)).trans hx145_1
                    replace hx145_2 := (HB.out.cell (World.block_lt_of_cell? w _ hx145_2)).trans hx145_2
                    replace p145 := eq_true p145
                    replace q145 := eq_true q145
                    try go_wp2_with (first | ((with_reducible refine gate_dst (N := 7) rfl ?_); refine box_event ?hg (N := 7) ?hd (cs := #[.int .i64 0, .int .i64 0, .int .i64 0]) (t := 121) ?hr ?_; (case hd => rfl); (case hg => rfl); (case hr => first | (go_simp; done) | (go_simp; rfl)); intro gb146 hg w12 hbox hb; have n0_ := Aside0.mk (blk_below (g := gb144) (o := .cells #[.slice A0_0 l0_0.length c0_0, .slice (some ad145) l0_1.length c0_1] 46 (0, 0)) (by (with_reducible repeat (first | refine blk_drewN ?_ _ | refine blk_drew ?_ | refine blk_alloc ?_ _)); exact BK144.out) hb); have n1_ := Aside0.mk (below_step (by repeat (first | (with_reducible first | exact HB.out | apply below_alloc | apply pw_below_drewN | apply below_drew1 | refine below_set ?_ GE144.out) | exact HB.out)) hb); have n2_ := Aside0.mk (hbox); have n3_ := Aside0.mk ((by rw [hg]; exact (below_size (by repeat (first | (with_reducible first | exact HB.out | apply below_alloc | apply pw_below_drewN | apply below_drew1 | refine below_set ?_ GE144.out) | exact HB.out))) : w.heap.size ≤ gb146)); have n4_ := Aside0.mk ((by rw [hg]; exact (below_size (by repeat (first | (with_reducible first | exact HB.out | apply below_alloc | apply pw_below_drewN | apply below_drew1 | refine below_set ?_ GE144.out) | exact HB.out))) : w.heap.size ≤ gb146)); have n5_ := Aside0.mk ((by rw [hg]; exact Nat.ne_of_lt (blk_lt (g := gb144) (o := .cells #[.slice A0_0 l0_0.length c0_0, .slice (some ad145) l0_1.length c0_1] 46 (0, 0)) (by (with_reducible repeat (first | refine blk_drewN ?_ _ | refine blk_drew ?_ | refine blk_alloc ?_ _)); exact BK144.out)) : gb144 ≠ gb146)); have n6_ := Aside0.mk ((by rw [hg]; exact Nat.ne_of_gt (blk_lt (g := gb144) (o := .cells #[.slice A0_0 l0_0.length c0_0, .slice (some ad145) l0_1.length c0_1] 46 (0, 0)) (by (with_reducible repeat (first | refine blk_drewN ?_ _ | refine blk_drew ?_ | refine blk_alloc ?_ _)); exact BK144.out)) : gb146 ≠ gb144)); clear BK144; clear HB; have BK144 := n0_; have HB := n1_; have BK146 := n2_; have GW146 := n3_; have GE146 := n4_; have NB144_146 := n5_; have NB146_144 := n6_; clear n0_ n1_ n2_ n3_ n4_ n5_ n6_; clear hb hbox hg; have hnb13 := NB146_144.out; have hnc13 := NB144_146.out; have hcz14_0 : w12.cell? ⟨gb146, 0, none⟩ = some (.int .i64 0) := (blk_cell BK146.out 0).trans rfl; have hcz14_1 : w12.cell? ⟨gb146, 1, none⟩ = some (.int .i64 0) := (blk_cell BK146.out 1).trans rfl; have hcz14_2 : w12.cell? ⟨gb146, 2, none⟩ = some (.int .i64 0) := (blk_cell BK146.out 2).trans rfl; have hfz14_0 := blk_frozen BK146.out 0; have hfz14_1 := blk_frozen BK146.out 1; have hfz14_2 := blk_frozen BK146.out 2))
                    have pi150 : (0 ≤ (((rd_T121 l0_1 x11_1).f1) : Int)) = True := eq_true (of_decide_eq_true (by first | (with_reducible assumption) | assumption))
                    have qi150 : (((rd_T121 l0_1 x11_1).f1) < (y147.length : Int)) = True := eq_true (of_decide_eq_true (by first | (with_reducible assumption) | assumption))
                    have pi154 : (0 ≤ (((rd_T121 l0_1 x11_1).f1) : Int)) = True := eq_true (of_decide_eq_true (by first | (with_reducible assumption) | assumption))
                    have qi154 : (((rd_T121 l0_1 x11_1).f1) < (y151.length : Int)) = True := eq_true (of_decide_eq_true (by first | (with_reducible assumption) | assumption))
                    have n0_ : Aside0 ((((w12.setCell ⟨gb146, 0, none⟩ (.int .i64 ((rd_T121 l0_1 x11_1).f0))).setCell ⟨gb146, 1, none⟩ (.int .i64 ((rd_T121 l0_1 x11_1).f1))).setCell ⟨gb146, 2, none⟩ (.int .i64 ((rd_T121 l0_1 x11_1).f2))).heap[gb144]? = some (.cells #[.slice A0_0 l0_0.length c0_0, .slice (some ad145) l0_1.length c0_1] 46 (0, 0))) := ⟨by (with_reducible repeat (first | refine blk_drewN ?_ _ | refine blk_drew ?_ | refine blk_alloc ?_ _)); refine blk_far ?_ NB144_146.out _; (with_reducible repeat (first | refine blk_drewN ?_ _ | refine blk_drew ?_ | refine blk_alloc ?_ _)); refine blk_far ?_ NB144_146.out _; (with_reducible repeat (first | refine blk_drewN ?_ _ | refine blk_drew ?_ | refine blk_alloc ?_ _)); refine blk_far ?_ NB144_146.out _; (with_reducible repeat (first | refine blk_drewN ?_ _ | refine blk_drew ?_ | refine blk_alloc ?_ _)); exact BK144.out⟩
                    have n1_ : Aside0 ((((w12.setCell ⟨gb146, 0, none⟩ (.int .i64 ((rd_T121 l0_1 x11_1).f0))).setCell ⟨gb146, 1, none⟩ (.int .i64 ((rd_T121 l0_1 x11_1).f1))).setCell ⟨gb146, 2, none⟩ (.int .i64 ((rd_T121 l0_1 x11_1).f2))).heap[gb146]? = some (.cells #[.int .i64 ((rd_T121 l0_1 x11_1).f0), .int .i64 ((rd_T121 l0_1 x11_1).f1), .int .i64 ((rd_T121 l0_1 x11_1).f2)] 121 (0, 0))) := ⟨by (with_reducible repeat (first | refine blk_drewN ?_ _ | refine blk_drew ?_ | refine blk_alloc ?_ _)); refine blk_put (cs := #[.int .i64 ((rd_T121 l0_1 x11_1).f0), .int .i64 ((rd_T121 l0_1 x11_1).f1), .int .i64 0]) ?_ 2 _ rfl; (with_reducible repeat (first | refine blk_drewN ?_ _ | refine blk_drew ?_ | refine blk_alloc ?_ _)); refine blk_put (cs := #[.int .i64 ((rd_T121 l0_1 x11_1).f0), .int .i64 0, .int .i64 0]) ?_ 1 _ rfl; (with_reducible repeat (first | refine blk_drewN ?_ _ | refine blk_drew ?_ | refine blk_alloc ?_ _)); refine blk_put (cs := #[.int .i64 0, .int .i64 0, .int .i64 0]) ?_ 0 _ rfl; (with_reducible repeat (first | refine blk_drewN ?_ _ | refine blk_drew ?_ | refine blk_alloc ?_ _)); exact BK146.out⟩
                    have n2_ : Aside0 (Below w.heap.size w (((w12.setCell ⟨gb146, 0, none⟩ (.int .i64 ((rd_T121 l0_1 x11_1).f0))).setCell ⟨gb146, 1, none⟩ (.int .i64 ((rd_T121 l0_1 x11_1).f1))).setCell ⟨gb146, 2, none⟩ (.int .i64 ((rd_T121 l0_1 x11_1).f2)))) := ⟨by repeat (first | (with_reducible first | exact HB.out | apply below_alloc | apply pw_below_drewN | apply below_drew1 | refine below_set ?_ GE144.out | refine below_set ?_ GE146.out) | exact HB.out)⟩
                    (try clear BK144)
                    (try clear BK146)
                    (try clear HB)
                    generalize (((w12.setCell ⟨gb146, 0, none⟩ (.int .i64 ((rd_T121 l0_1 x11_1).f0))).setCell ⟨gb146, 1, none⟩ (.int .i64 ((rd_T121 l0_1 x11_1).f1))).setCell ⟨gb146, 2, none⟩ (.int .i64 ((rd_T121 l0_1 x11_1).f2))) = w15 at n0_ n1_ n2_ ⊢
                    have BK144 := n0_
                    have BK146 := n1_
                    have HB := n2_
                    clear n0_ n1_ n2_
                    have n0_ := Aside0.mk (blk_drew BK144.out)
                    have n1_ := Aside0.mk (blk_drew BK146.out)
                    have n2_ := Aside0.mk (below_drew1 HB.out)
                    clear BK144
                    clear BK146
                    clear HB
                    have BK144 := n0_
                    have BK146 := n1_
                    have HB := n2_
                    clear n0_ n1_ n2_
                    refine start_ (n := 16) (S := fun w' => True) (ds := []) #[false, false, false, false, false, false, false, false, false, false, false, false, false, false, false, false] (by kernel_rfl) rfl rfl trivial (fun hHeld => ?_); refine with_tabW wrackref1_Needs.tab5 wrackref1_Needs.bits5 (fun HT_ HW_ => ?_)
                    generalize w15.drew = w16 at BK144 BK146 HB hHeld ⊢
                    refine pure_ (i := 0) (N := some 19) (v := ?_) (a' := ?_) #[true, false, false, false, false, false, false, false, false, false, false, false, false, false, false, false] rfl rfl (any_of HT_.out (by kernel_rfl)) (fun _ _ _ h => h) (Or.inl ⟨by rfl, ?_⟩) ?_ ?_
                    rotate_left
                    · intro w'
                      go_simp
                      with_reducible rfl
                    rotate_left
                    · simp only [Act.put, List.setIfInBounds_toArray, List.set_cons_zero, List.set_cons_succ, i64_w, i32_w]
                      rfl
                    refine pure_ (i := 3) (N := some 22) (v := ?_) (a' := ?_) #[true, false, false, true, false, false, false, false, false, false, false, false, false, false, false, false] rfl rfl (any_of HT_.out (by kernel_rfl)) (fun _ _ _ h => h) (Or.inl ⟨by rfl, ?_⟩) ?_ ?_
                    rotate_left
                    · intro w'
                      go_simp
                      with_reducible rfl
                    rotate_left
                    · simp only [Act.put, List.setIfInBounds_toArray, List.set_cons_zero, List.set_cons_succ, i64_w, i32_w]
                      rfl
                    refine pure_ (i := 7) (N := some 26) (v := ?_) (a' := ?_) #[true, false, false, true, false, false, false, true, false, false, false, false, false, false, false, false] rfl rfl (any_of HT_.out (by kernel_rfl)) (fun _ _ _ h => h) (Or.inl ⟨by rfl, ?_⟩) ?_ ?_
                    rotate_left
                    · intro w'
                      go_simp
                      with_reducible rfl
                    rotate_left
                    · simp only [Act.put, List.setIfInBounds_toArray, List.set_cons_zero, List.set_cons_succ, i64_w, i32_w]
                      rfl
                    refine pure_ (i := 10) (N := some 29) (v := ?_) (a' := ?_) #[true, false, false, true, false, false, false, true, false, false, true, false, false, false, false, false] rfl rfl (any_of HT_.out (by kernel_rfl)) (fun _ _ _ h => h) (Or.inl ⟨by rfl, ?_⟩) ?_ ?_
                    rotate_left
                    · intro w'
                      go_simp
                      with_reducible rfl
                    rotate_left
                    · simp only [Act.put, List.setIfInBounds_toArray, List.set_cons_zero, List.set_cons_succ, i64_w, i32_w]
                      rfl
                    refine inv_at [1, 2, 4, 5, 6, 8, 9, 11, 12, 13, 14, 15] (fun a0_ b a w' => ∃ (v148 : Value) (adz_v148 : Addr) (v152 : Value) (adz_v152 : Addr) (m5_ : Value) (m12_ : Value), a = putSel a0_ b [(1, 20, .int .i64 ((rd_T121 l0_1 x11_1).f2)), (2, 21, v148), (4, 23, .int .i64 ((rd_T121 l0_1 x11_1).f1)), (5, 24, m5_), (6, 25, .int .i64 (rd y147 ((rd_T121 l0_1 x11_1).f1))), (8, 27, .int .i64 ((rd_T121 l0_1 x11_1).f2)), (9, 28, v152), (11, 30, .int .i64 ((rd_T121 l0_1 x11_1).f1)), (12, 31, m12_), (13, 32, .int .i64 (rd y151 ((rd_T121 l0_1 x11_1).f1))), (14, 4, .int .i64 (rd y147 ((rd_T121 l0_1 x11_1).f1))), (15, 5, .int .i64 (rd y151 ((rd_T121 l0_1 x11_1).f1)))] ∧ (w'.heap[gb144]? = some (.cells #[.slice A0_0 l0_0.length c0_0, .slice (some ad145) l0_1.length c0_1] 46 (0, 0))) ∧ (w'.heap[gb146]? = some (.cells #[.int .i64 ((rd_T121 l0_1 x11_1).f0), .int .i64 ((rd_T121 l0_1 x11_1).f1), .int .i64 ((rd_T121 l0_1 x11_1).f2)] 121 (0, 0))) ∧ (Below w.heap.size w w') ∧ (b 2 = true → Kd.R (Kd.int .i64) 3 w' w.heap.size (fun _ => True) v148 y147) ∧ (b 2 = true → ∃ c_, (v148 : Value) = .slice (some adz_v148) y147.length c_) ∧ (b 9 = true → Kd.R (Kd.int .i64) 3 w' w.heap.size (fun _ => True) v152 y151) ∧ (b 9 = true → ∃ c_, (v152 : Value) = .slice (some adz_v152) y151.length c_) ∧ (b 5 = true → (m5_ : Value) = .pointer (some (adz_v148.add (((rd_T121 l0_1 x11_1).f1)).toNat))) ∧ (b 12 = true → (m12_ : Value) = .pointer (some (adz_v152.add (((rd_T121 l0_1 x11_1).f1)).toNat)))) HT_.out HW_.out (by kernel_rfl) (by kernel_rfl) ?_ ?_ ?_
                    · exact ⟨.bool false, ⟨0, 0, none⟩, .bool false, ⟨0, 0, none⟩, .bool false, .bool false, by simp only [putSel, Bool.false_eq_true, if_false], BK144.out, BK146.out, HB.out, fun h_ => absurd h_ (by decide), fun h_ => absurd h_ (by decide), fun h_ => absurd h_ (by decide), fun h_ => absurd h_ (by decide), fun h_ => absurd h_ (by decide), fun h_ => absurd h_ (by decide)⟩
                    · skip
                      clear BK144 BK146 HB
                      refine steps_cons ?_ ?_
                      · rintro b a w' ⟨v148, adz_v148, v152, adz_v152, m5_, m12_, ha, Q_BK144, Q_BK146, Q_HB, Q_HO149, Q_HA_HO149, Q_HO153, Q_HA_HO153, Q_X5_, Q_X12_⟩ hb_ hon hoff
                        refine ⟨_, rfl, fun K hK => ?_⟩
                        have e19 : a.tmps[19]? = some (.pointer (some ⟨gb146, 2, none⟩)) := by rw [ha]; exact (putSel_off rfl).trans rfl
                        replace ha := Aside0.mk ha
                        have BK144 := Aside0.mk Q_BK144
                        have BK146 := Aside0.mk Q_BK146
                        have HB := Aside0.mk Q_HB
                        have hc0_ : w'.cell? ⟨gb146, 0, none⟩ = some (.int .i64 ((rd_T121 l0_1 x11_1).f0)) := (blk_cell BK146.out 0).trans rfl
                        have hc1_ : w'.cell? ⟨gb146, 1, none⟩ = some (.int .i64 ((rd_T121 l0_1 x11_1).f1)) := (blk_cell BK146.out 1).trans rfl
                        have hc2_ : w'.cell? ⟨gb146, 2, none⟩ = some (.int .i64 ((rd_T121 l0_1 x11_1).f2)) := (blk_cell BK146.out 2).trans rfl
                        refine value_ (w1 := w') (v := .int .i64 ((rd_T121 l0_1 x11_1).f2)) (by rfl) rfl ?_ ?_
                        · go_simp
                          (try simp only [i64_w])
                          try rfl
                        refine hK.out _ _ ⟨v148, adz_v148, v152, adz_v152, m5_, m12_, (by rw [ha.out]; exact putSel_upk 0 hb_ rfl rfl rfl), Q_BK144, Q_BK146, Q_HB, fun h0_ => absurd ((hoff 2 (by kernel_rfl)).symm.trans h0_) (by decide), fun h0_ => absurd ((hoff 2 (by kernel_rfl)).symm.trans h0_) (by decide), Q_HO153, Q_HA_HO153, fun h0_ => absurd ((hoff 5 (by kernel_rfl)).symm.trans h0_) (by decide), Q_X12_⟩
                      refine steps_cons ?_ ?_
                      · rintro b a w' ⟨v148, adz_v148, v152, adz_v152, m5_, m12_, ha, Q_BK144, Q_BK146, Q_HB, Q_HO149, Q_HA_HO149, Q_HO153, Q_HA_HO153, Q_X5_, Q_X12_⟩ hb_ hon hoff
                        refine ⟨_, rfl, fun K hK => ?_⟩
                        have e20 : a.tmps[20]? = some (.int .i64 ((rd_T121 l0_1 x11_1).f2)) := by rw [ha]; exact putSel_on (e := (1, 20, .int .i64 ((rd_T121 l0_1 x11_1).f2))) 0 rfl rfl (hon 1 (by kernel_rfl)) rfl
                        replace ha := Aside0.mk ha
                        have BK144 := Aside0.mk Q_BK144
                        have BK146 := Aside0.mk Q_BK146
                        have HB := Aside0.mk Q_HB
                        refine Kd.R_lit_step (Kd.int .i64) _ 3 ?hg (N := 21) ?hd (xs := ([0, 0, (rd_T121 l0_1 x11_1).f2, 1] : List Int)) (inner := [.int .i64 0, .int .i64 0, .int .i64 ((rd_T121 l0_1 x11_1).f2), .int .i64 1]) (ok := fun _ => True) (okp := fun _ => True) ?hr ?hp (fun _ hk => hk) trivial (Below.refl _ _) (Nat.le_refl _) (by simp) ?_; (case hd => rfl); (case hg => rfl); (case hr => first | (go_simp; done) | (go_simp; rfl)); (case hp => exact (Reps.one (show Kd.M (Kd.int .i64) _ _ _ 0 [.int .i64 0] from rfl) (Reps.one (show Kd.M (Kd.int .i64) _ _ _ 0 [.int .i64 0] from rfl) (Reps.one (show Kd.M (Kd.int .i64) _ _ _ ((rd_T121 l0_1 x11_1).f2) [.int .i64 ((rd_T121 l0_1 x11_1).f2)] from rfl) (Reps.one (show Kd.M (Kd.int .i64) _ _ _ 1 [.int .i64 1] from rfl) (Reps.none _ _))))))
                        intro v148 w17 ho18 hb hg_ hnew_
                        clear hg_ hnew_
                        (first | rw [← Ny147.out] at ho18 | (simp only [Int.reduceToNat] at ho18; rw [← Ny147.out] at ho18))
                        have n0_ := Aside0.mk (Kd.R_lower ho18 (below_size (by repeat (first | (with_reducible first | exact HB.out | apply below_alloc | apply pw_below_drewN | apply below_drew1 | refine below_set ?_ GE144.out | refine below_set ?_ GE146.out) | exact HB.out))))
                        have n1_ := Aside0.mk (blk_below (g := gb144) (o := .cells #[.slice A0_0 l0_0.length c0_0, .slice (some ad145) l0_1.length c0_1] 46 (0, 0)) (by (with_reducible repeat (first | refine blk_drewN ?_ _ | refine blk_drew ?_ | refine blk_alloc ?_ _)); exact BK144.out) hb)
                        have n2_ := Aside0.mk (blk_below (g := gb146) (o := .cells #[.int .i64 ((rd_T121 l0_1 x11_1).f0), .int .i64 ((rd_T121 l0_1 x11_1).f1), .int .i64 ((rd_T121 l0_1 x11_1).f2)] 121 (0, 0)) (by (with_reducible repeat (first | refine blk_drewN ?_ _ | refine blk_drew ?_ | refine blk_alloc ?_ _)); exact BK146.out) hb)
                        have n3_ := Aside0.mk (below_step (by repeat (first | (with_reducible first | exact HB.out | apply below_alloc | apply pw_below_drewN | apply below_drew1 | refine below_set ?_ GE144.out | refine below_set ?_ GE146.out) | exact HB.out)) hb)
                        have z_HO153 := fun (h0_ : b 9 = true) => (show Kd.R (Kd.int .i64) 3 w17 w.heap.size (fun _ => True) v152 y151 from by first | exact (Kd.R_elder' (by (with_reducible repeat (first | apply Kd.R_alloc | apply Kd.R_drewN | apply Kd.R_drew)); exact (Q_HO153 h0_)) (Kd.R_base ho18) hb) | exact Kd.R_mono (Kd.R_elder' (by (with_reducible repeat (first | apply Kd.R_alloc | apply Kd.R_drewN | apply Kd.R_drew)); exact (Q_HO153 h0_)) (Kd.R_base ho18) hb) (fun _ h_ => by first | trivial | exact h_ | exact h_.1))
                        clear BK144
                        clear BK146
                        clear HB
                        have HO149 := n0_
                        have BK144 := n1_
                        have BK146 := n2_
                        have HB := n3_
                        clear n0_ n1_ n2_ n3_
                        clear hb ho18
                        obtain ⟨Ao19, co19, eo19⟩ := Kd.R_slice HO149.out
                        subst eo19
                        obtain ⟨ado19, fo19, _⟩ := Kd.at_int (Kd.R_reads' HO149.out).2.2 0 (by decide) (by rw [Ny147.out]; simp)
                        cases fo19
                        refine hK.out _ _ ⟨.slice (some ado19) y147.length co19, ado19, v152, adz_v152, m5_, m12_, (by rw [ha.out]; exact putSel_upk 1 hb_ rfl rfl rfl), (by (with_reducible repeat (first | refine blk_drewN ?_ _ | refine blk_drew ?_ | refine blk_alloc ?_ _)); exact BK144.out), (by (with_reducible repeat (first | refine blk_drewN ?_ _ | refine blk_drew ?_ | refine blk_alloc ?_ _)); exact BK146.out), (by repeat (first | (with_reducible first | exact HB.out | apply below_alloc | apply pw_below_drewN | apply below_drew1 | refine below_set ?_ GE144.out | refine below_set ?_ GE146.out) | exact HB.out)), fun _ => (by (with_reducible repeat (first | apply Kd.R_alloc | apply Kd.R_drewN | apply Kd.R_drew)); exact HO149.out), fun _ => ⟨_, rfl⟩, z_HO153, Q_HA_HO153, fun h0_ => absurd ((hoff 5 (by kernel_rfl)).symm.trans h0_) (by decide), Q_X12_⟩
                      refine steps_cons ?_ ?_
                      · rintro b a w' ⟨v148, adz_v148, v152, adz_v152, m5_, m12_, ha, Q_BK144, Q_BK146, Q_HB, Q_HO149, Q_HA_HO149, Q_HO153, Q_HA_HO153, Q_X5_, Q_X12_⟩ hb_ hon hoff
                        refine ⟨_, rfl, fun K hK => ?_⟩
                        have e22 : a.tmps[22]? = some (.pointer (some ⟨gb146, 1, none⟩)) := by rw [ha]; exact (putSel_off rfl).trans rfl
                        replace ha := Aside0.mk ha
                        have BK144 := Aside0.mk Q_BK144
                        have BK146 := Aside0.mk Q_BK146
                        have HB := Aside0.mk Q_HB
                        have hc0_ : w'.cell? ⟨gb146, 0, none⟩ = some (.int .i64 ((rd_T121 l0_1 x11_1).f0)) := (blk_cell BK146.out 0).trans rfl
                        have hc1_ : w'.cell? ⟨gb146, 1, none⟩ = some (.int .i64 ((rd_T121 l0_1 x11_1).f1)) := (blk_cell BK146.out 1).trans rfl
                        have hc2_ : w'.cell? ⟨gb146, 2, none⟩ = some (.int .i64 ((rd_T121 l0_1 x11_1).f2)) := (blk_cell BK146.out 2).trans rfl
                        refine value_ (w1 := w') (v := .int .i64 ((rd_T121 l0_1 x11_1).f1)) (by rfl) rfl ?_ ?_
                        · go_simp
                          (try simp only [i64_w])
                          try rfl
                        refine hK.out _ _ ⟨v148, adz_v148, v152, adz_v152, m5_, m12_, (by rw [ha.out]; exact putSel_upk 2 hb_ rfl rfl rfl), Q_BK144, Q_BK146, Q_HB, Q_HO149, Q_HA_HO149, Q_HO153, Q_HA_HO153, fun h0_ => absurd ((hoff 5 (by kernel_rfl)).symm.trans h0_) (by decide), Q_X12_⟩
                      refine steps_cons ?_ ?_
                      · rintro b a w' ⟨v148, adz_v148, v152, adz_v152, m5_, m12_, ha, Q_BK144, Q_BK146, Q_HB, Q_HO149, Q_HA_HO149, Q_HO153, Q_HA_HO153, Q_X5_, Q_X12_⟩ hb_ hon hoff
                        refine ⟨_, rfl, fun K hK => ?_⟩
                        have e21 : a.tmps[21]? = some (v148) := by rw [ha]; exact putSel_on (e := (2, 21, v148)) 1 rfl rfl (hon 2 (by kernel_rfl)) rfl
                        have e23 : a.tmps[23]? = some (.int .i64 ((rd_T121 l0_1 x11_1).f1)) := by rw [ha]; exact putSel_on (e := (4, 23, .int .i64 ((rd_T121 l0_1 x11_1).f1))) 2 rfl rfl (hon 4 (by kernel_rfl)) rfl
                        replace ha := Aside0.mk ha
                        have BK144 := Aside0.mk Q_BK144
                        have BK146 := Aside0.mk Q_BK146
                        have HB := Aside0.mk Q_HB
                        have HO149 := Aside0.mk (Q_HO149 (hon 2 (by kernel_rfl)))
                        have HA_HO149 := Aside0.mk (Q_HA_HO149 (hon 2 (by kernel_rfl)))
                        obtain ⟨c_, hv_⟩ := HA_HO149.out
                        rw [hv_] at e21
                        refine value_ (w1 := w') (v := .pointer (some (adz_v148.add (((rd_T121 l0_1 x11_1).f1)).toNat))) (by rfl) rfl ?_ ?_
                        · go_simp
                          (try simp only [i64_w])
                          try rfl
                        refine hK.out _ _ ⟨v148, adz_v148, v152, adz_v152, (.pointer (some (adz_v148.add (((rd_T121 l0_1 x11_1).f1)).toNat))), m12_, (by rw [ha.out]; exact putSel_upk 3 hb_ rfl rfl rfl), Q_BK144, Q_BK146, Q_HB, Q_HO149, Q_HA_HO149, Q_HO153, Q_HA_HO153, fun _ => rfl, Q_X12_⟩
                      refine steps_cons ?_ ?_
                      · rintro b a w' ⟨v148, adz_v148, v152, adz_v152, m5_, m12_, ha, Q_BK144, Q_BK146, Q_HB, Q_HO149, Q_HA_HO149, Q_HO153, Q_HA_HO153, Q_X5_, Q_X12_⟩ hb_ hon hoff
                        refine ⟨_, rfl, fun K hK => ?_⟩
                        have e24 : a.tmps[24]? = some (m5_) := by rw [ha]; exact putSel_on (e := (5, 24, m5_)) 3 rfl rfl (hon 5 (by kernel_rfl)) rfl
                        rw [Q_X5_ (hon 5 (by kernel_rfl))] at e24
                        replace ha := Aside0.mk ha
                        have BK144 := Aside0.mk Q_BK144
                        have BK146 := Aside0.mk Q_BK146
                        have HB := Aside0.mk Q_HB
                        have HO149 := Aside0.mk (Q_HO149 (hon 2 (by kernel_rfl)))
                        have HA_HO149 := Aside0.mk (Q_HA_HO149 (hon 2 (by kernel_rfl)))
                        obtain ⟨c_, hv_⟩ := HA_HO149.out
                        have hF_ := HO149.out
                        rw [hv_] at hF_
                        obtain ⟨ad_, ea_, hx_⟩ := Kd.at_int (Kd.R_reads' hF_).2.2 ((rd_T121 l0_1 x11_1).f1) (of_eq_true pi150) (of_eq_true qi150)
                        cases ea_
                        refine value_ (w1 := w') (v := .int .i64 (rd y147 ((rd_T121 l0_1 x11_1).f1))) (by rfl) rfl ?_ ?_
                        · go_simp
                          (try simp only [i64_w])
                          try rfl
                        refine hK.out _ _ ⟨v148, adz_v148, v152, adz_v152, m5_, m12_, (by rw [ha.out]; exact putSel_upk 4 hb_ rfl rfl rfl), Q_BK144, Q_BK146, Q_HB, Q_HO149, Q_HA_HO149, Q_HO153, Q_HA_HO153, Q_X5_, Q_X12_⟩
                      refine steps_cons ?_ ?_
                      · rintro b a w' ⟨v148, adz_v148, v152, adz_v152, m5_, m12_, ha, Q_BK144, Q_BK146, Q_HB, Q_HO149, Q_HA_HO149, Q_HO153, Q_HA_HO153, Q_X5_, Q_X12_⟩ hb_ hon hoff
                        refine ⟨_, rfl, fun K hK => ?_⟩
                        have e26 : a.tmps[26]? = some (.pointer (some ⟨gb146, 2, none⟩)) := by rw [ha]; exact (putSel_off rfl).trans rfl
                        replace ha := Aside0.mk ha
                        have BK144 := Aside0.mk Q_BK144
                        have BK146 := Aside0.mk Q_BK146
                        have HB := Aside0.mk Q_HB
                        have hc0_ : w'.cell? ⟨gb146, 0, none⟩ = some (.int .i64 ((rd_T121 l0_1 x11_1).f0)) := (blk_cell BK146.out 0).trans rfl
                        have hc1_ : w'.cell? ⟨gb146, 1, none⟩ = some (.int .i64 ((rd_T121 l0_1 x11_1).f1)) := (blk_cell BK146.out 1).trans rfl
                        have hc2_ : w'.cell? ⟨gb146, 2, none⟩ = some (.int .i64 ((rd_T121 l0_1 x11_1).f2)) := (blk_cell BK146.out 2).trans rfl
                        refine value_ (w1 := w') (v := .int .i64 ((rd_T121 l0_1 x11_1).f2)) (by rfl) rfl ?_ ?_
                        · go_simp
                          (try simp only [i64_w])
                          try rfl
                        refine hK.out _ _ ⟨v148, adz_v148, v152, adz_v152, m5_, m12_, (by rw [ha.out]; exact putSel_upk 5 hb_ rfl rfl rfl), Q_BK144, Q_BK146, Q_HB, Q_HO149, Q_HA_HO149, fun h0_ => absurd ((hoff 9 (by kernel_rfl)).symm.trans h0_) (by decide), fun h0_ => absurd ((hoff 9 (by kernel_rfl)).symm.trans h0_) (by decide), Q_X5_, fun h0_ => absurd ((hoff 12 (by kernel_rfl)).symm.trans h0_) (by decide)⟩
                      refine steps_cons ?_ ?_
                      · rintro b a w' ⟨v148, adz_v148, v152, adz_v152, m5_, m12_, ha, Q_BK144, Q_BK146, Q_HB, Q_HO149, Q_HA_HO149, Q_HO153, Q_HA_HO153, Q_X5_, Q_X12_⟩ hb_ hon hoff
                        refine ⟨_, rfl, fun K hK => ?_⟩
                        have e27 : a.tmps[27]? = some (.int .i64 ((rd_T121 l0_1 x11_1).f2)) := by rw [ha]; exact putSel_on (e := (8, 27, .int .i64 ((rd_T121 l0_1 x11_1).f2))) 5 rfl rfl (hon 8 (by kernel_rfl)) rfl
                        replace ha := Aside0.mk ha
                        have BK144 := Aside0.mk Q_BK144
                        have BK146 := Aside0.mk Q_BK146
                        have HB := Aside0.mk Q_HB
                        refine Kd.R_lit_step (Kd.int .i64) _ 3 ?hg (N := 28) ?hd (xs := ([0, 1, 1, (rd_T121 l0_1 x11_1).f2] : List Int)) (inner := [.int .i64 0, .int .i64 1, .int .i64 1, .int .i64 ((rd_T121 l0_1 x11_1).f2)]) (ok := fun _ => True) (okp := fun _ => True) ?hr ?hp (fun _ hk => hk) trivial (Below.refl _ _) (Nat.le_refl _) (by simp) ?_; (case hd => rfl); (case hg => rfl); (case hr => first | (go_simp; done) | (go_simp; rfl)); (case hp => exact (Reps.one (show Kd.M (Kd.int .i64) _ _ _ 0 [.int .i64 0] from rfl) (Reps.one (show Kd.M (Kd.int .i64) _ _ _ 1 [.int .i64 1] from rfl) (Reps.one (show Kd.M (Kd.int .i64) _ _ _ 1 [.int .i64 1] from rfl) (Reps.one (show Kd.M (Kd.int .i64) _ _ _ ((rd_T121 l0_1 x11_1).f2) [.int .i64 ((rd_T121 l0_1 x11_1).f2)] from rfl) (Reps.none _ _))))))
                        intro v152 w17 ho18 hb hg_ hnew_
                        clear hg_ hnew_
                        (first | rw [← Ny151.out] at ho18 | (simp only [Int.reduceToNat] at ho18; rw [← Ny151.out] at ho18))
                        have n0_ := Aside0.mk (Kd.R_lower ho18 (below_size (by repeat (first | (with_reducible first | exact HB.out | apply below_alloc | apply pw_below_drewN | apply below_drew1 | refine below_set ?_ GE144.out | refine below_set ?_ GE146.out) | exact HB.out))))
                        have n1_ := Aside0.mk (blk_below (g := gb144) (o := .cells #[.slice A0_0 l0_0.length c0_0, .slice (some ad145) l0_1.length c0_1] 46 (0, 0)) (by (with_reducible repeat (first | refine blk_drewN ?_ _ | refine blk_drew ?_ | refine blk_alloc ?_ _)); exact BK144.out) hb)
                        have n2_ := Aside0.mk (blk_below (g := gb146) (o := .cells #[.int .i64 ((rd_T121 l0_1 x11_1).f0), .int .i64 ((rd_T121 l0_1 x11_1).f1), .int .i64 ((rd_T121 l0_1 x11_1).f2)] 121 (0, 0)) (by (with_reducible repeat (first | refine blk_drewN ?_ _ | refine blk_drew ?_ | refine blk_alloc ?_ _)); exact BK146.out) hb)
                        have n3_ := Aside0.mk (below_step (by repeat (first | (with_reducible first | exact HB.out | apply below_alloc | apply pw_below_drewN | apply below_drew1 | refine below_set ?_ GE144.out | refine below_set ?_ GE146.out) | exact HB.out)) hb)
                        have z_HO149 := fun (h0_ : b 2 = true) => (show Kd.R (Kd.int .i64) 3 w17 w.heap.size (fun _ => True) v148 y147 from by first | exact (Kd.R_elder' (by (with_reducible repeat (first | apply Kd.R_alloc | apply Kd.R_drewN | apply Kd.R_drew)); exact (Q_HO149 h0_)) (Kd.R_base ho18) hb) | exact Kd.R_mono (Kd.R_elder' (by (with_reducible repeat (first | apply Kd.R_alloc | apply Kd.R_drewN | apply Kd.R_drew)); exact (Q_HO149 h0_)) (Kd.R_base ho18) hb) (fun _ h_ => by first | trivial | exact h_ | exact h_.1))
                        clear BK144
                        clear BK146
                        clear HB
                        have HO153 := n0_
                        have BK144 := n1_
                        have BK146 := n2_
                        have HB := n3_
                        clear n0_ n1_ n2_ n3_
                        clear hb ho18
                        obtain ⟨Ao19, co19, eo19⟩ := Kd.R_slice HO153.out
                        subst eo19
                        obtain ⟨ado19, fo19, _⟩ := Kd.at_int (Kd.R_reads' HO153.out).2.2 0 (by decide) (by rw [Ny151.out]; simp)
                        cases fo19
                        refine hK.out _ _ ⟨v148, adz_v148, .slice (some ado19) y151.length co19, ado19, m5_, m12_, (by rw [ha.out]; exact putSel_upk 6 hb_ rfl rfl rfl), (by (with_reducible repeat (first | refine blk_drewN ?_ _ | refine blk_drew ?_ | refine blk_alloc ?_ _)); exact BK144.out), (by (with_reducible repeat (first | refine blk_drewN ?_ _ | refine blk_drew ?_ | refine blk_alloc ?_ _)); exact BK146.out), (by repeat (first | (with_reducible first | exact HB.out | apply below_alloc | apply pw_below_drewN | apply below_drew1 | refine below_set ?_ GE144.out | refine below_set ?_ GE146.out) | exact HB.out)), z_HO149, Q_HA_HO149, fun _ => (by (with_reducible repeat (first | apply Kd.R_alloc | apply Kd.R_drewN | apply Kd.R_drew)); exact HO153.out), fun _ => ⟨_, rfl⟩, Q_X5_, fun h0_ => absurd ((hoff 12 (by kernel_rfl)).symm.trans h0_) (by decide)⟩
                      refine steps_cons ?_ ?_
                      · rintro b a w' ⟨v148, adz_v148, v152, adz_v152, m5_, m12_, ha, Q_BK144, Q_BK146, Q_HB, Q_HO149, Q_HA_HO149, Q_HO153, Q_HA_HO153, Q_X5_, Q_X12_⟩ hb_ hon hoff
                        refine ⟨_, rfl, fun K hK => ?_⟩
                        have e29 : a.tmps[29]? = some (.pointer (some ⟨gb146, 1, none⟩)) := by rw [ha]; exact (putSel_off rfl).trans rfl
                        replace ha := Aside0.mk ha
                        have BK144 := Aside0.mk Q_BK144
                        have BK146 := Aside0.mk Q_BK146
                        have HB := Aside0.mk Q_HB
                        have hc0_ : w'.cell? ⟨gb146, 0, none⟩ = some (.int .i64 ((rd_T121 l0_1 x11_1).f0)) := (blk_cell BK146.out 0).trans rfl
                        have hc1_ : w'.cell? ⟨gb146, 1, none⟩ = some (.int .i64 ((rd_T121 l0_1 x11_1).f1)) := (blk_cell BK146.out 1).trans rfl
                        have hc2_ : w'.cell? ⟨gb146, 2, none⟩ = some (.int .i64 ((rd_T121 l0_1 x11_1).f2)) := (blk_cell BK146.out 2).trans rfl
                        refine value_ (w1 := w') (v := .int .i64 ((rd_T121 l0_1 x11_1).f1)) (by rfl) rfl ?_ ?_
                        · go_simp
                          (try simp only [i64_w])
                          try rfl
                        refine hK.out _ _ ⟨v148, adz_v148, v152, adz_v152, m5_, m12_, (by rw [ha.out]; exact putSel_upk 7 hb_ rfl rfl rfl), Q_BK144, Q_BK146, Q_HB, Q_HO149, Q_HA_HO149, Q_HO153, Q_HA_HO153, Q_X5_, fun h0_ => absurd ((hoff 12 (by kernel_rfl)).symm.trans h0_) (by decide)⟩
                      refine steps_cons ?_ ?_
                      · rintro b a w' ⟨v148, adz_v148, v152, adz_v152, m5_, m12_, ha, Q_BK144, Q_BK146, Q_HB, Q_HO149, Q_HA_HO149, Q_HO153, Q_HA_HO153, Q_X5_, Q_X12_⟩ hb_ hon hoff
                        refine ⟨_, rfl, fun K hK => ?_⟩
                        have e28 : a.tmps[28]? = some (v152) := by rw [ha]; exact putSel_on (e := (9, 28, v152)) 6 rfl rfl (hon 9 (by kernel_rfl)) rfl
                        have e30 : a.tmps[30]? = some (.int .i64 ((rd_T121 l0_1 x11_1).f1)) := by rw [ha]; exact putSel_on (e := (11, 30, .int .i64 ((rd_T121 l0_1 x11_1).f1))) 7 rfl rfl (hon 11 (by kernel_rfl)) rfl
                        replace ha := Aside0.mk ha
                        have BK144 := Aside0.mk Q_BK144
                        have BK146 := Aside0.mk Q_BK146
                        have HB := Aside0.mk Q_HB
                        have HO153 := Aside0.mk (Q_HO153 (hon 9 (by kernel_rfl)))
                        have HA_HO153 := Aside0.mk (Q_HA_HO153 (hon 9 (by kernel_rfl)))
                        obtain ⟨c_, hv_⟩ := HA_HO153.out
                        rw [hv_] at e28
                        refine value_ (w1 := w') (v := .pointer (some (adz_v152.add (((rd_T121 l0_1 x11_1).f1)).toNat))) (by rfl) rfl ?_ ?_
                        · go_simp
                          (try simp only [i64_w])
                          try rfl
                        refine hK.out _ _ ⟨v148, adz_v148, v152, adz_v152, m5_, (.pointer (some (adz_v152.add (((rd_T121 l0_1 x11_1).f1)).toNat))), (by rw [ha.out]; exact putSel_upk 8 hb_ rfl rfl rfl), Q_BK144, Q_BK146, Q_HB, Q_HO149, Q_HA_HO149, Q_HO153, Q_HA_HO153, Q_X5_, fun _ => rfl⟩
                      refine steps_cons ?_ ?_
                      · rintro b a w' ⟨v148, adz_v148, v152, adz_v152, m5_, m12_, ha, Q_BK144, Q_BK146, Q_HB, Q_HO149, Q_HA_HO149, Q_HO153, Q_HA_HO153, Q_X5_, Q_X12_⟩ hb_ hon hoff
                        refine ⟨_, rfl, fun K hK => ?_⟩
                        have e31 : a.tmps[31]? = some (m12_) := by rw [ha]; exact putSel_on (e := (12, 31, m12_)) 8 rfl rfl (hon 12 (by kernel_rfl)) rfl
                        rw [Q_X12_ (hon 12 (by kernel_rfl))] at e31
                        replace ha := Aside0.mk ha
                        have BK144 := Aside0.mk Q_BK144
                        have BK146 := Aside0.mk Q_BK146
                        have HB := Aside0.mk Q_HB
                        have HO153 := Aside0.mk (Q_HO153 (hon 9 (by kernel_rfl)))
                        have HA_HO153 := Aside0.mk (Q_HA_HO153 (hon 9 (by kernel_rfl)))
                        obtain ⟨c_, hv_⟩ := HA_HO153.out
                        have hF_ := HO153.out
                        rw [hv_] at hF_
                        obtain ⟨ad_, ea_, hx_⟩ := Kd.at_int (Kd.R_reads' hF_).2.2 ((rd_T121 l0_1 x11_1).f1) (of_eq_true pi154) (of_eq_true qi154)
                        cases ea_
                        refine value_ (w1 := w') (v := .int .i64 (rd y151 ((rd_T121 l0_1 x11_1).f1))) (by rfl) rfl ?_ ?_
                        · go_simp
                          (try simp only [i64_w])
                          try rfl
                        refine hK.out _ _ ⟨v148, adz_v148, v152, adz_v152, m5_, m12_, (by rw [ha.out]; exact putSel_upk 9 hb_ rfl rfl rfl), Q_BK144, Q_BK146, Q_HB, Q_HO149, Q_HA_HO149, Q_HO153, Q_HA_HO153, Q_X5_, Q_X12_⟩
                      refine steps_cons ?_ ?_
                      · rintro b a w' ⟨v148, adz_v148, v152, adz_v152, m5_, m12_, ha, Q_BK144, Q_BK146, Q_HB, Q_HO149, Q_HA_HO149, Q_HO153, Q_HA_HO153, Q_X5_, Q_X12_⟩ hb_ hon hoff
                        refine ⟨_, rfl, fun K hK => ?_⟩
                        have e25 : a.tmps[25]? = some (.int .i64 (rd y147 ((rd_T121 l0_1 x11_1).f1))) := by rw [ha]; exact putSel_on (e := (6, 25, .int .i64 (rd y147 ((rd_T121 l0_1 x11_1).f1)))) 4 rfl rfl (hon 6 (by kernel_rfl)) rfl
                        replace ha := Aside0.mk ha
                        have BK144 := Aside0.mk Q_BK144
                        have BK146 := Aside0.mk Q_BK146
                        have HB := Aside0.mk Q_HB
                        have HO149 := Aside0.mk (Q_HO149 (hon 2 (by kernel_rfl)))
                        have HA_HO149 := Aside0.mk (Q_HA_HO149 (hon 2 (by kernel_rfl)))
                        refine value_ (w1 := w') (v := .int .i64 (rd y147 ((rd_T121 l0_1 x11_1).f1))) (by rfl) rfl ?_ ?_
                        · go_simp
                          (try simp only [i64_w])
                          try rfl
                        refine hK.out _ _ ⟨v148, adz_v148, v152, adz_v152, m5_, m12_, (by rw [ha.out]; exact putSel_upk 10 hb_ rfl rfl rfl), Q_BK144, Q_BK146, Q_HB, Q_HO149, Q_HA_HO149, Q_HO153, Q_HA_HO153, Q_X5_, Q_X12_⟩
                      refine steps_cons ?_ ?_
                      · rintro b a w' ⟨v148, adz_v148, v152, adz_v152, m5_, m12_, ha, Q_BK144, Q_BK146, Q_HB, Q_HO149, Q_HA_HO149, Q_HO153, Q_HA_HO153, Q_X5_, Q_X12_⟩ hb_ hon hoff
                        refine ⟨_, rfl, fun K hK => ?_⟩
                        have e32 : a.tmps[32]? = some (.int .i64 (rd y151 ((rd_T121 l0_1 x11_1).f1))) := by rw [ha]; exact putSel_on (e := (13, 32, .int .i64 (rd y151 ((rd_T121 l0_1 x11_1).f1)))) 9 rfl rfl (hon 13 (by kernel_rfl)) rfl
                        replace ha := Aside0.mk ha
                        have BK144 := Aside0.mk Q_BK144
                        have BK146 := Aside0.mk Q_BK146
                        have HB := Aside0.mk Q_HB
                        have HO149 := Aside0.mk (Q_HO149 (hon 2 (by kernel_rfl)))
                        have HA_HO149 := Aside0.mk (Q_HA_HO149 (hon 2 (by kernel_rfl)))
                        have HO153 := Aside0.mk (Q_HO153 (hon 9 (by kernel_rfl)))
                        have HA_HO153 := Aside0.mk (Q_HA_HO153 (hon 9 (by kernel_rfl)))
                        refine value_ (w1 := w') (v := .int .i64 (rd y151 ((rd_T121 l0_1 x11_1).f1))) (by rfl) rfl ?_ ?_
                        · go_simp
                          (try simp only [i64_w])
                          try rfl
                        refine hK.out _ _ ⟨v148, adz_v148, v152, adz_v152, m5_, m12_, (by rw [ha.out]; exact putSel_upk 11 hb_ rfl rfl rfl), Q_BK144, Q_BK146, Q_HB, Q_HO149, Q_HA_HO149, Q_HO153, Q_HA_HO153, Q_X5_, Q_X12_⟩
                      exact steps_nil
                    rintro b a w23 hall ⟨v148, adz_v148, v152, adz_v152, m5_, m12_, ha, Q_BK144, Q_BK146, Q_HB, Q_HO149, Q_HA_HO149, Q_HO153, Q_HA_HO153, Q_X5_, Q_X12_⟩
                    clear BK144 BK146 HB
                    have hb1_ := hall 1 (by kernel_rfl)
                    have hb2_ := hall 2 (by kernel_rfl)
                    have hb4_ := hall 4 (by kernel_rfl)
                    have hb5_ := hall 5 (by kernel_rfl)
                    have hb6_ := hall 6 (by kernel_rfl)
                    have hb8_ := hall 8 (by kernel_rfl)
                    have hb9_ := hall 9 (by kernel_rfl)
                    have hb11_ := hall 11 (by kernel_rfl)
                    have hb12_ := hall 12 (by kernel_rfl)
                    have hb13_ := hall 13 (by kernel_rfl)
                    have hb14_ := hall 14 (by kernel_rfl)
                    have hb15_ := hall 15 (by kernel_rfl)
                    subst ha
                    obtain rfl := Q_X5_ hb5_
                    obtain rfl := Q_X12_ hb12_
                    simp only [putSel, hb1_, hb2_, hb4_, hb5_, hb6_, hb8_, hb9_, hb11_, hb12_, hb13_, hb14_, hb15_, if_true, Act.put, List.setIfInBounds_toArray, List.set_cons_zero, List.set_cons_succ]
                    have BK144 := Aside0.mk Q_BK144
                    clear Q_BK144
                    have BK146 := Aside0.mk Q_BK146
                    clear Q_BK146
                    have HB := Aside0.mk Q_HB
                    clear Q_HB
                    have HO149 := Aside0.mk (Q_HO149 hb2_)
                    clear Q_HO149
                    have HA_HO149 := Aside0.mk (Q_HA_HO149 hb2_)
                    clear Q_HA_HO149
                    have HO153 := Aside0.mk (Q_HO153 hb9_)
                    clear Q_HO153
                    have HA_HO153 := Aside0.mk (Q_HA_HO153 hb9_)
                    clear Q_HA_HO153
                    clear hall hb1_ hb2_ hb4_ hb5_ hb6_ hb8_ hb9_ hb11_ hb12_ hb13_ hb14_ hb15_
                    obtain ⟨co24, eo24⟩ := HA_HO149.out
                    clear HA_HO149
                    subst eo24
                    obtain ⟨co25, eo25⟩ := HA_HO153.out
                    clear HA_HO153
                    subst eo25
                    try go_wp2
                    go_ret2
                    exact ⟨by first | rfl | (simp [errW_none, errW_some] <;> rfl) | (simp [*, errW_none, errW_some] <;> rfl), by repeat (first | (with_reducible first | exact HB.out | apply below_alloc | apply pw_below_drewN | apply below_drew1 | refine below_set ?_ GE144.out | refine below_set ?_ GE146.out) | exact HB.out)⟩
                  · rw [if_neg c11] at H
                    exact absurd H (by simp)
                · rw [if_neg c10] at H
                  exact absurd H (by simp)
              · rw [if_neg c9] at H
                exact absurd H (by simp)
            · rw [if_neg c8] at H
              have c8b0 : (((rd_T121 l0_1 x11_1).f0) == a1) = false := beq_eq_false_iff_ne.mpr c8
              have c8b1 : (((rd_T121 l0_1 x11_1).f0) != a1) = true := bne_iff_ne.mpr c8
              have H' := Aside0.mk H
              clear H
              have p145 : 0 ≤ (x11_1 : Int) := of_decide_eq_true (by first | (with_reducible assumption) | assumption)
              have q145 : x11_1 < (l0_1.length : Int) := of_decide_eq_true (by first | (with_reducible assumption) | assumption)
              obtain ⟨ad145, e145, hx145_0, hx145_1, hx145_2⟩ := at_T121 HR0_1.out x11_1 p145 q145
              cases e145
              replace hx145_0 := (HB.out.cell (World.block_lt_of_cell? w _ hx145_0)).trans hx145_0
              replace hx145_1 := (HB.out.cell (World.block_lt_of_cell? w _ hx145_1)).trans hx145_1
              replace hx145_2 := (HB.out.cell (World.block_lt_of_cell? w _ hx145_2)).trans hx145_2
              replace p145 := eq_true p145
              replace q145 := eq_true q145
              go_wp2_with (first | ((with_reducible refine gate_dst (N := 7) rfl ?_); refine box_event ?hg (N := 7) ?hd (cs := #[.int .i64 0, .int .i64 0, .int .i64 0]) (t := 121) ?hr ?_; (case hd => rfl); (case hg => rfl); (case hr => first | (go_simp; done) | (go_simp; rfl)); intro gb146 hg w26 hbox hb; have n0_ := Aside0.mk (blk_below (g := gb144) (o := .cells #[.slice A0_0 l0_0.length c0_0, .slice (some ad145) l0_1.length c0_1] 46 (0, 0)) (by (with_reducible repeat (first | refine blk_drewN ?_ _ | refine blk_drew ?_ | refine blk_alloc ?_ _)); exact BK144.out) hb); have n1_ := Aside0.mk (below_step (by repeat (first | (with_reducible first | exact HB.out | apply below_alloc | apply pw_below_drewN | apply below_drew1 | refine below_set ?_ GE144.out) | exact HB.out)) hb); have n2_ := Aside0.mk (hbox); have n3_ := Aside0.mk ((by rw [hg]; exact (below_size (by repeat (first | (with_reducible first | exact HB.out | apply below_alloc | apply pw_below_drewN | apply below_drew1 | refine below_set ?_ GE144.out) | exact HB.out))) : w.heap.size ≤ gb146)); have n4_ := Aside0.mk ((by rw [hg]; exact (below_size (by repeat (first | (with_reducible first | exact HB.out | apply below_alloc | apply pw_below_drewN | apply below_drew1 | refine below_set ?_ GE144.out) | exact HB.out))) : w.heap.size ≤ gb146)); have n5_ := Aside0.mk ((by rw [hg]; exact Nat.ne_of_lt (blk_lt (g := gb144) (o := .cells #[.slice A0_0 l0_0.length c0_0, .slice (some ad145) l0_1.length c0_1] 46 (0, 0)) (by (with_reducible repeat (first | refine blk_drewN ?_ _ | refine blk_drew ?_ | refine blk_alloc ?_ _)); exact BK144.out)) : gb144 ≠ gb146)); have n6_ := Aside0.mk ((by rw [hg]; exact Nat.ne_of_gt (blk_lt (g := gb144) (o := .cells #[.slice A0_0 l0_0.length c0_0, .slice (some ad145) l0_1.length c0_1] 46 (0, 0)) (by (with_reducible repeat (first | refine blk_drewN ?_ _ | refine blk_drew ?_ | refine blk_alloc ?_ _)); exact BK144.out)) : gb146 ≠ gb144)); clear BK144; clear HB; have BK144 := n0_; have HB := n1_; have BK146 := n2_; have GW146 := n3_; have GE146 := n4_; have NB144_146 := n5_; have NB146_144 := n6_; clear n0_ n1_ n2_ n3_ n4_ n5_ n6_; clear hb hbox hg; have hnb27 := NB146_144.out; have hnc27 := NB144_146.out; have hcz28_0 : w26.cell? ⟨gb146, 0, none⟩ = some (.int .i64 0) := (blk_cell BK146.out 0).trans rfl; have hcz28_1 : w26.cell? ⟨gb146, 1, none⟩ = some (.int .i64 0) := (blk_cell BK146.out 1).trans rfl; have hcz28_2 : w26.cell? ⟨gb146, 2, none⟩ = some (.int .i64 0) := (blk_cell BK146.out 2).trans rfl; have hfz28_0 := blk_frozen BK146.out 0; have hfz28_1 := blk_frozen BK146.out 1; have hfz28_2 := blk_frozen BK146.out 2))
              go_roundg k1
              case measure => have := HK1.out; omega
              case rel => exact ⟨(wrap64 (x11_1 + 1)), (by first | rfl | (simp; done) | (simp [*]; done)), H', ⟨by have := HK1.out; omega⟩, ⟨by (with_reducible repeat (first | refine blk_drewN ?_ _ | refine blk_drew ?_ | refine blk_alloc ?_ _)); refine blk_far ?_ NB144_146.out _; (with_reducible repeat (first | refine blk_drewN ?_ _ | refine blk_drew ?_ | refine blk_alloc ?_ _)); refine blk_far ?_ NB144_146.out _; (with_reducible repeat (first | refine blk_drewN ?_ _ | refine blk_drew ?_ | refine blk_alloc ?_ _)); refine blk_far ?_ NB144_146.out _; (with_reducible repeat (first | refine blk_drewN ?_ _ | refine blk_drew ?_ | refine blk_alloc ?_ _)); exact BK144.out⟩, ⟨by repeat (first | (with_reducible first | exact HB.out | apply below_alloc | apply pw_below_drewN | apply below_drew1 | refine below_set ?_ GE144.out | refine below_set ?_ GE146.out) | exact HB.out)⟩⟩
          · rw [if_neg c7] at H
            exact absurd H (by simp)
        · rw [if_neg c6] at H
          exact absurd H (by simp)
      · rw [if_neg c5] at H
        have c5b0 : decide (x11_1 < (l0_1.length : Int)) = false := decide_eq_false c5
        clear c5
        simp only [Option.some.injEq, Prod.mk.injEq] at H
        obtain ⟨rfl, rfl⟩ := H
        go_wp2
        go_ret2
        exact ⟨by first | rfl | (simp [errW_none, errW_some] <;> rfl) | (simp [*, errW_none, errW_some] <;> rfl), by repeat (first | (with_reducible first | exact HB.out | apply below_alloc | apply pw_below_drewN | apply below_drew1 | refine below_set ?_ GE144.out) | exact HB.out)⟩

def wrackref1_Passes.f (l0 : List Int) : Option Int := none


-- NOT PRINTED: function 10 (wracklaw1_PassRuns)

end Go.Proofs.Ytdgkbpoljcndgaa.QPassRuns
