/- Written by a program of this session (wip/mprint): the walk of the Go code, function by function, for every input; no condition. -/
import Derived.Test.YtdgkbpoljcndgaaQDriveReadsx0
import Derived.Maps.OwnOps
import Derived.Maps.Views
import Derived.Lib.SliceRun
namespace Go.Proofs.Ytdgkbpoljcndgaa.QDriveReads
open Go.RowKit Go.Proofs.YtdgkbpoljcndgaaW.PrintWords Go.Proofs.YtdgkbpoljcndgaaW.PrintLast Go.Proofs.YtdgkbpoljcndgaaW.PrintMore
attribute [local go_sem] max2_int min2_int max_two min_two max_three min_three max_four min_four   -- for this text's walks alone
set_option linter.unusedVariables false
set_option linter.unusedSimpArgs false

/-! ### wrackref1_Needs: function 33 -/
def wrackref1_Needs.l0 : Nat → Int → List (S121) → Int → Int → Option (Int × Int)
  | 0, _, _, _, _ => none
  | k + 1, x1, x9, x10, x11 => if x11 < x10 then (if 0 ≤ x11 then (if x11 < (x9.length : Int) then (if ((rd_T121 x9 x11).f0) = x1 then ((some (([0, 0, (rd_T121 x9 x11).f2, 1] : List Int) : List Int)).bind fun y145 => (if 0 ≤ ((rd_T121 x9 x11).f1) then (if ((rd_T121 x9 x11).f1) < (y145.length : Int) then ((some (([0, 1, 1, (rd_T121 x9 x11).f2] : List Int) : List Int)).bind fun y149 => (if ((rd_T121 x9 x11).f1) < (y149.length : Int) then (some (rd y145 ((rd_T121 x9 x11).f1), rd y149 ((rd_T121 x9 x11).f1))) else (none))) else (none)) else (none))) else (wrackref1_Needs.l0 k x1 x9 x10 (wrap64 (x11 + 1)))) else (none)) else (none)) else (some (1, 1))
def wrackref1_Needs.f (k : Nat) (l0_0 : List Int) (l0_1 : List (S121)) (a1 : Int) : Option (Int × Int) := wrackref1_Needs.l0 k a1 l0_1 (l0_1.length : Int) 0
theorem wrackref1_Needs.mono_l : ∀ k, (∀ y0 y1 y2 y3, LeO (wrackref1_Needs.l0 k y0 y1 y2 y3) (wrackref1_Needs.l0 (k + 1) y0 y1 y2 y3))
  | 0 => fun _ _ _ _ r h => by simp [wrackref1_Needs.l0] at h
  | k + 1 => by
    have ih0 := wrackref1_Needs.mono_l k
    · intro y0 y1 y2 y3
      unfold wrackref1_Needs.l0
      repeat' first
      | (with_reducible exact ih0 _ _ _ _)
      | (with_reducible exact LeO.refl _)
      | (with_reducible exact LeO.none _)
      | (with_reducible refine LeO.ite ?_ ?_)
      | (with_reducible refine LeO.bind ?_ (fun _ => ?_))
      | exact ih0 _ _ _ _
      | exact LeO.none _
      | refine LeO.ite ?_ ?_
      | refine LeO.bind ?_ (fun _ => ?_)
theorem wrackref1_Needs.mono : ∀ a0 a1 a2 k, LeO (wrackref1_Needs.f k a0 a1 a2) (wrackref1_Needs.f (k + 1) a0 a1 a2) := by
  intro a0 a1 a2 k
  have ih0 := wrackref1_Needs.mono_l k
  unfold wrackref1_Needs.f
  repeat' first
      | (with_reducible exact ih0 _ _ _ _)
      | (with_reducible exact LeO.refl _)
      | (with_reducible exact LeO.none _)
      | (with_reducible refine LeO.ite ?_ ?_)
      | (with_reducible refine LeO.bind ?_ (fun _ => ?_))
      | exact ih0 _ _ _ _
      | exact LeO.none _
      | refine LeO.ite ?_ ?_
      | refine LeO.bind ?_ (fun _ => ?_)
def wrackref1_Needs.T5 : Bool × List (List Nat × List Nat) := (true, [([], []), ([0], [0]), ([1], [1]), ([], []), ([3], [3]), ([2, 4], [2, 4]), ([5], [5]), ([], []), ([7], [7]), ([8], [8]), ([], []), ([10], [10]), ([9, 11], [9, 11]), ([12], [12]), ([6, 0, 1, 2, 3, 4, 5, 6], [6]), ([13, 14, 0, 1, 2, 3, 4, 5, 6, 7, 8, 9, 10, 11, 12, 13, 14], [13])])
def wrackref1_Needs.B5 : List Nat := [0, 1, 3, 0, 8, 31, 63, 0, 128, 384, 0, 1024, 3968, 8064, 127, 32767]
theorem wrackref1_Needs.tab5 : rtab .any (opsOf Try.f33 5) = wrackref1_Needs.T5 := by kernel_rfl
theorem wrackref1_Needs.bits5 : waitsOk wrackref1_Needs.T5.2 wrackref1_Needs.B5 = true := by kernel_rfl
set_option maxHeartbeats 8000000 in
set_option maxRecDepth 100000 in
theorem wrackref1_Needs.calls (k : Nat) (A0_0 : Option Addr) (c0_0 : Nat) (l0_0 : List Int) (A0_1 : Option Addr) (c0_1 : Nat) (l0_1 : List (S121)) (a1 : Int) (r1 : Int) (r2 : Int) (w : World) (hr0_0 : Kd.C (Kd.int .u8) w A0_0 l0_0.length l0_0) (hc0_0 : l0_0.length ≤ c0_0) (hr0_1 : Kd.C k121 w A0_1 l0_1.length l0_1) (hc0_1 : l0_1.length ≤ c0_1) (h : wrackref1_Needs.f k l0_0 l0_1 a1 = some (r1, r2)) :
    Calls Try.prog 33 #[.agg #[.slice A0_0 l0_0.length c0_0, .slice A0_1 l0_1.length c0_1], .int .i64 a1] w fun e w' => e = .returned (.tuple #[.int .i64 r1, .int .i64 r2]) ∧ Below w.heap.size w w' := by
  have hu46 := Try.underlying46
  have hu121 := Try.underlying121
  have HR0_0 := Aside0.mk hr0_0
  have HC0_0 := Aside0.mk hc0_0
  clear hr0_0 hc0_0
  have HR0_1 := Aside0.mk hr0_1
  have HC0_1 := Aside0.mk hc0_1
  clear hr0_1 hc0_1
  have HB := Aside0.mk (Below.refl w.heap.size w)
  have H : (wrackref1_Needs.l0 k a1 l0_1 (l0_1.length : Int) 0) = some (r1, r2) := h
  clear h
  have H' := Aside0.mk H
  clear H
  go_enter Try.func33, Try.ntmps33
  go_wp2_with (first | ((with_reducible refine gate_dst (N := 2) rfl ?_); refine box_event ?hg (N := 2) ?hd (cs := #[.slice A0_0 l0_0.length c0_0, .slice A0_1 l0_1.length c0_1]) (t := 46) ?hr ?_; (case hd => rfl); (case hg => rfl); (case hr => first | (go_simp; done) | (go_simp; rfl)); intro gb142 hg w3 hbox hb; have n0_ := Aside0.mk (below_step (by repeat (first | (with_reducible first | exact HB.out | apply below_alloc | apply pw_below_drewN | apply below_drew1) | exact HB.out)) hb); have n1_ := Aside0.mk (hbox); have n2_ := Aside0.mk ((by rw [hg]; exact (below_size (by repeat (first | (with_reducible first | exact HB.out | apply below_alloc | apply pw_below_drewN | apply below_drew1) | exact HB.out))) : w.heap.size ≤ gb142)); have n3_ := Aside0.mk ((by rw [hg]; exact (below_size (by repeat (first | (with_reducible first | exact HB.out | apply below_alloc | apply pw_below_drewN | apply below_drew1) | exact HB.out))) : w.heap.size ≤ gb142)); clear HB; have HB := n0_; have BK142 := n1_; have GW142 := n2_; have GE142 := n3_; clear n0_ n1_ n2_ n3_; clear hb hbox hg; have hcz4_0 : w3.cell? ⟨gb142, 0, none⟩ = some (.slice A0_0 l0_0.length c0_0) := (blk_cell BK142.out 0).trans rfl; have hcz4_1 : w3.cell? ⟨gb142, 1, none⟩ = some (.slice A0_1 l0_1.length c0_1) := (blk_cell BK142.out 1).trans rfl; have hfz4_0 := blk_frozen BK142.out 0; have hfz4_1 := blk_frozen BK142.out 1))
  go_loopg [11] k (fun kq v11 w' => ∃ (x11_1 : Int), v11 = .int .i64 x11_1 ∧ Aside0 (wrackref1_Needs.l0 kq a1 l0_1 (l0_1.length : Int) x11_1 = some (r1, r2)) ∧ Aside0 (kq ≤ k) ∧ Aside0 (w'.heap[gb142]? = some (.cells #[(.slice A0_0 l0_0.length c0_0), (.slice A0_1 l0_1.length c0_1)] 46 (0, 0))) ∧ Aside0 (Below w.heap.size w w'))
  case atStart => exact ⟨(0), (by first | rfl | (simp; done) | (simp [*]; done)), H', ⟨Nat.le_refl _⟩, ⟨by (with_reducible repeat (first | refine blk_drewN ?_ _ | refine blk_drew ?_ | refine blk_alloc ?_ _)); exact BK142.out⟩, ⟨by repeat (first | (with_reducible first | exact HB.out | apply below_alloc | apply pw_below_drewN | apply below_drew1 | refine below_set ?_ GE142.out) | exact HB.out)⟩⟩
  case round =>
    clear H'
    try clear p2
    try clear c3
    try clear hcz4_0
    try clear hcz4_1
    try clear hfz4_0
    try clear hfz4_1
    obtain ⟨x11_1, rfl, HA, HK1, BK142, HB⟩ := hrel
    cases gk with
    | zero => exact absurd HA.out (by simp [wrackref1_Needs.l0])
    | succ k1 =>
      have H := HA.out
      clear HA
      simp only [wrackref1_Needs.l0] at H
      by_cases c5 : x11_1 < (l0_1.length : Int)
      · rw [if_pos c5] at H
        have c5b0 : decide (x11_1 < (l0_1.length : Int)) = true := decide_eq_true c5
        clear c5
        by_cases c6 : 0 ≤ x11_1
        · rw [if_pos c6] at H
          have c6b0 : decide (0 ≤ x11_1) = true := decide_eq_true c6
          clear c6
          by_cases c7 : x11_1 < (l0_1.length : Int)
          · rw [if_pos c7] at H
            have c7b0 : decide (x11_1 < (l0_1.length : Int)) = true := decide_eq_true c7
            clear c7
            by_cases c8 : ((rd_T121 l0_1 x11_1).f0) = a1
            · rw [if_pos c8] at H
              have c8b0 : (((rd_T121 l0_1 x11_1).f0) == a1) = true := beq_iff_eq.mpr c8
              have c8b1 : (((rd_T121 l0_1 x11_1).f0) != a1) = false := bne_eq_false_iff_eq.mpr c8
              clear c8
              obtain ⟨y145, hy145⟩ : ∃ y_ : List Int, y_ = (([0, 0, (rd_T121 l0_1 x11_1).f2, 1] : List Int)) := ⟨_, rfl⟩
              replace H : (if 0 ≤ ((rd_T121 l0_1 x11_1).f1) then (if ((rd_T121 l0_1 x11_1).f1) < (y145.length : Int) then ((some (([0, 1, 1, (rd_T121 l0_1 x11_1).f2] : List Int) : List Int)).bind fun y149 => (if ((rd_T121 l0_1 x11_1).f1) < (y149.length : Int) then (some (rd y145 ((rd_T121 l0_1 x11_1).f1), rd y149 ((rd_T121 l0_1 x11_1).f1))) else (none))) else (none)) else (none)) = some (r1, r2) := by first | (rw [hy145]; with_reducible exact H) | (have H2_ := (Option.bind_some _ _).symm.trans H; rw [hy145]; with_reducible exact H2_) | (have H2_ := (Option.bind_some _ _).symm.trans H; with_reducible exact H2_) | with_reducible exact H | (rw [hy145]; exact H) | exact H
              have Ny145 := Aside0.mk hy145
              clear hy145
              by_cases c9 : 0 ≤ ((rd_T121 l0_1 x11_1).f1)
              · rw [if_pos c9] at H
                have c9b0 : decide (0 ≤ ((rd_T121 l0_1 x11_1).f1)) = true := decide_eq_true c9
                clear c9
                by_cases c10 : ((rd_T121 l0_1 x11_1).f1) < (y145.length : Int)
                · rw [if_pos c10] at H
                  have c10b0 : decide (((rd_T121 l0_1 x11_1).f1) < (y145.length : Int)) = true := decide_eq_true c10
                  clear c10
                  obtain ⟨y149, hy149⟩ : ∃ y_ : List Int, y_ = (([0, 1, 1, (rd_T121 l0_1 x11_1).f2] : List Int)) := ⟨_, rfl⟩
                  replace H : (if ((rd_T121 l0_1 x11_1).f1) < (y149.length : Int) then (some (rd y145 ((rd_T121 l0_1 x11_1).f1), rd y149 ((rd_T121 l0_1 x11_1).f1))) else (none)) = some (r1, r2) := by first | (rw [hy149]; with_reducible exact H) | (have H2_ := (Option.bind_some _ _).symm.trans H; rw [hy149]; with_reducible exact H2_) | (have H2_ := (Option.bind_some _ _).symm.trans H; with_reducible exact H2_) | with_reducible exact H | (rw [hy149]; exact H) | exact H
                  have Ny149 := Aside0.mk hy149
                  clear hy149
                  by_cases c11 : ((rd_T121 l0_1 x11_1).f1) < (y149.length : Int)
                  · rw [if_pos c11] at H
                    have c11b0 : decide (((rd_T121 l0_1 x11_1).f1) < (y149.length : Int)) = true := decide_eq_true c11
                    clear c11
                    simp only [Option.some.injEq, Prod.mk.injEq] at H
                    obtain ⟨rfl, rfl⟩ := H
                    have p143 : 0 ≤ (x11_1 : Int) := of_decide_eq_true (by first | (with_reducible assumption) | assumption)
                    have q143 : x11_1 < (l0_1.length : Int) := of_decide_eq_true (by first | (with_reducible assumption) | assumption)
                    obtain ⟨ad143, e143, hx143_0, hx143_1, hx143_2⟩ := at_T121 HR0_1.out x11_1 p143 q143
                    cases e143
                    replace hx143_0 := (HB.out.cell (World.block_lt_of_cell? w _ hx143_0)).trans hx143_0
                    replace hx143_1 := (HB.out.cell (World.block_lt_of_cell? w _ hx143_1)).trans hx143_1
                    replace hx143_2 := (HB.out.cell (World.block_lt_of_cell? w _ hx143_2)).trans hx143_2
                    replace p143 := eq_true p143
                    replace q143 := eq_true q143
                    try go_wp2_with (first | ((with_reducible refine gate_dst (N := 7) rfl ?_); refine box_event ?hg (N := 7) ?hd (cs := #[.int .i64 0, .int .i64 0, .int .i64 0]) (t := 121) ?hr ?_; (case hd => rfl); (case hg => rfl); (case hr => first | (go_simp; done) | (go_simp; rfl)); intro gb144 hg w12 hbox hb; have n0_ := Aside0.mk (blk_below (g := gb142) (o := .cells #[.slice A0_0 l0_0.length c0_0, .slice (some ad143) l0_1.length c0_1] 46 (0, 0)) (by (with_reducible repeat (first | refine blk_drewN ?_ _ | refine blk_drew ?_ | refine blk_alloc ?_ _)); exact BK142.out) hb); have n1_ := Aside0.mk (below_step (by repeat (first | (with_reducible first | exact HB.out | apply below_alloc | apply pw_below_drewN | apply below_drew1 | refine below_set ?_ GE142.out) | exact HB.out)) hb); have n2_ := Aside0.mk (hbox); have n3_ := Aside0.mk ((by rw [hg]; exact (below_size (by repeat (first | (with_reducible first | exact HB.out | apply below_alloc | apply pw_below_drewN | apply below_drew1 | refine below_set ?_ GE142.out) | exact HB.out))) : w.heap.size ≤ gb144)); have n4_ := Aside0.mk ((by rw [hg]; exact (below_size (by repeat (first | (with_reducible first | exact HB.out | apply below_alloc | apply pw_below_drewN | apply below_drew1 | refine below_set ?_ GE142.out) | exact HB.out))) : w.heap.size ≤ gb144)); have n5_ := Aside0.mk ((by rw [hg]; exact Nat.ne_of_lt (blk_lt (g := gb142) (o := .cells #[.slice A0_0 l0_0.length c0_0, .slice (some ad143) l0_1.length c0_1] 46 (0, 0)) (by (with_reducible repeat (first | refine blk_drewN ?_ _ | refine blk_drew ?_ | refine blk_alloc ?_ _)); exact BK142.out)) : gb142 ≠ gb144)); have n6_ := Aside0.mk ((by rw [hg]; exact Nat.ne_of_gt (blk_lt (g := gb142) (o := .cells #[.slice A0_0 l0_0.length c0_0, .slice (some ad143) l0_1.length c0_1] 46 (0, 0)) (by (with_reducible repeat (first | refine blk_drewN ?_ _ | refine blk_drew ?_ | refine blk_alloc ?_ _)); exact BK142.out)) : gb144 ≠ gb142)); clear BK142; clear HB; have BK142 := n0_; have HB := n1_; have BK144 := n2_; have GW144 := n3_; have GE144 := n4_; have NB142_144 := n5_; have NB144_142 := n6_; clear n0_ n1_ n2_ n3_ n4_ n5_ n6_; clear hb hbox hg; have hnb13 := NB144_142.out; have hnc13 := NB142_144.out; have hcz14_0 : w12.cell? ⟨gb144, 0, none⟩ = some (.int .i64 0) := (blk_cell BK144.out 0).trans rfl; have hcz14_1 : w12.cell? ⟨gb144, 1, none⟩ = some (.int .i64 0) := (blk_cell BK144.out 1).trans rfl; have hcz14_2 : w12.cell? ⟨gb144, 2, none⟩ = some (.int .i64 0) := (blk_cell BK144.out 2).trans rfl; have hfz14_0 := blk_frozen BK144.out 0; have hfz14_1 := blk_frozen BK144.out 1; have hfz14_2 := blk_frozen BK144.out 2))
                    have pi148 : (0 ≤ (((rd_T121 l0_1 x11_1).f1) : Int)) = True := eq_true (of_decide_eq_true (by first | (with_reducible assumption) | assumption))
                    have qi148 : (((rd_T121 l0_1 x11_1).f1) < (y145.length : Int)) = True := eq_true (of_decide_eq_true (by first | (with_reducible assumption) | assumption))
                    have pi152 : (0 ≤ (((rd_T121 l0_1 x11_1).f1) : Int)) = True := eq_true (of_decide_eq_true (by first | (with_reducible assumption) | assumption))
                    have qi152 : (((rd_T121 l0_1 x11_1).f1) < (y149.length : Int)) = True := eq_true (of_decide_eq_true (by first | (with_reducible assumption) | assumption))
                    have n0_ : Aside0 ((((w12.setCell ⟨gb144, 0, none⟩ (.int .i64 ((rd_T121 l0_1 x11_1).f0))).setCell ⟨gb144, 1, none⟩ (.int .i64 ((rd_T121 l0_1 x11_1).f1))).setCell ⟨gb144, 2, none⟩ (.int .i64 ((rd_T121 l0_1 x11_1).f2))).heap[gb142]? = some (.cells #[.slice A0_0 l0_0.length c0_0, .slice (some ad143) l0_1.length c0_1] 46 (0, 0))) := ⟨by (with_reducible repeat (first | refine blk_drewN ?_ _ | refine blk_drew ?_ | refine blk_alloc ?_ _)); refine blk_far ?_ NB142_144.out _; (with_reducible repeat (first | refine blk_drewN ?_ _ | refine blk_drew ?_ | refine blk_alloc ?_ _)); refine blk_far ?_ NB142_144.out _; (with_reducible repeat (first | refine blk_drewN ?_ _ | refine blk_drew ?_ | refine blk_alloc ?_ _)); refine blk_far ?_ NB142_144.out _; (with_reducible repeat (first | refine blk_drewN ?_ _ | refine blk_drew ?_ | refine blk_alloc ?_ _)); exact BK142.out⟩
                    have n1_ : Aside0 ((((w12.setCell ⟨gb144, 0, none⟩ (.int .i64 ((rd_T121 l0_1 x11_1).f0))).setCell ⟨gb144, 1, none⟩ (.int .i64 ((rd_T121 l0_1 x11_1).f1))).setCell ⟨gb144, 2, none⟩ (.int .i64 ((rd_T121 l0_1 x11_1).f2))).heap[gb144]? = some (.cells #[.int .i64 ((rd_T121 l0_1 x11_1).f0), .int .i64 ((rd_T121 l0_1 x11_1).f1), .int .i64 ((rd_T121 l0_1 x11_1).f2)] 121 (0, 0))) := ⟨by (with_reducible repeat (first | refine blk_drewN ?_ _ | refine blk_drew ?_ | refine blk_alloc ?_ _)); refine blk_put (cs := #[.int .i64 ((rd_T121 l0_1 x11_1).f0), .int .i64 ((rd_T121 l0_1 x11_1).f1), .int .i64 0]) ?_ 2 _ rfl; (with_reducible repeat (first | refine blk_drewN ?_ _ | refine blk_drew ?_ | refine blk_alloc ?_ _)); refine blk_put (cs := #[.int .i64 ((rd_T121 l0_1 x11_1).f0), .int .i64 0, .int .i64 0]) ?_ 1 _ rfl; (with_reducible repeat (first | refine blk_drewN ?_ _ | refine blk_drew ?_ | refine blk_alloc ?_ _)); refine blk_put (cs := #[.int .i64 0, .int .i64 0, .int .i64 0]) ?_ 0 _ rfl; (with_reducible repeat (first | refine blk_drewN ?_ _ | refine blk_drew ?_ | refine blk_alloc ?_ _)); exact BK144.out⟩
                    have n2_ : Aside0 (Below w.heap.size w (((w12.setCell ⟨gb144, 0, none⟩ (.int .i64 ((rd_T121 l0_1 x11_1).f0))).setCell ⟨gb144, 1, none⟩ (.int .i64 ((rd_T121 l0_1 x11_1).f1))).setCell ⟨gb144, 2, none⟩ (.int .i64 ((rd_T121 l0_1 x11_1).f2)))) := ⟨by repeat (first | (with_reducible first | exact HB.out | apply below_alloc | apply pw_below_drewN | apply below_drew1 | refine below_set ?_ GE142.out | refine below_set ?_ GE144.out) | exact HB.out)⟩
                    (try clear BK142)
                    (try clear BK144)
                    (try clear HB)
                    generalize (((w12.setCell ⟨gb144, 0, none⟩ (.int .i64 ((rd_T121 l0_1 x11_1).f0))).setCell ⟨gb144, 1, none⟩ (.int .i64 ((rd_T121 l0_1 x11_1).f1))).setCell ⟨gb144, 2, none⟩ (.int .i64 ((rd_T121 l0_1 x11_1).f2))) = w15 at n0_ n1_ n2_ ⊢
                    have BK142 := n0_
                    have BK144 := n1_
                    have HB := n2_
                    clear n0_ n1_ n2_
                    have n0_ := Aside0.mk (blk_drew BK142.out)
                    have n1_ := Aside0.mk (blk_drew BK144.out)
                    have n2_ := Aside0.mk (below_drew1 HB.out)
                    clear BK142
                    clear BK144
                    clear HB
                    have BK142 := n0_
                    have BK144 := n1_
                    have HB := n2_
                    clear n0_ n1_ n2_
                    refine start_ (n := 16) (S := fun w' => True) (ds := []) #[false, false, false, false, false, false, false, false, false, false, false, false, false, false, false, false] (by kernel_rfl) rfl rfl trivial (fun hHeld => ?_); refine with_tabW wrackref1_Needs.tab5 wrackref1_Needs.bits5 (fun HT_ HW_ => ?_)
                    generalize w15.drew = w16 at BK142 BK144 HB hHeld ⊢
                    refine pure_ (i := 0) (N := some 19) (v := ?_) (a' := ?_) #[true, false, false, false, false, false, false, false, false, false, false, false, false, false, false, false] rfl rfl (any_of HT_.out (by kernel_rfl)) (fun _ _ _ h => h) (Or.inl ⟨by rfl, ?_⟩) ?_ ?_
                    rotate_left
                    · intro w'
                      go_simp
                      with_reducible rfl
                    rotate_left
                    · simp only [Act.put, List.setIfInBounds_toArray, List.set_cons_zero, List.set_cons_succ, i64_w, i32_w]
                      rfl
                    refine pure_ (i := 3) (N := some 22) (v := ?_) (a' := ?_) #[true, false, false, true, false, false, false, false, false, false, false, false, false, false, false, false] rfl rfl (any_of HT_.out (by kernel_rfl)) (fun _ _ _ h => h) (Or.inl ⟨by rfl, ?_⟩) ?_ ?_
                    rotate_left
                    · intro w'
                      go_simp
                      with_reducible rfl
                    rotate_left
                    · simp only [Act.put, List.setIfInBounds_toArray, List.set_cons_zero, List.set_cons_succ, i64_w, i32_w]
                      rfl
                    refine pure_ (i := 7) (N := some 26) (v := ?_) (a' := ?_) #[true, false, false, true, false, false, false, true, false, false, false, false, false, false, false, false] rfl rfl (any_of HT_.out (by kernel_rfl)) (fun _ _ _ h => h) (Or.inl ⟨by rfl, ?_⟩) ?_ ?_
                    rotate_left
                    · intro w'
                      go_simp
                      with_reducible rfl
                    rotate_left
                    · simp only [Act.put, List.setIfInBounds_toArray, List.set_cons_zero, List.set_cons_succ, i64_w, i32_w]
                      rfl
                    refine pure_ (i := 10) (N := some 29) (v := ?_) (a' := ?_) #[true, false, false, true, false, false, false, true, false, false, true, false, false, false, false, false] rfl rfl (any_of HT_.out (by kernel_rfl)) (fun _ _ _ h => h) (Or.inl ⟨by rfl, ?_⟩) ?_ ?_
                    rotate_left
                    · intro w'
                      go_simp
                      with_reducible rfl
                    rotate_left
                    · simp only [Act.put, List.setIfInBounds_toArray, List.set_cons_zero, List.set_cons_succ, i64_w, i32_w]
                      rfl
                    refine inv_at [1, 2, 4, 5, 6, 8, 9, 11, 12, 13, 14, 15] (fun a0_ b a w' => ∃ (v146 : Value) (adz_v146 : Addr) (v150 : Value) (adz_v150 : Addr) (m5_ : Value) (m12_ : Value), a = putSel a0_ b [(1, 20, .int .i64 ((rd_T121 l0_1 x11_1).f2)), (2, 21, v146), (4, 23, .int .i64 ((rd_T121 l0_1 x11_1).f1)), (5, 24, m5_), (6, 25, .int .i64 (rd y145 ((rd_T121 l0_1 x11_1).f1))), (8, 27, .int .i64 ((rd_T121 l0_1 x11_1).f2)), (9, 28, v150), (11, 30, .int .i64 ((rd_T121 l0_1 x11_1).f1)), (12, 31, m12_), (13, 32, .int .i64 (rd y149 ((rd_T121 l0_1 x11_1).f1))), (14, 4, .int .i64 (rd y145 ((rd_T121 l0_1 x11_1).f1))), (15, 5, .int .i64 (rd y149 ((rd_T121 l0_1 x11_1).f1)))] ∧ (w'.heap[gb142]? = some (.cells #[.slice A0_0 l0_0.length c0_0, .slice (some ad143) l0_1.length c0_1] 46 (0, 0))) ∧ (w'.heap[gb144]? = some (.cells #[.int .i64 ((rd_T121 l0_1 x11_1).f0), .int .i64 ((rd_T121 l0_1 x11_1).f1), .int .i64 ((rd_T121 l0_1 x11_1).f2)] 121 (0, 0))) ∧ (Below w.heap.size w w') ∧ (b 2 = true → Kd.R (Kd.int .i64) 3 w' w.heap.size (fun _ => True) v146 y145) ∧ (b 2 = true → ∃ c_, (v146 : Value) = .slice (some adz_v146) y145.length c_) ∧ (b 9 = true → Kd.R (Kd.int .i64) 3 w' w.heap.size (fun _ => True) v150 y149) ∧ (b 9 = true → ∃ c_, (v150 : Value) = .slice (some adz_v150) y149.length c_) ∧ (b 5 = true → (m5_ : Value) = .pointer (some (adz_v146.add (((rd_T121 l0_1 x11_1).f1)).toNat))) ∧ (b 12 = true → (m12_ : Value) = .pointer (some (adz_v150.add (((rd_T121 l0_1 x11_1).f1)).toNat)))) HT_.out HW_.out (by kernel_rfl) (by kernel_rfl) ?_ ?_ ?_
                    · exact ⟨.bool false, ⟨0, 0, none⟩, .bool false, ⟨0, 0, none⟩, .bool false, .bool false, by simp only [putSel, Bool.false_eq_true, if_false], BK142.out, BK144.out, HB.out, fun h_ => absurd h_ (by decide), fun h_ => absurd h_ (by decide), fun h_ => absurd h_ (by decide), fun h_ => absurd h_ (by decide), fun h_ => absurd h_ (by decide), fun h_ => absurd h_ (by decide)⟩
                    · skip
                      clear BK142 BK144 HB
                      refine steps_cons ?_ ?_
                      · rintro b a w' ⟨v146, adz_v146, v150, adz_v150, m5_, m12_, ha, Q_BK142, Q_BK144, Q_HB, Q_HO147, Q_HA_HO147, Q_HO151, Q_HA_HO151, Q_X5_, Q_X12_⟩ hb_ hon hoff
                        refine ⟨_, rfl, fun K hK => ?_⟩
                        have e19 : a.tmps[19]? = some (.pointer (some ⟨gb144, 2, none⟩)) := by rw [ha]; exact (putSel_off rfl).trans rfl
                        replace ha := Aside0.mk ha
                        have BK142 := Aside0.mk Q_BK142
                        have BK144 := Aside0.mk Q_BK144
                        have HB := Aside0.mk Q_HB
                        have hc0_ : w'.cell? ⟨gb144, 0, none⟩ = some (.int .i64 ((rd_T121 l0_1 x11_1).f0)) := (blk_cell BK144.out 0).trans rfl
                        have hc1_ : w'.cell? ⟨gb144, 1, none⟩ = some (.int .i64 ((rd_T121 l0_1 x11_1).f1)) := (blk_cell BK144.out 1).trans rfl
                        have hc2_ : w'.cell? ⟨gb144, 2, none⟩ = some (.int .i64 ((rd_T121 l0_1 x11_1).f2)) := (blk_cell BK144.out 2).trans rfl
                        refine value_ (w1 := w') (v := .int .i64 ((rd_T121 l0_1 x11_1).f2)) (by rfl) rfl ?_ ?_
                        · go_simp
                          (try simp only [i64_w])
                          try rfl
                        refine hK.out _ _ ⟨v146, adz_v146, v150, adz_v150, m5_, m12_, (by rw [ha.out]; exact putSel_upk 0 hb_ rfl rfl rfl), Q_BK142, Q_BK144, Q_HB, fun h0_ => absurd ((hoff 2 (by kernel_rfl)).symm.trans h0_) (by decide), fun h0_ => absurd ((hoff 2 (by kernel_rfl)).symm.trans h0_) (by decide), Q_HO151, Q_HA_HO151, fun h0_ => absurd ((hoff 5 (by kernel_rfl)).symm.trans h0_) (by decide), Q_X12_⟩
                      refine steps_cons ?_ ?_
                      · rintro b a w' ⟨v146, adz_v146, v150, adz_v150, m5_, m12_, ha, Q_BK142, Q_BK144, Q_HB, Q_HO147, Q_HA_HO147, Q_HO151, Q_HA_HO151, Q_X5_, Q_X12_⟩ hb_ hon hoff
                        refine ⟨_, rfl, fun K hK => ?_⟩
                        have e20 : a.tmps[20]? = some (.int .i64 ((rd_T121 l0_1 x11_1).f2)) := by rw [ha]; exact putSel_on (e := (1, 20, .int .i64 ((rd_T121 l0_1 x11_1).f2))) 0 rfl rfl (hon 1 (by kernel_rfl)) rfl
                        replace ha := Aside0.mk ha
                        have BK142 := Aside0.mk Q_BK142
                        have BK144 := Aside0.mk Q_BK144
                        have HB := Aside0.mk Q_HB
                        refine Kd.R_lit_step (Kd.int .i64) _ 3 ?hg (N := 21) ?hd (xs := ([0, 0, (rd_T121 l0_1 x11_1).f2, 1] : List Int)) (inner := [.int .i64 0, .int .i64 0, .int .i64 ((rd_T121 l0_1 x11_1).f2), .int .i64 1]) (ok := fun _ => True) (okp := fun _ => True) ?hr ?hp (fun _ hk => hk) trivial (Below.refl _ _) (Nat.le_refl _) (by simp) ?_; (case hd => rfl); (case hg => rfl); (case hr => first | (go_simp; done) | (go_simp; rfl)); (case hp => exact (Reps.one (show Kd.M (Kd.int .i64) _ _ _ 0 [.int .i64 0] from rfl) (Reps.one (show Kd.M (Kd.int .i64) _ _ _ 0 [.int .i64 0] from rfl) (Reps.one (show Kd.M (Kd.int .i64) _ _ _ ((rd_T121 l0_1 x11_1).f2) [.int .i64 ((rd_T121 l0_1 x11_1).f2)] from rfl) (Reps.one (show Kd.M (Kd.int .i64) _ _ _ 1 [.int .i64 1] from rfl) (Reps.none _ _))))))
                        intro v146 w17 ho18 hb hg_ hnew_
                        clear hg_ hnew_
                        (first | rw [← Ny145.out] at ho18 | (simp only [Int.reduceToNat] at ho18; rw [← Ny145.out] at ho18))
                        have n0_ := Aside0.mk (Kd.R_lower ho18 (below_size (by repeat (first | (with_reducible first | exact HB.out | apply below_alloc | apply pw_below_drewN | apply below_drew1 | refine below_set ?_ GE142.out | refine below_set ?_ GE144.out) | exact HB.out))))
                        have n1_ := Aside0.mk (blk_below (g := gb142) (o := .cells #[.slice A0_0 l0_0.length c0_0, .slice (some ad143) l0_1.length c0_1] 46 (0, 0)) (by (with_reducible repeat (first | refine blk_drewN ?_ _ | refine blk_drew ?_ | refine blk_alloc ?_ _)); exact BK142.out) hb)
                        have n2_ := Aside0.mk (blk_below (g := gb144) (o := .cells #[.int .i64 ((rd_T121 l0_1 x11_1).f0), .int .i64 ((rd_T121 l0_1 x11_1).f1), .int .i64 ((rd_T121 l0_1 x11_1).f2)] 121 (0, 0)) (by (with_reducible repeat (first | refine blk_drewN ?_ _ | refine blk_drew ?_ | refine blk_alloc ?_ _)); exact BK144.out) hb)
                        have n3_ := Aside0.mk (below_step (by repeat (first | (with_reducible first | exact HB.out | apply below_alloc | apply pw_below_drewN | apply below_drew1 | refine below_set ?_ GE142.out | refine below_set ?_ GE144.out) | exact HB.out)) hb)
                        have z_HO151 := fun (h0_ : b 9 = true) => (show Kd.R (Kd.int .i64) 3 w17 w.heap.size (fun _ => True) v150 y149 from by first | exact (Kd.R_elder' (by (with_reducible repeat (first | apply Kd.R_alloc | apply Kd.R_drewN | apply Kd.R_drew)); exact (Q_HO151 h0_)) (Kd.R_base ho18) hb) | exact Kd.R_mono (Kd.R_elder' (by (with_reducible repeat (first | apply Kd.R_alloc | apply Kd.R_drewN | apply Kd.R_drew)); exact (Q_HO151 h0_)) (Kd.R_base ho18) hb) (fun _ h_ => by first | trivial | exact h_ | exact h_.1))
                        clear BK142
                        clear BK144
                        clear HB
                        have HO147 := n0_
                        have BK142 := n1_
                        have BK144 := n2_
                        have HB := n3_
                        clear n0_ n1_ n2_ n3_
                        clear hb ho18
                        obtain ⟨Ao19, co19, eo19⟩ := Kd.R_slice HO147.out
                        subst eo19
                        obtain ⟨ado19, fo19, _⟩ := Kd.at_int (Kd.R_reads' HO147.out).2.2 0 (by decide) (by rw [Ny145.out]; simp)
                        cases fo19
                        refine hK.out _ _ ⟨.slice (some ado19) y145.length co19, ado19, v150, adz_v150, m5_, m12_, (by rw [ha.out]; exact putSel_upk 1 hb_ rfl rfl rfl), (by (with_reducible repeat (first | refine blk_drewN ?_ _ | refine blk_drew ?_ | refine blk_alloc ?_ _)); exact BK142.out), (by (with_reducible repeat (first | refine blk_drewN ?_ _ | refine blk_drew ?_ | refine blk_alloc ?_ _)); exact BK144.out), (by repeat (first | (with_reducible first | exact HB.out | apply below_alloc | apply pw_below_drewN | apply below_drew1 | refine below_set ?_ GE142.out | refine below_set ?_ GE144.out) | exact HB.out)), fun _ => (by (with_reducible repeat (first | apply Kd.R_alloc | apply Kd.R_drewN | apply Kd.R_drew)); exact HO147.out), fun _ => ⟨_, rfl⟩, z_HO151, Q_HA_HO151, fun h0_ => absurd ((hoff 5 (by kernel_rfl)).symm.trans h0_) (by decide), Q_X12_⟩
                      refine steps_cons ?_ ?_
                      · rintro b a w' ⟨v146, adz_v146, v150, adz_v150, m5_, m12_, ha, Q_BK142, Q_BK144, Q_HB, Q_HO147, Q_HA_HO147, Q_HO151, Q_HA_HO151, Q_X5_, Q_X12_⟩ hb_ hon hoff
                        refine ⟨_, rfl, fun K hK => ?_⟩
                        have e22 : a.tmps[22]? = some (.pointer (some ⟨gb144, 1, none⟩)) := by rw [ha]; exact (putSel_off rfl).trans rfl
                        replace ha := Aside0.mk ha
                        have BK142 := Aside0.mk Q_BK142
                        have BK144 := Aside0.mk Q_BK144
                        have HB := Aside0.mk Q_HB
                        have hc0_ : w'.cell? ⟨gb144, 0, none⟩ = some (.int .i64 ((rd_T121 l0_1 x11_1).f0)) := (blk_cell BK144.out 0).trans rfl
                        have hc1_ : w'.cell? ⟨gb144, 1, none⟩ = some (.int .i64 ((rd_T121 l0_1 x11_1).f1)) := (blk_cell BK144.out 1).trans rfl
                        have hc2_ : w'.cell? ⟨gb144, 2, none⟩ = some (.int .i64 ((rd_T121 l0_1 x11_1).f2)) := (blk_cell BK144.out 2).trans rfl
                        refine value_ (w1 := w') (v := .int .i64 ((rd_T121 l0_1 x11_1).f1)) (by rfl) rfl ?_ ?_
                        · go_simp
                          (try simp only [i64_w])
                          try rfl
                        refine hK.out _ _ ⟨v146, adz_v146, v150, adz_v150, m5_, m12_, (by rw [ha.out]; exact putSel_upk 2 hb_ rfl rfl rfl), Q_BK142, Q_BK144, Q_HB, Q_HO147, Q_HA_HO147, Q_HO151, Q_HA_HO151, fun h0_ => absurd ((hoff 5 (by kernel_rfl)).symm.trans h0_) (by decide), Q_X12_⟩
                      refine steps_cons ?_ ?_
                      · rintro b a w' ⟨v146, adz_v146, v150, adz_v150, m5_, m12_, ha, Q_BK142, Q_BK144, Q_HB, Q_HO147, Q_HA_HO147, Q_HO151, Q_HA_HO151, Q_X5_, Q_X12_⟩ hb_ hon hoff
                        refine ⟨_, rfl, fun K hK => ?_⟩
                        have e21 : a.tmps[21]? = some (v146) := by rw [ha]; exact putSel_on (e := (2, 21, v146)) 1 rfl rfl (hon 2 (by kernel_rfl)) rfl
                        have e23 : a.tmps[23]? = some (.int .i64 ((rd_T121 l0_1 x11_1).f1)) := by rw [ha]; exact putSel_on (e := (4, 23, .int .i64 ((rd_T121 l0_1 x11_1).f1))) 2 rfl rfl (hon 4 (by kernel_rfl)) rfl
                        replace ha := Aside0.mk ha
                        have BK142 := Aside0.mk Q_BK142
                        have BK144 := Aside0.mk Q_BK144
                        have HB := Aside0.mk Q_HB
                        have HO147 := Aside0.mk (Q_HO147 (hon 2 (by kernel_rfl)))
                        have HA_HO147 := Aside0.mk (Q_HA_HO147 (hon 2 (by kernel_rfl)))
                        obtain ⟨c_, hv_⟩ := HA_HO147.out
                        rw [hv_] at e21
                        refine value_ (w1 := w') (v := .pointer (some (adz_v146.add (((rd_T121 l0_1 x11_1).f1)).toNat))) (by rfl) rfl ?_ ?_
                        · go_simp
                          (try simp only [i64_w])
                          try rfl
                        refine hK.out _ _ ⟨v146, adz_v146, v150, adz_v150, (.pointer (some (adz_v146.add (((rd_T121 l0_1 x11_1).f1)).toNat))), m12_, (by rw [ha.out]; exact putSel_upk 3 hb_ rfl rfl rfl), Q_BK142, Q_BK144, Q_HB, Q_HO147, Q_HA_HO147, Q_HO151, Q_HA_HO151, fun _ => rfl, Q_X12_⟩
                      refine steps_cons ?_ ?_
                      · rintro b a w' ⟨v146, adz_v146, v150, adz_v150, m5_, m12_, ha, Q_BK142, Q_BK144, Q_HB, Q_HO147, Q_HA_HO147, Q_HO151, Q_HA_HO151, Q_X5_, Q_X12_⟩ hb_ hon hoff
                        refine ⟨_, rfl, fun K hK => ?_⟩
                        have e24 : a.tmps[24]? = some (m5_) := by rw [ha]; exact putSel_on (e := (5, 24, m5_)) 3 rfl rfl (hon 5 (by kernel_rfl)) rfl
                        rw [Q_X5_ (hon 5 (by kernel_rfl))] at e24
                        replace ha := Aside0.mk ha
                        have BK142 := Aside0.mk Q_BK142
                        have BK144 := Aside0.mk Q_BK144
                        have HB := Aside0.mk Q_HB
                        have HO147 := Aside0.mk (Q_HO147 (hon 2 (by kernel_rfl)))
                        have HA_HO147 := Aside0.mk (Q_HA_HO147 (hon 2 (by kernel_rfl)))
                        obtain ⟨c_, hv_⟩ := HA_HO147.out
                        have hF_ := HO147.out
                        rw [hv_] at hF_
                        obtain ⟨ad_, ea_, hx_⟩ := Kd.at_int (Kd.R_reads' hF_).2.2 ((rd_T121 l0_1 x11_1).f1) (of_eq_true pi148) (of_eq_true qi148)
                        cases ea_
                        refine value_ (w1 := w') (v := .int .i64 (rd y145 ((rd_T121 l0_1 x11_1).f1))) (by rfl) rfl ?_ ?_
                        · go_simp
                          (try simp only [i64_w])
                          try rfl
                        refine hK.out _ _ ⟨v146, adz_v146, v150, adz_v150, m5_, m12_, (by rw [ha.out]; exact putSel_upk 4 hb_ rfl rfl rfl), Q_BK142, Q_BK144, Q_HB, Q_HO147, Q_HA_HO147, Q_HO151, Q_HA_HO151, Q_X5_, Q_X12_⟩
                      refine steps_cons ?_ ?_
                      · rintro b a w' ⟨v146, adz_v146, v150, adz_v150, m5_, m12_, ha, Q_BK142, Q_BK144, Q_HB, Q_HO147, Q_HA_HO147, Q_HO151, Q_HA_HO151, Q_X5_, Q_X12_⟩ hb_ hon hoff
                        refine ⟨_, rfl, fun K hK => ?_⟩
                        have e26 : a.tmps[26]? = some (.pointer (some ⟨gb144, 2, none⟩)) := by rw [ha]; exact (putSel_off rfl).trans rfl
                        replace ha := Aside0.mk ha
                        have BK142 := Aside0.mk Q_BK142
                        have BK144 := Aside0.mk Q_BK144
                        have HB := Aside0.mk Q_HB
                        have hc0_ : w'.cell? ⟨gb144, 0, none⟩ = some (.int .i64 ((rd_T121 l0_1 x11_1).f0)) := (blk_cell BK144.out 0).trans rfl
                        have hc1_ : w'.cell? ⟨gb144, 1, none⟩ = some (.int .i64 ((rd_T121 l0_1 x11_1).f1)) := (blk_cell BK144.out 1).trans rfl
                        have hc2_ : w'.cell? ⟨gb144, 2, none⟩ = some (.int .i64 ((rd_T121 l0_1 x11_1).f2)) := (blk_cell BK144.out 2).trans rfl
                        refine value_ (w1 := w') (v := .int .i64 ((rd_T121 l0_1 x11_1).f2)) (by rfl) rfl ?_ ?_
                        · go_simp
                          (try simp only [i64_w])
                          try rfl
                        refine hK.out _ _ ⟨v146, adz_v146, v150, adz_v150, m5_, m12_, (by rw [ha.out]; exact putSel_upk 5 hb_ rfl rfl rfl), Q_BK142, Q_BK144, Q_HB, Q_HO147, Q_HA_HO147, fun h0_ => absurd ((hoff 9 (by kernel_rfl)).symm.trans h0_) (by decide), fun h0_ => absurd ((hoff 9 (by kernel_rfl)).symm.trans h0_) (by decide), Q_X5_, fun h0_ => absurd ((hoff 12 (by kernel_rfl)).symm.trans h0_) (by decide)⟩
                      refine steps_cons ?_ ?_
                      · rintro b a w' ⟨v146, adz_v146, v150, adz_v150, m5_, m12_, ha, Q_BK142, Q_BK144, Q_HB, Q_HO147, Q_HA_HO147, Q_HO151, Q_HA_HO151, Q_X5_, Q_X12_⟩ hb_ hon hoff
                        refine ⟨_, rfl, fun K hK => ?_⟩
                        have e27 : a.tmps[27]? = some (.int .i64 ((rd_T121 l0_1 x11_1).f2)) := by rw [ha]; exact putSel_on (e := (8, 27, .int .i64 ((rd_T121 l0_1 x11_1).f2))) 5 rfl rfl (hon 8 (by kernel_rfl)) rfl
                        replace ha := Aside0.mk ha
                        have BK142 := Aside0.mk Q_BK142
                        have BK144 := Aside0.mk Q_BK144
                        have HB := Aside0.mk Q_HB
                        refine Kd.R_lit_step (Kd.int .i64) _ 3 ?hg (N := 28) ?hd (xs := ([0, 1, 1, (rd_T121 l0_1 x11_1).f2] : List Int)) (inner := [.int .i64 0, .int .i64 1, .int .i64 1, .int .i64 ((rd_T121 l0_1 x11_1).f2)]) (ok := fun _ => True) (okp := fun _ => True) ?hr ?hp (fun _ hk => hk) trivial (Below.refl _ _) (Nat.le_refl _) (by simp) ?_; (case hd => rfl); (case hg => rfl); (case hr => first | (go_simp; done) | (go_simp; rfl)); (case hp => exact (Reps.one (show Kd.M (Kd.int .i64) _ _ _ 0 [.int .i64 0] from rfl) (Reps.one (show Kd.M (Kd.int .i64) _ _ _ 1 [.int .i64 1] from rfl) (Reps.one (show Kd.M (Kd.int .i64) _ _ _ 1 [.int .i64 1] from rfl) (Reps.one (show Kd.M (Kd.int .i64) _ _ _ ((rd_T121 l0_1 x11_1).f2) [.int .i64 ((rd_T121 l0_1 x11_1).f2)] from rfl) (Reps.none _ _))))))
                        intro v150 w17 ho18 hb hg_ hnew_
                        clear hg_ hnew_
                        (first | rw [← Ny149.out] at ho18 | (simp only [Int.reduceToNat] at ho18; rw [← Ny149.out] at ho18))
                        have n0_ := Aside0.mk (Kd.R_lower ho18 (below_size (by repeat (first | (with_reducible first | exact HB.out | apply below_alloc | apply pw_below_drewN | apply below_drew1 | refine below_set ?_ GE142.out | refine below_set ?_ GE144.out) | exact HB.out))))
                        have n1_ := Aside0.mk (blk_below (g := gb142) (o := .cells #[.slice A0_0 l0_0.length c0_0, .slice (some ad143) l0_1.length c0_1] 46 (0, 0)) (by (with_reducible repeat (first | refine blk_drewN ?_ _ | refine blk_drew ?_ | refine blk_alloc ?_ _)); exact BK142.out) hb)
                        have n2_ := Aside0.mk (blk_below (g := gb144) (o := .cells #[.int .i64 ((rd_T121 l0_1 x11_1).f0), .int .i64 ((rd_T121 l0_1 x11_1).f1), .int .i64 ((rd_T121 l0_1 x11_1).f2)] 121 (0, 0)) (by (with_reducible repeat (first | refine blk_drewN ?_ _ | refine blk_drew ?_ | refine blk_alloc ?_ _)); exact BK144.out) hb)
                        have n3_ := Aside0.mk (below_step (by repeat (first | (with_reducible first | exact HB.out | apply below_alloc | apply pw_below_drewN | apply below_drew1 | refine below_set ?_ GE142.out | refine below_set ?_ GE144.out) | exact HB.out)) hb)
                        have z_HO147 := fun (h0_ : b 2 = true) => (show Kd.R (Kd.int .i64) 3 w17 w.heap.size (fun _ => True) v146 y145 from by first | exact (Kd.R_elder' (by (with_reducible repeat (first | apply Kd.R_alloc | apply Kd.R_drewN | apply Kd.R_drew)); exact (Q_HO147 h0_)) (Kd.R_base ho18) hb) | exact Kd.R_mono (Kd.R_elder' (by (with_reducible repeat (first | apply Kd.R_alloc | apply Kd.R_drewN | apply Kd.R_drew)); exact (Q_HO147 h0_)) (Kd.R_base ho18) hb) (fun _ h_ => by first | trivial | exact h_ | exact h_.1))
                        clear BK142
                        clear BK144
                        clear HB
                        have HO151 := n0_
                        have BK142 := n1_
                        have BK144 := n2_
                        have HB := n3_
                        clear n0_ n1_ n2_ n3_
                        clear hb ho18
                        obtain ⟨Ao19, co19, eo19⟩ := Kd.R_slice HO151.out
                        subst eo19
                        obtain ⟨ado19, fo19, _⟩ := Kd.at_int (Kd.R_reads' HO151.out).2.2 0 (by decide) (by rw [Ny149.out]; simp)
                        cases fo19
                        refine hK.out _ _ ⟨v146, adz_v146, .slice (some ado19) y149.length co19, ado19, m5_, m12_, (by rw [ha.out]; exact putSel_upk 6 hb_ rfl rfl rfl), (by (with_reducible repeat (first | refine blk_drewN ?_ _ | refine blk_drew ?_ | refine blk_alloc ?_ _)); exact BK142.out), (by (with_reducible repeat (first | refine blk_drewN ?_ _ | refine blk_drew ?_ | refine blk_alloc ?_ _)); exact BK144.out), (by repeat (first | (with_reducible first | exact HB.out | apply below_alloc | apply pw_below_drewN | apply below_drew1 | refine below_set ?_ GE142.out | refine below_set ?_ GE144.out) | exact HB.out)), z_HO147, Q_HA_HO147, fun _ => (by (with_reducible repeat (first | apply Kd.R_alloc | apply Kd.R_drewN | apply Kd.R_drew)); exact HO151.out), fun _ => ⟨_, rfl⟩, Q_X5_, fun h0_ => absurd ((hoff 12 (by kernel_rfl)).symm.trans h0_) (by decide)⟩
                      refine steps_cons ?_ ?_
                      · rintro b a w' ⟨v146, adz_v146, v150, adz_v150, m5_, m12_, ha, Q_BK142, Q_BK144, Q_HB, Q_HO147, Q_HA_HO147, Q_HO151, Q_HA_HO151, Q_X5_, Q_X12_⟩ hb_ hon hoff
                        refine ⟨_, rfl, fun K hK => ?_⟩
                        have e29 : a.tmps[29]? = some (.pointer (some ⟨gb144, 1, none⟩)) := by rw [ha]; exact (putSel_off rfl).trans rfl
                        replace ha := Aside0.mk ha
                        have BK142 := Aside0.mk Q_BK142
                        have BK144 := Aside0.mk Q_BK144
                        have HB := Aside0.mk Q_HB
                        have hc0_ : w'.cell? ⟨gb144, 0, none⟩ = some (.int .i64 ((rd_T121 l0_1 x11_1).f0)) := (blk_cell BK144.out 0).trans rfl
                        have hc1_ : w'.cell? ⟨gb144, 1, none⟩ = some (.int .i64 ((rd_T121 l0_1 x11_1).f1)) := (blk_cell BK144.out 1).trans rfl
                        have hc2_ : w'.cell? ⟨gb144, 2, none⟩ = some (.int .i64 ((rd_T121 l0_1 x11_1).f2)) := (blk_cell BK144.out 2).trans rfl
                        refine value_ (w1 := w') (v := .int .i64 ((rd_T121 l0_1 x11_1).f1)) (by rfl) rfl ?_ ?_
                        · go_simp
                          (try simp only [i64_w])
                          try rfl
                        refine hK.out _ _ ⟨v146, adz_v146, v150, adz_v150, m5_, m12_, (by rw [ha.out]; exact putSel_upk 7 hb_ rfl rfl rfl), Q_BK142, Q_BK144, Q_HB, Q_HO147, Q_HA_HO147, Q_HO151, Q_HA_HO151, Q_X5_, fun h0_ => absurd ((hoff 12 (by kernel_rfl)).symm.trans h0_) (by decide)⟩
                      refine steps_cons ?_ ?_
                      · rintro b a w' ⟨v146, adz_v146, v150, adz_v150, m5_, m12_, ha, Q_BK142, Q_BK144, Q_HB, Q_HO147, Q_HA_HO147, Q_HO151, Q_HA_HO151, Q_X5_, Q_X12_⟩ hb_ hon hoff
                        refine ⟨_, rfl, fun K hK => ?_⟩
                        have e28 : a.tmps[28]? = some (v150) := by rw [ha]; exact putSel_on (e := (9, 28, v150)) 6 rfl rfl (hon 9 (by kernel_rfl)) rfl
                        have e30 : a.tmps[30]? = some (.int .i64 ((rd_T121 l0_1 x11_1).f1)) := by rw [ha]; exact putSel_on (e := (11, 30, .int .i64 ((rd_T121 l0_1 x11_1).f1))) 7 rfl rfl (hon 11 (by kernel_rfl)) rfl
                        replace ha := Aside0.mk ha
                        have BK142 := Aside0.mk Q_BK142
                        have BK144 := Aside0.mk Q_BK144
                        have HB := Aside0.mk Q_HB
                        have HO151 := Aside0.mk (Q_HO151 (hon 9 (by kernel_rfl)))
                        have HA_HO151 := Aside0.mk (Q_HA_HO151 (hon 9 (by kernel_rfl)))
                        obtain ⟨c_, hv_⟩ := HA_HO151.out
                        rw [hv_] at e28
                        refine value_ (w1 := w') (v := .pointer (some (adz_v150.add (((rd_T121 l0_1 x11_1).f1)).toNat))) (by rfl) rfl ?_ ?_
                        · go_simp
                          (try simp only [i64_w])
                          try rfl
                        refine hK.out _ _ ⟨v146, adz_v146, v150, adz_v150, m5_, (.pointer (some (adz_v150.add (((rd_T121 l0_1 x11_1).f1)).toNat))), (by rw [ha.out]; exact putSel_upk 8 hb_ rfl rfl rfl), Q_BK142, Q_BK144, Q_HB, Q_HO147, Q_HA_HO147, Q_HO151, Q_HA_HO151, Q_X5_, fun _ => rfl⟩
                      refine steps_cons ?_ ?_
                      · rintro b a w' ⟨v146, adz_v146, v150, adz_v150, m5_, m12_, ha, Q_BK142, Q_BK144, Q_HB, Q_HO147, Q_HA_HO147, Q_HO151, Q_HA_HO151, Q_X5_, Q_X12_⟩ hb_ hon hoff
                        refine ⟨_, rfl, fun K hK => ?_⟩
                        have e31 : a.tmps[31]? = some (m12_) := by rw [ha]; exact putSel_on (e := (12, 31, m12_)) 8 rfl rfl (hon 12 (by kernel_rfl)) rfl
                        rw [Q_X12_ (hon 12 (by kernel_rfl))] at e31
                        replace ha := Aside0.mk ha
                        have BK142 := Aside0.mk Q_BK142
                        have BK144 := Aside0.mk Q_BK144
                        have HB := Aside0.mk Q_HB
                        have HO151 := Aside0.mk (Q_HO151 (hon 9 (by kernel_rfl)))
                        have HA_HO151 := Aside0.mk (Q_HA_HO151 (hon 9 (by kernel_rfl)))
                        obtain ⟨c_, hv_⟩ := HA_HO151.out
                        have hF_ := HO151.out
                        rw [hv_] at hF_
                        obtain ⟨ad_, ea_, hx_⟩ := Kd.at_int (Kd.R_reads' hF_).2.2 ((rd_T121 l0_1 x11_1).f1) (of_eq_true pi152) (of_eq_true qi152)
                        cases ea_
                        refine value_ (w1 := w') (v := .int .i64 (rd y149 ((rd_T121 l0_1 x11_1).f1))) (by rfl) rfl ?_ ?_
                        · go_simp
                          (try simp only [i64_w])
                          try rfl
                        refine hK.out _ _ ⟨v146, adz_v146, v150, adz_v150, m5_, m12_, (by rw [ha.out]; exact putSel_upk 9 hb_ rfl rfl rfl), Q_BK142, Q_BK144, Q_HB, Q_HO147, Q_HA_HO147, Q_HO151, Q_HA_HO151, Q_X5_, Q_X12_⟩
                      refine steps_cons ?_ ?_
                      · rintro b a w' ⟨v146, adz_v146, v150, adz_v150, m5_, m12_, ha, Q_BK142, Q_BK144, Q_HB, Q_HO147, Q_HA_HO147, Q_HO151, Q_HA_HO151, Q_X5_, Q_X12_⟩ hb_ hon hoff
                        refine ⟨_, rfl, fun K hK => ?_⟩
                        have e25 : a.tmps[25]? = some (.int .i64 (rd y145 ((rd_T121 l0_1 x11_1).f1))) := by rw [ha]; exact putSel_on (e := (6, 25, .int .i64 (rd y145 ((rd_T121 l0_1 x11_1).f1)))) 4 rfl rfl (hon 6 (by kernel_rfl)) rfl
                        replace ha := Aside0.mk ha
                        have BK142 := Aside0.mk Q_BK142
                        have BK144 := Aside0.mk Q_BK144
                        have HB := Aside0.mk Q_HB
                        have HO147 := Aside0.mk (Q_HO147 (hon 2 (by kernel_rfl)))
                        have HA_HO147 := Aside0.mk (Q_HA_HO147 (hon 2 (by kernel_rfl)))
                        refine value_ (w1 := w') (v := .int .i64 (rd y145 ((rd_T121 l0_1 x11_1).f1))) (by rfl) rfl ?_ ?_
                        · go_simp
                          (try simp only [i64_w])
                          try rfl
                        refine hK.out _ _ ⟨v146, adz_v146, v150, adz_v150, m5_, m12_, (by rw [ha.out]; exact putSel_upk 10 hb_ rfl rfl rfl), Q_BK142, Q_BK144, Q_HB, Q_HO147, Q_HA_HO147, Q_HO151, Q_HA_HO151, Q_X5_, Q_X12_⟩
                      refine steps_cons ?_ ?_
                      · rintro b a w' ⟨v146, adz_v146, v150, adz_v150, m5_, m12_, ha, Q_BK142, Q_BK144, Q_HB, Q_HO147, Q_HA_HO147, Q_HO151, Q_HA_HO151, Q_X5_, Q_X12_⟩ hb_ hon hoff
                        refine ⟨_, rfl, fun K hK => ?_⟩
                        have e32 : a.tmps[32]? = some (.int .i64 (rd y149 ((rd_T121 l0_1 x11_1).f1))) := by rw [ha]; exact putSel_on (e := (13, 32, .int .i64 (rd y149 ((rd_T121 l0_1 x11_1).f1)))) 9 rfl rfl (hon 13 (by kernel_rfl)) rfl
                        replace ha := Aside0.mk ha
                        have BK142 := Aside0.mk Q_BK142
                        have BK144 := Aside0.mk Q_BK144
                        have HB := Aside0.mk Q_HB
                        have HO147 := Aside0.mk (Q_HO147 (hon 2 (by kernel_rfl)))
                        have HA_HO147 := Aside0.mk (Q_HA_HO147 (hon 2 (by kernel_rfl)))
                        have HO151 := Aside0.mk (Q_HO151 (hon 9 (by kernel_rfl)))
                        have HA_HO151 := Aside0.mk (Q_HA_HO151 (hon 9 (by kernel_rfl)))
                        refine value_ (w1 := w') (v := .int .i64 (rd y149 ((rd_T121 l0_1 x11_1).f1))) (by rfl) rfl ?_ ?_
                        · go_simp
                          (try simp only [i64_w])
                          try rfl
                        refine hK.out _ _ ⟨v146, adz_v146, v150, adz_v150, m5_, m12_, (by rw [ha.out]; exact putSel_upk 11 hb_ rfl rfl rfl), Q_BK142, Q_BK144, Q_HB, Q_HO147, Q_HA_HO147, Q_HO151, Q_HA_HO151, Q_X5_, Q_X12_⟩
                      exact steps_nil
                    rintro b a w23 hall ⟨v146, adz_v146, v150, adz_v150, m5_, m12_, ha, Q_BK142, Q_BK144, Q_HB, Q_HO147, Q_HA_HO147, Q_HO151, Q_HA_HO151, Q_X5_, Q_X12_⟩
                    clear BK142 BK144 HB
                    have hb1_ := hall 1 (by kernel_rfl)
                    have hb2_ := hall 2 (by kernel_rfl)
                    have hb4_ := hall 4 (by kernel_rfl)
                    have hb5_ := hall 5 (by kernel_rfl)
                    have hb6_ := hall 6 (by kernel_rfl)
                    have hb8_ := hall 8 (by kernel_rfl)
                    have hb9_ := hall 9 (by kernel_rfl)
                    have hb11_ := hall 11 (by kernel_rfl)
                    have hb12_ := hall 12 (by kernel_rfl)
                    have hb13_ := hall 13 (by kernel_rfl)
                    have hb14_ := hall 14 (by kernel_rfl)
                    have hb15_ := hall 15 (by kernel_rfl)
                    subst ha
                    obtain rfl := Q_X5_ hb5_
                    obtain rfl := Q_X12_ hb12_
                    simp only [putSel, hb1_, hb2_, hb4_, hb5_, hb6_, hb8_, hb9_, hb11_, hb12_, hb13_, hb14_, hb15_, if_true, Act.put, List.setIfInBounds_toArray, List.set_cons_zero, List.set_cons_succ]
                    have BK142 := Aside0.mk Q_BK142
                    clear Q_BK142
                    have BK144 := Aside0.mk Q_BK144
                    clear Q_BK144
                    have HB := Aside0.mk Q_HB
                    clear Q_HB
                    have HO147 := Aside0.mk (Q_HO147 hb2_)
                    clear Q_HO147
                    have HA_HO147 := Aside0.mk (Q_HA_HO147 hb2_)
                    clear Q_HA_HO147
                    have HO151 := Aside0.mk (Q_HO151 hb9_)
                    clear Q_HO151
                    have HA_HO151 := Aside0.mk (Q_HA_HO151 hb9_)
                    clear Q_HA_HO151
                    clear hall hb1_ hb2_ hb4_ hb5_ hb6_ hb8_ hb9_ hb11_ hb12_ hb13_ hb14_ hb15_
                    obtain ⟨co24, eo24⟩ := HA_HO147.out
                    clear HA_HO147
                    subst eo24
                    obtain ⟨co25, eo25⟩ := HA_HO151.out
                    clear HA_HO151
                    subst eo25
                    try go_wp2
                    go_ret2
                    exact ⟨by first | rfl | (simp [errW_none, errW_some] <;> rfl) | (simp [*, errW_none, errW_some] <;> rfl), by repeat (first | (with_reducible first | exact HB.out | apply below_alloc | apply pw_below_drewN | apply below_drew1 | refine below_set ?_ GE142.out | refine below_set ?_ GE144.out) | exact HB.out)⟩
                  · rw [if_neg c11] at H
                    exact absurd H (by simp)
                · rw [if_neg c10] at H
                  exact absurd H (by simp)
              · rw [if_neg c9] at H
                exact absurd H (by simp)
            · rw [if_neg c8] at H
              have c8b0 : (((rd_T121 l0_1 x11_1).f0) == a1) = false := beq_eq_false_iff_ne.mpr c8
              have c8b1 : (((rd_T121 l0_1 x11_1).f0) != a1) = true := bne_iff_ne.mpr c8
              have H' := Aside0.mk H
              clear H
              have p143 : 0 ≤ (x11_1 : Int) := of_decide_eq_true (by first | (with_reducible assumption) | assumption)
              have q143 : x11_1 < (l0_1.length : Int) := of_decide_eq_true (by first | (with_reducible assumption) | assumption)
              obtain ⟨ad143, e143, hx143_0, hx143_1, hx143_2⟩ := at_T121 HR0_1.out x11_1 p143 q143
              cases e143
              replace hx143_0 := (HB.out.cell (World.block_lt_of_cell? w _ hx143_0)).trans hx143_0
              replace hx143_1 := (HB.out.cell (World.block_lt_of_cell? w _ hx143_1)).trans hx143_1
              replace hx143_2 := (HB.out.cell (World.block_lt_of_cell? w _ hx143_2)).trans hx143_2
              replace p143 := eq_true p143
              replace q143 := eq_true q143
              go_wp2_with (first | ((with_reducible refine gate_dst (N := 7) rfl ?_); refine box_event ?hg (N := 7) ?hd (cs := #[.int .i64 0, .int .i64 0, .int .i64 0]) (t := 121) ?hr ?_; (case hd => rfl); (case hg => rfl); (case hr => first | (go_simp; done) | (go_simp; rfl)); intro gb144 hg w26 hbox hb; have n0_ := Aside0.mk (blk_below (g := gb142) (o := .cells #[.slice A0_0 l0_0.length c0_0, .slice (some ad143) l0_1.length c0_1] 46 (0, 0)) (by (with_reducible repeat (first | refine blk_drewN ?_ _ | refine blk_drew ?_ | refine blk_alloc ?_ _)); exact BK142.out) hb); have n1_ := Aside0.mk (below_step (by repeat (first | (with_reducible first | exact HB.out | apply below_alloc | apply pw_below_drewN | apply below_drew1 | refine below_set ?_ GE142.out) | exact HB.out)) hb); have n2_ := Aside0.mk (hbox); have n3_ := Aside0.mk ((by rw [hg]; exact (below_size (by repeat (first | (with_reducible first | exact HB.out | apply below_alloc | apply pw_below_drewN | apply below_drew1 | refine below_set ?_ GE142.out) | exact HB.out))) : w.heap.size ≤ gb144)); have n4_ := Aside0.mk ((by rw [hg]; exact (below_size (by repeat (first | (with_reducible first | exact HB.out | apply below_alloc | apply pw_below_drewN | apply below_drew1 | refine below_set ?_ GE142.out) | exact HB.out))) : w.heap.size ≤ gb144)); have n5_ := Aside0.mk ((by rw [hg]; exact Nat.ne_of_lt (blk_lt (g := gb142) (o := .cells #[.slice A0_0 l0_0.length c0_0, .slice (some ad143) l0_1.length c0_1] 46 (0, 0)) (by (with_reducible repeat (first | refine blk_drewN ?_ _ | refine blk_drew ?_ | refine blk_alloc ?_ _)); exact BK142.out)) : gb142 ≠ gb144)); have n6_ := Aside0.mk ((by rw [hg]; exact Nat.ne_of_gt (blk_lt (g := gb142) (o := .cells #[.slice A0_0 l0_0.length c0_0, .slice (some ad143) l0_1.length c0_1] 46 (0, 0)) (by (with_reducible repeat (first | refine blk_drewN ?_ _ | refine blk_drew ?_ | refine blk_alloc ?_ _)); exact BK142.out)) : gb144 ≠ gb142)); clear BK142; clear HB; have BK142 := n0_; have HB := n1_; have BK144 := n2_; have GW144 := n3_; have GE144 := n4_; have NB142_144 := n5_; have NB144_142 := n6_; clear n0_ n1_ n2_ n3_ n4_ n5_ n6_; clear hb hbox hg; have hnb27 := NB144_142.out; have hnc27 := NB142_144.out; have hcz28_0 : w26.cell? ⟨gb144, 0, none⟩ = some (.int .i64 0) := (blk_cell BK144.out 0).trans rfl; have hcz28_1 : w26.cell? ⟨gb144, 1, none⟩ = some (.int .i64 0) := (blk_cell BK144.out 1).trans rfl; have hcz28_2 : w26.cell? ⟨gb144, 2, none⟩ = some (.int .i64 0) := (blk_cell BK144.out 2).trans rfl; have hfz28_0 := blk_frozen BK144.out 0; have hfz28_1 := blk_frozen BK144.out 1; have hfz28_2 := blk_frozen BK144.out 2))
              go_roundg k1
              case measure => have := HK1.out; omega
              case rel => exact ⟨(wrap64 (x11_1 + 1)), (by first | rfl | (simp; done) | (simp [*]; done)), H', ⟨by have := HK1.out; omega⟩, ⟨by (with_reducible repeat (first | refine blk_drewN ?_ _ | refine blk_drew ?_ | refine blk_alloc ?_ _)); refine blk_far ?_ NB142_144.out _; (with_reducible repeat (first | refine blk_drewN ?_ _ | refine blk_drew ?_ | refine blk_alloc ?_ _)); refine blk_far ?_ NB142_144.out _; (with_reducible repeat (first | refine blk_drewN ?_ _ | refine blk_drew ?_ | refine blk_alloc ?_ _)); refine blk_far ?_ NB142_144.out _; (with_reducible repeat (first | refine blk_drewN ?_ _ | refine blk_drew ?_ | refine blk_alloc ?_ _)); exact BK142.out⟩, ⟨by repeat (first | (with_reducible first | exact HB.out | apply below_alloc | apply pw_below_drewN | apply below_drew1 | refine below_set ?_ GE142.out | refine below_set ?_ GE144.out) | exact HB.out)⟩⟩
          · rw [if_neg c7] at H
            exact absurd H (by simp)
        · rw [if_neg c6] at H
          exact absurd H (by simp)
      · rw [if_neg c5] at H
        have c5b0 : decide (x11_1 < (l0_1.length : Int)) = false := decide_eq_false c5
        clear c5
        simp only [Option.some.injEq, Prod.mk.injEq] at H
        obtain ⟨rfl, rfl⟩ := H
        go_wp2
        go_ret2
        exact ⟨by first | rfl | (simp [errW_none, errW_some] <;> rfl) | (simp [*, errW_none, errW_some] <;> rfl), by repeat (first | (with_reducible first | exact HB.out | apply below_alloc | apply pw_below_drewN | apply below_drew1 | refine below_set ?_ GE142.out) | exact HB.out)⟩

/-! ### slices_Equal_byte_byte: function 34 -/
def slices_Equal_byte_byte.l0 : Nat → List Int → List Int → Int → Int → Option (Bool)
  | 0, _, _, _, _ => none
  | k + 1, x0, x1, x12, x13 => if x13 < x12 then (if 0 ≤ x13 then (if x13 < (x0.length : Int) then (if x13 < (x1.length : Int) then (if (rd x0 x13) = (rd x1 x13) then (slices_Equal_byte_byte.l0 k x0 x1 x12 (wrap64 (x13 + 1))) else (some false)) else (none)) else (none)) else (none)) else (some true)
def slices_Equal_byte_byte.f (k : Nat) (l0 : List Int) (l1 : List Int) : Option (Bool) := if (l0.length : Int) = (l1.length : Int) then (slices_Equal_byte_byte.l0 k l0 l1 (l0.length : Int) 0) else (some false)
theorem slices_Equal_byte_byte.mono_l : ∀ k, (∀ y0 y1 y2 y3, LeO (slices_Equal_byte_byte.l0 k y0 y1 y2 y3) (slices_Equal_byte_byte.l0 (k + 1) y0 y1 y2 y3))
  | 0 => fun _ _ _ _ r h => by simp [slices_Equal_byte_byte.l0] at h
  | k + 1 => by
    have ih0 := slices_Equal_byte_byte.mono_l k
    · intro y0 y1 y2 y3
      unfold slices_Equal_byte_byte.l0
      repeat' first
      | (with_reducible exact ih0 _ _ _ _)
      | (with_reducible exact LeO.refl _)
      | (with_reducible exact LeO.none _)
      | (with_reducible refine LeO.ite ?_ ?_)
      | (with_reducible refine LeO.bind ?_ (fun _ => ?_))
      | exact ih0 _ _ _ _
      | exact LeO.none _
      | refine LeO.ite ?_ ?_
      | refine LeO.bind ?_ (fun _ => ?_)
theorem slices_Equal_byte_byte.mono : ∀ a0 a1 k, LeO (slices_Equal_byte_byte.f k a0 a1) (slices_Equal_byte_byte.f (k + 1) a0 a1) := by
  intro a0 a1 k
  have ih0 := slices_Equal_byte_byte.mono_l k
  unfold slices_Equal_byte_byte.f
  repeat' first
      | (with_reducible exact ih0 _ _ _ _)
      | (with_reducible exact LeO.refl _)
      | (with_reducible exact LeO.none _)
      | (with_reducible refine LeO.ite ?_ ?_)
      | (with_reducible refine LeO.bind ?_ (fun _ => ?_))
      | exact ih0 _ _ _ _
      | exact LeO.none _
      | refine LeO.ite ?_ ?_
      | refine LeO.bind ?_ (fun _ => ?_)
set_option maxHeartbeats 8000000 in
set_option maxRecDepth 100000 in
theorem slices_Equal_byte_byte.calls (k : Nat) (A0 : Option Addr) (c0 : Nat) (l0 : List Int) (A1 : Option Addr) (c1 : Nat) (l1 : List Int) (r : Bool) (w : World) (hr0 : Kd.C (Kd.int .u8) w A0 l0.length l0) (hc0 : l0.length ≤ c0) (hr1 : Kd.C (Kd.int .u8) w A1 l1.length l1) (hc1 : l1.length ≤ c1) (h : slices_Equal_byte_byte.f k l0 l1 = some r) :
    Calls Try.prog 34 #[.slice A0 l0.length c0, .slice A1 l1.length c1] w fun e w' => e = .returned (.bool r) ∧ Drawn0 w w' := by
  have HR0 := Aside0.mk hr0
  have HC0 := Aside0.mk hc0
  clear hr0 hc0
  have HR1 := Aside0.mk hr1
  have HC1 := Aside0.mk hc1
  clear hr1 hc1
  have H : (if (l0.length : Int) = (l1.length : Int) then (slices_Equal_byte_byte.l0 k l0 l1 (l0.length : Int) 0) else (some false)) = some r := h
  clear h
  by_cases c3 : (l0.length : Int) = (l1.length : Int)
  · rw [if_pos c3] at H
    have c3b0 : ((l0.length : Int) == (l1.length : Int)) = true := beq_iff_eq.mpr c3
    have c3b1 : ((l0.length : Int) != (l1.length : Int)) = false := bne_eq_false_iff_eq.mpr c3
    have c3b2 : (l0.length == l1.length) = true := by first | simpa using c3 | (simp at c3 ⊢; omega)
    clear c3
    have H' := Aside0.mk H
    clear H
    go_enter Try.func34, Try.ntmps34
    go_wp2
    repeat (go_quiet (fail); try go_wp2)
    go_loopg [13] k (fun kq v13 w' => ∃ (x13_1 : Int), v13 = .int .i64 x13_1 ∧ Aside0 (slices_Equal_byte_byte.l0 kq l0 l1 (l0.length : Int) x13_1 = some r) ∧ Aside0 (kq ≤ k) ∧ Drawn0 w w')
    case atStart => exact ⟨(0), (by first | rfl | (simp; done) | (simp [*]; done)), H', ⟨Nat.le_refl _⟩, by repeat (first | exact Drawn0.refl _ | apply Drawn0.step)⟩
    case round =>
      clear H'
      try clear c1
      try clear p2
      try clear c3
      try clear c3b0
      try clear c3b1
      try clear c3b2
      obtain ⟨x13_1, rfl, HA, HK1, ⟨m1, rfl⟩⟩ := hrel
      cases gk with
      | zero => exact absurd HA.out (by simp [slices_Equal_byte_byte.l0])
      | succ k1 =>
        have H := HA.out
        clear HA
        simp only [slices_Equal_byte_byte.l0] at H
        by_cases c4 : x13_1 < (l0.length : Int)
        · rw [if_pos c4] at H
          have c4b0 : decide (x13_1 < (l0.length : Int)) = true := decide_eq_true c4
          clear c4
          by_cases c5 : 0 ≤ x13_1
          · rw [if_pos c5] at H
            have c5b0 : decide (0 ≤ x13_1) = true := decide_eq_true c5
            clear c5
            by_cases c6 : x13_1 < (l0.length : Int)
            · rw [if_pos c6] at H
              have c6b0 : decide (x13_1 < (l0.length : Int)) = true := decide_eq_true c6
              clear c6
              by_cases c7 : x13_1 < (l1.length : Int)
              · rw [if_pos c7] at H
                have c7b0 : decide (x13_1 < (l1.length : Int)) = true := decide_eq_true c7
                clear c7
                by_cases c8 : (rd l0 x13_1) = (rd l1 x13_1)
                · rw [if_pos c8] at H
                  have c8b0 : ((rd l0 x13_1) == (rd l1 x13_1)) = true := beq_iff_eq.mpr c8
                  have c8b1 : ((rd l0 x13_1) != (rd l1 x13_1)) = false := bne_eq_false_iff_eq.mpr c8
                  clear c8
                  have H' := Aside0.mk H
                  clear H
                  have p153 : 0 ≤ (x13_1 : Int) := of_decide_eq_true (by first | (with_reducible assumption) | assumption)
                  have q153 : x13_1 < (l0.length : Int) := of_decide_eq_true (by first | (with_reducible assumption) | assumption)
                  obtain ⟨ad153, e153, hx153_0⟩ := Kd.at_int HR0.out x13_1 p153 q153
                  cases e153
                  replace p153 := eq_true p153
                  replace q153 := eq_true q153
                  have p154 : 0 ≤ (x13_1 : Int) := of_decide_eq_true (by first | (with_reducible assumption) | assumption)
                  have q154 : x13_1 < (l1.length : Int) := of_decide_eq_true (by first | (with_reducible assumption) | assumption)
                  obtain ⟨ad154, e154, hx154_0⟩ := Kd.at_int HR1.out x13_1 p154 q154
                  cases e154
                  replace p154 := eq_true p154
                  replace q154 := eq_true q154
                  go_wp2
                  repeat (go_quiet (fail); try go_wp2)
                  go_roundg k1
                  case measure => have := HK1.out; omega
                  case rel => exact ⟨(wrap64 (x13_1 + 1)), (by first | rfl | (simp; done) | (simp [*]; done)), H', ⟨by have := HK1.out; omega⟩, by repeat (first | exact Drawn0.refl _ | apply Drawn0.step)⟩
                · rw [if_neg c8] at H
                  have c8b0 : ((rd l0 x13_1) == (rd l1 x13_1)) = false := beq_eq_false_iff_ne.mpr c8
                  have c8b1 : ((rd l0 x13_1) != (rd l1 x13_1)) = true := bne_iff_ne.mpr c8
                  obtain rfl := Option.some.inj H
                  have p153 : 0 ≤ (x13_1 : Int) := of_decide_eq_true (by first | (with_reducible assumption) | assumption)
                  have q153 : x13_1 < (l0.length : Int) := of_decide_eq_true (by first | (with_reducible assumption) | assumption)
                  obtain ⟨ad153, e153, hx153_0⟩ := Kd.at_int HR0.out x13_1 p153 q153
                  cases e153
                  replace p153 := eq_true p153
                  replace q153 := eq_true q153
                  have p154 : 0 ≤ (x13_1 : Int) := of_decide_eq_true (by first | (with_reducible assumption) | assumption)
                  have q154 : x13_1 < (l1.length : Int) := of_decide_eq_true (by first | (with_reducible assumption) | assumption)
                  obtain ⟨ad154, e154, hx154_0⟩ := Kd.at_int HR1.out x13_1 p154 q154
                  cases e154
                  replace p154 := eq_true p154
                  replace q154 := eq_true q154
                  go_wp2
                  repeat (go_quiet (fail); try go_wp2)
                  go_ret
                  exact ⟨by first | rfl | (simp; done) | (simp [*]; done), by repeat (first | exact Drawn0.refl _ | apply Drawn0.step)⟩
              · rw [if_neg c7] at H
                exact absurd H (by simp)
            · rw [if_neg c6] at H
              exact absurd H (by simp)
          · rw [if_neg c5] at H
            exact absurd H (by simp)
        · rw [if_neg c4] at H
          have c4b0 : decide (x13_1 < (l0.length : Int)) = false := decide_eq_false c4
          clear c4
          obtain rfl := Option.some.inj H
          go_wp2
          repeat (go_quiet (fail); try go_wp2)
          go_ret
          exact ⟨by first | rfl | (simp; done) | (simp [*]; done), by repeat (first | exact Drawn0.refl _ | apply Drawn0.step)⟩
  · rw [if_neg c3] at H
    have c3b0 : ((l0.length : Int) == (l1.length : Int)) = false := beq_eq_false_iff_ne.mpr c3
    have c3b1 : ((l0.length : Int) != (l1.length : Int)) = true := bne_iff_ne.mpr c3
    have c3b2 : (l0.length == l1.length) = false := by first | simpa using c3 | (simp at c3 ⊢; omega)
    obtain rfl := Option.some.inj H
    go_enter Try.func34, Try.ntmps34
    go_wp2
    repeat (go_quiet (fail); try go_wp2)
    go_ret
    exact ⟨by first | rfl | (simp; done) | (simp [*]; done), by repeat (first | exact Drawn0.refl _ | apply Drawn0.step)⟩

-- import Derived.Maps.OwnOps
-- import Derived.Maps.Views
open Go.Maps
theorem disk_law : Keyed Try.prog 3 := int_keyed Try.underlying3
theorem disk_zero (w : World) : (zeroValue 3).run Try.prog w = .ok (.int .i64 0) w := by kernel_rfl
/-- block M holds a map that gives T; at most N entries -/
def MapIs (w : World) (M : Nat) (T : Int → Int) (N : Nat) : Prop :=
  ∃ D, World.ownsMap (H := Unit) w Try.prog 3 (plainElem Try.prog 3) M N D ∧ ∀ k : Int, D.atKey (.int .i64 k) (.lit (.int .i64 0)) = .lit (.int .i64 (T k))
theorem MapIs.lt {w : World} {M N : Nat} {T : Int → Int} (h : MapIs w M T N) : M < w.heap.size := by obtain ⟨D, h1, _⟩ := h; exact h1.lt
theorem MapIs.look {w : World} {M N : Nat} {T : Int → Int} (h : MapIs w M T N) (k : Int) (hk : (Lit.int .i64 k).wf = true) : (Instr.lookup 67 (.map (some M)) (.int .i64 k) false).run Try.prog w = .ok (.int .i64 (T k)) w := by
  obtain ⟨D, h1, h2⟩ := h
  obtain ⟨c, hrun, hat, _⟩ := h1.lookup_int disk_law Try.underlying67 Try.underlying3 (disk_zero w) (keyOf_int_mk Try.underlying3 hk)
  rw [h2 k] at hat
  have : T k = c := by simpa using hat
  rw [this]; exact hrun
theorem MapIs.upd {w : World} {M N : Nat} {T : Int → Int} (h : MapIs w M T N) (hN : N < maxLen) (k v : Int) (hk : (Lit.int .i64 k).wf = true) (hv : (Lit.int .i64 v).wf = true) :
    ∃ w', (Instr.mapUpdate 67 (.map (some M)) (.int .i64 k) (.int .i64 v)).run Try.prog w = .ok () w' ∧ MapIs w' M (fun j => if j = k then v else T j) (N + 1) ∧ w.grownBy w' (some M) := by
  obtain ⟨D, h1, h2⟩ := h
  obtain ⟨w', r1, r2, r3⟩ := h1.update disk_law Try.underlying67 hN (keyOf_int_mk Try.underlying3 hk) (plainElem_int Try.underlying3 hv)
  refine ⟨w', r1, ⟨_, r2, fun j => ?_⟩, r3⟩
  by_cases hj : j = k
  · subst hj
    simp only [if_true]
    obtain ⟨es, clock, _, _, _, hD⟩ := h1
    exact atKey_put_same (by rw [hD]; exact ⟨_, rfl⟩) (by trivial) _ _
  · simp only [if_neg hj]
    rw [atKey_put_other (by simpa using hj)]
    exact h2 j
theorem MapIs.same {w W : World} {M N : Nat} {T : Int → Int} (h : MapIs w M T N) (hk : W.heap[M]? = w.heap[M]?) : MapIs W M T N := by
  obtain ⟨D, ⟨es, clock, hb, F, hs, hD⟩, h2⟩ := h
  exact ⟨D, ⟨es, clock, hk.trans hb, F, hs, hD⟩, h2⟩
theorem MapIs.made (w : World) : MapIs (w.alloc (.map #[] 0)) w.heap.size (fun _ => 0) 0 := ⟨_, World.ownsMap_made w Try.prog 3 _, fun k => rfl⟩
/-- a drive that is being read: its block, its map, its rows (which lie below L) -/
structure IsDisk (w : World) (L g M : Nat) (A0 : Option Addr) (c0 : Nat) (data : List Int) (A1 : Option Addr) (c1 : Nat) (faults : List S121) (T : Int → Int) (t : Int) (N : Nat) : Prop where
  cells : w.heap[g]? = some (.cells #[.slice A0 data.length c0, .slice A1 faults.length c1, .map (some M), .int .i64 t] 128 (0, 0))
  ne : g ≠ M
  gl : g < L
  ml : M < L
  ll : L ≤ w.heap.size
  map : MapIs w M T N
  cap0 : data.length ≤ c0
  cap1 : faults.length ≤ c1
  rows : ∀ W : World, (∀ i, i < L → i ≠ g → i ≠ M → W.heap[i]? = w.heap[i]?) → Kd.C (Kd.int .u8) W A0 data.length data ∧ Kd.C k121 W A1 faults.length faults
section
variable {w W : World} {L g M : Nat} {A0 : Option Addr} {c0 : Nat} {data : List Int} {A1 : Option Addr} {c1 : Nat} {faults : List S121} {T : Int → Int} {t : Int} {N : Nat}
theorem IsDisk.move (h : IsDisk w L g M A0 c0 data A1 c1 faults T t N) (hs : w.heap.size ≤ W.heap.size) (hk : ∀ i, i < L → W.heap[i]? = w.heap[i]?) : IsDisk W L g M A0 c0 data A1 c1 faults T t N :=
  ⟨(hk g h.gl).trans h.cells, h.ne, h.gl, h.ml, Nat.le_trans h.ll hs, h.map.same (hk M h.ml), h.cap0, h.cap1, fun W2 h2 => h.rows W2 fun i hi hg hM => (h2 i hi hg hM).trans (hk i hi)⟩
theorem IsDisk.below (h : IsDisk w L g M A0 c0 data A1 c1 faults T t N) (hb : Below w.heap.size w W) : IsDisk W L g M A0 c0 data A1 c1 faults T t N :=
  h.move hb.size fun i hi => hb.block i (Nat.lt_of_lt_of_le hi h.ll)
set_option maxHeartbeats 2000000 in
set_option maxRecDepth 100000 in
theorem blocks_calls (h : IsDisk w L g M A0 c0 data A1 c1 faults T t N) (hl : data.length ≤ 140737488351232) :
    Calls Try.prog 44 #[.pointer (some ⟨g, 0, none⟩)] w fun e w' => e = .returned (.int .i64 ((data.length : Int) / 64)) ∧ w' = w := by
  have hc0 : w.cell? ⟨g, 0, none⟩ = some (.slice A0 data.length c0) := (blk_cell h.cells 0).trans rfl
  have hq : Int.tdiv (data.length : Int) 64 = (data.length : Int) / 64 := Int.tdiv_eq_ediv_of_nonneg (by omega)
  have hq2 : IntKind.i64.wrap ((data.length : Int) / 64) = (data.length : Int) / 64 := by rw [i64_w]; unfold wrap64; omega
  clear h
  go_enter Try.func44, Try.ntmps44
  go_wp2
  go_ret
  exact ⟨rfl, rfl⟩
end
def drive_Disk_Blocks.f (l0 : List Int) : Option Int := none


-- import Derived.Lib.SliceRun
/-- a copy -/
def slices_Clone_faults.f (l0 : List S121) : Option (List S121) := if l0.length ≤ 5864062014805 then some l0 else none
set_option maxHeartbeats 2000000 in
set_option maxRecDepth 100000 in
theorem slices_Clone_faults.calls (A0 : Option Addr) (c0 : Nat) (l0 : List S121) (r : List S121) (w : World) (hr0 : Kd.C k121 w A0 l0.length l0) (hc0 : l0.length ≤ c0) (h : slices_Clone_faults.f l0 = some r) :
    Calls Try.prog 87 #[.slice A0 l0.length c0] w fun e w' => ∃ v0_ : Value, e = .returned v0_ ∧ Kd.R k121 121 w' w.heap.size (fun _ => True) v0_ r ∧ Below w.heap.size w w' := by
  unfold slices_Clone_faults.f at h
  split at h
  · rename_i hl
    obtain rfl := Option.some.inj h
    have q22 : ∀ (w : World) (a : Option Addr) (n c n' c' : Nat), (binOp .eql 44 (.slice a n c) (.slice none n' c')).run Try.prog w = .ok (.bool a.isNone) w := fun w a n c n' c' => Go.Lib.run_eql_slice_nil w _ _ a n c n' c' Try.underlying44
    cases A0 with
    | none =>
      have h0 : l0 = [] := by
        refine List.eq_nil_of_length_eq_zero ?_
        rcases Nat.eq_zero_or_pos l0.length with h | h
        · exact h
        · obtain ⟨a, ha, _⟩ := hr0.2.2 h
          exact absurd ha (by simp)
      subst h0
      clear hr0
      go_enter Try.func87, Try.ntmps87
      go_wp2
      go_ret
      exact ⟨_, rfl, Kd.R_nil _ _ _ _ _, Below.refl _ _⟩
    | some ad =>
      have HR := Aside0.mk hr0
      clear hr0
      go_enter Try.func87, Try.ntmps87
      go_wp2_with (first
        | ((with_reducible refine gate_dst (N := 5) rfl ?_); refine Kd.R_lit k121 _ 121 ?hg (N := 5) ?hd (xs := ([] : List S121)) (inner := []) (ok := fun _ => True) (okp := fun _ => True) ?hr (Reps.none _ _) (fun _ hk => hk) trivial (Below.refl _ _) (Nat.le_refl _) (by simp) ?_; (case hd => rfl); (case hg => rfl); (case hr => first | (go_simp; done) | (go_simp; rfl)); intro v1 w1 HO HB hg hat; have HC := Aside0.mk (Kd.C_below HR.out HB); have HO := Aside0.mk HO; have HB := Aside0.mk HB; clear hg hat)
        | ((with_reducible refine gate_dst (N := 7) rfl ?_); refine Kd.R_append_rows k121 (Rr := k121.K w1) w.heap.size rfl (.tmp 5) (.tmp 6) 44 121 (.agg #[.int .i64 0, .int .i64 0, .int .i64 0]) 24 rfl Try.underlying44 info121 rfl (by decide) (by decide) v1 [] l0 (some ad) l0.length c0 (fun _ => True) (fun _ => False) rfl rfl HO.out HC.out (fun x cs h => (k121_open h) ▸ k121_mkM _ _ _ x) (fun _ h => h.elim) (fun _ _ => trivial) HB.out HB.out.size (by simp; omega) ?_; intro v2 w2 HO2 HB2 hg hat))
      go_ret
      exact ⟨_, rfl, by simpa using HO2, HB2⟩
  · exact absurd h (by simp)


end Go.Proofs.Ytdgkbpoljcndgaa.QDriveReads
