/- Written by a program of this session (wip/mprint): the walk of the Go code, function by function, for every input; no condition. -/
import Derived.Test.YtdgkbpoljcndgaaQPassRunsx0
import Derived.Maps.OwnOps
import Derived.Maps.Views
import Derived.Lib.SliceRun
import Derived.Lib.SliceRun
namespace Go.Proofs.Ytdgkbpoljcndgaa.QPassRuns
open Go.RowKit Go.Proofs.YtdgkbpoljcndgaaW.PrintWords Go.Proofs.YtdgkbpoljcndgaaW.PrintLast Go.Proofs.YtdgkbpoljcndgaaW.PrintMore
attribute [local go_sem] max2_int min2_int max_two min_two max_three min_three max_four min_four   -- for this text's walks alone
set_option linter.unusedVariables false
set_option linter.unusedSimpArgs false

/-! ### wrackref1_DriveErr: function 30 -/
mutual
def wrackref1_DriveErr.l0 : Nat → List (S121) → Int → Int → List Int → List (S121) → Option (Int)
  | 0, _, _, _, _, _ => none
  | k + 1, x17, x18, x19, x102000, x102001 => if x19 < x18 then (if 0 ≤ x19 then (if x19 < (x17.length : Int) then (if ((rd_T121 x17 x19).f0) < 0 then (wrackref1_DriveErr.j1 k x19 x17 x18 x19 true x102000 x102001 ((rd_T121 x17 x19).f0) ((rd_T121 x17 x19).f1) ((rd_T121 x17 x19).f2)) else (wrackref1_DriveErr.j1 k x19 x17 x18 x19 (decide (((rd_T121 x17 x19).f0) > (wrap64 ((wrap64 ((x102000.length : Int) / 64)) - 1)))) x102000 x102001 ((rd_T121 x17 x19).f0) ((rd_T121 x17 x19).f1) ((rd_T121 x17 x19).f2))) else (none)) else (none)) else (some 0)
def wrackref1_DriveErr.j1 : Nat → Int → List (S121) → Int → Int → Bool → List Int → List (S121) → Int → Int → Int → Option (Int)
  | 0, _, _, _, _, _, _, _, _, _, _ => none
  | k + 1, x3, x17, x18, x19, x36, x102000, x102001, x104000, x104001, x104002 => if x36 = true then (some 4) else (if x3 > 0 then (if 0 ≤ (wrap64 (x3 - 1)) then (if (wrap64 (x3 - 1)) < (x102001.length : Int) then (wrackref1_DriveErr.j2 k x17 x18 x19 (decide (((rd_T121 x102001 (wrap64 (x3 - 1))).f0) ≥ x104000)) x102000 x102001 x104000 x104001 x104002) else (none)) else (none)) else (wrackref1_DriveErr.j2 k x17 x18 x19 false x102000 x102001 x104000 x104001 x104002))
def wrackref1_DriveErr.j2 : Nat → List (S121) → Int → Int → Bool → List Int → List (S121) → Int → Int → Int → Option (Int)
  | 0, _, _, _, _, _, _, _, _, _ => none
  | k + 1, x17, x18, x19, x50, x102000, x102001, x104000, x104001, x104002 => if x50 = true then (some 11) else (if x104001 = 1 then (if x104002 < 0 then (some 4) else (if x104002 > 0 then (some 4) else (wrackref1_DriveErr.l0 k x17 x18 (wrap64 (x19 + 1)) x102000 x102001))) else (if x104001 = 2 then (if x104002 < 2 then (some 4) else (if x104002 > 16 then (some 4) else (wrackref1_DriveErr.l0 k x17 x18 (wrap64 (x19 + 1)) x102000 x102001))) else (if x104001 = 3 then (if x104002 < 2 then (some 4) else (if x104002 > 100 then (some 4) else (wrackref1_DriveErr.l0 k x17 x18 (wrap64 (x19 + 1)) x102000 x102001))) else (some 1))))
end
def wrackref1_DriveErr.f (k : Nat) (l0_0 : List Int) (l0_1 : List (S121)) : Option (Int) := if (l0_0.length : Int) > 65536 then (some 2) else (if ((l0_0.length : Int) % 64) > 0 then (some 3) else (wrackref1_DriveErr.l0 k l0_1 (l0_1.length : Int) 0 l0_0 l0_1))
theorem wrackref1_DriveErr.mono_l : ∀ k, (∀ y0 y1 y2 y3 y4, LeO (wrackref1_DriveErr.l0 k y0 y1 y2 y3 y4) (wrackref1_DriveErr.l0 (k + 1) y0 y1 y2 y3 y4)) ∧ (∀ y0 y1 y2 y3 y4 y5 y6 y7 y8 y9, LeO (wrackref1_DriveErr.j1 k y0 y1 y2 y3 y4 y5 y6 y7 y8 y9) (wrackref1_DriveErr.j1 (k + 1) y0 y1 y2 y3 y4 y5 y6 y7 y8 y9)) ∧ (∀ y0 y1 y2 y3 y4 y5 y6 y7 y8, LeO (wrackref1_DriveErr.j2 k y0 y1 y2 y3 y4 y5 y6 y7 y8) (wrackref1_DriveErr.j2 (k + 1) y0 y1 y2 y3 y4 y5 y6 y7 y8))
  | 0 => ⟨fun _ _ _ _ _ r h => by simp [wrackref1_DriveErr.l0] at h, fun _ _ _ _ _ _ _ _ _ _ r h => by simp [wrackref1_DriveErr.j1] at h, fun _ _ _ _ _ _ _ _ _ r h => by simp [wrackref1_DriveErr.j2] at h⟩
  | k + 1 => by
    obtain ⟨ih0, ih1, ih2⟩ := wrackref1_DriveErr.mono_l k
    refine ⟨?_, ?_, ?_⟩
    · intro y0 y1 y2 y3 y4
      unfold wrackref1_DriveErr.l0
      repeat' first
      | (with_reducible exact ih0 _ _ _ _ _)
      | (with_reducible exact ih1 _ _ _ _ _ _ _ _ _ _)
      | (with_reducible exact ih2 _ _ _ _ _ _ _ _ _)
      | (with_reducible exact LeO.refl _)
      | (with_reducible exact LeO.none _)
      | (with_reducible refine LeO.ite ?_ ?_)
      | (with_reducible refine LeO.bind ?_ (fun _ => ?_))
      | exact ih0 _ _ _ _ _
      | exact ih1 _ _ _ _ _ _ _ _ _ _
      | exact ih2 _ _ _ _ _ _ _ _ _
      | exact LeO.none _
      | refine LeO.ite ?_ ?_
      | refine LeO.bind ?_ (fun _ => ?_)
    · intro y0 y1 y2 y3 y4 y5 y6 y7 y8 y9
      unfold wrackref1_DriveErr.j1
      repeat' first
      | (with_reducible exact ih0 _ _ _ _ _)
      | (with_reducible exact ih1 _ _ _ _ _ _ _ _ _ _)
      | (with_reducible exact ih2 _ _ _ _ _ _ _ _ _)
      | (with_reducible exact LeO.refl _)
      | (with_reducible exact LeO.none _)
      | (with_reducible refine LeO.ite ?_ ?_)
      | (with_reducible refine LeO.bind ?_ (fun _ => ?_))
      | exact ih0 _ _ _ _ _
      | exact ih1 _ _ _ _ _ _ _ _ _ _
      | exact ih2 _ _ _ _ _ _ _ _ _
      | exact LeO.none _
      | refine LeO.ite ?_ ?_
      | refine LeO.bind ?_ (fun _ => ?_)
    · intro y0 y1 y2 y3 y4 y5 y6 y7 y8
      unfold wrackref1_DriveErr.j2
      repeat' first
      | (with_reducible exact ih0 _ _ _ _ _)
      | (with_reducible exact ih1 _ _ _ _ _ _ _ _ _ _)
      | (with_reducible exact ih2 _ _ _ _ _ _ _ _ _)
      | (with_reducible exact LeO.refl _)
      | (with_reducible exact LeO.none _)
      | (with_reducible refine LeO.ite ?_ ?_)
      | (with_reducible refine LeO.bind ?_ (fun _ => ?_))
      | exact ih0 _ _ _ _ _
      | exact ih1 _ _ _ _ _ _ _ _ _ _
      | exact ih2 _ _ _ _ _ _ _ _ _
      | exact LeO.none _
      | refine LeO.ite ?_ ?_
      | refine LeO.bind ?_ (fun _ => ?_)
theorem wrackref1_DriveErr.mono : ∀ a0 a1 k, LeO (wrackref1_DriveErr.f k a0 a1) (wrackref1_DriveErr.f (k + 1) a0 a1) := by
  intro a0 a1 k
  obtain ⟨ih0, ih1, ih2⟩ := wrackref1_DriveErr.mono_l k
  unfold wrackref1_DriveErr.f
  repeat' first
      | (with_reducible exact ih0 _ _ _ _ _)
      | (with_reducible exact ih1 _ _ _ _ _ _ _ _ _ _)
      | (with_reducible exact ih2 _ _ _ _ _ _ _ _ _)
      | (with_reducible exact LeO.refl _)
      | (with_reducible exact LeO.none _)
      | (with_reducible refine LeO.ite ?_ ?_)
      | (with_reducible refine LeO.bind ?_ (fun _ => ?_))
      | exact ih0 _ _ _ _ _
      | exact ih1 _ _ _ _ _ _ _ _ _ _
      | exact ih2 _ _ _ _ _ _ _ _ _
      | exact LeO.none _
      | refine LeO.ite ?_ ?_
      | refine LeO.bind ?_ (fun _ => ?_)
set_option maxHeartbeats 8000000 in
set_option maxRecDepth 100000 in
theorem wrackref1_DriveErr.calls (k : Nat) (A0_0 : Option Addr) (c0_0 : Nat) (l0_0 : List Int) (A0_1 : Option Addr) (c0_1 : Nat) (l0_1 : List (S121)) (r : Int) (w : World) (hr0_0 : Kd.C (Kd.int .u8) w A0_0 l0_0.length l0_0) (hc0_0 : l0_0.length ≤ c0_0) (hr0_1 : Kd.C k121 w A0_1 l0_1.length l0_1) (hc0_1 : l0_1.length ≤ c0_1) (h : wrackref1_DriveErr.f k l0_0 l0_1 = some r) :
    Calls Try.prog 30 #[.agg #[.slice A0_0 l0_0.length c0_0, .slice A0_1 l0_1.length c0_1]] w fun e w' => e = .returned (.int .i64 r) ∧ Below w.heap.size w w' := by
  have hu46 := Try.underlying46
  have hu121 := Try.underlying121
  have HR0_0 := Aside0.mk hr0_0
  have HC0_0 := Aside0.mk hc0_0
  clear hr0_0 hc0_0
  have HR0_1 := Aside0.mk hr0_1
  have HC0_1 := Aside0.mk hc0_1
  clear hr0_1 hc0_1
  have HB := Aside0.mk (Below.refl w.heap.size w)
  have H : (if (l0_0.length : Int) > 65536 then (some 2) else (if ((l0_0.length : Int) % 64) > 0 then (some 3) else (wrackref1_DriveErr.l0 k l0_1 (l0_1.length : Int) 0 l0_0 l0_1))) = some r := h
  clear h
  by_cases c2 : (l0_0.length : Int) > 65536
  · rw [if_pos c2] at H
    have c2b0 : decide (65536 < (l0_0.length : Int)) = true := decide_eq_true c2
    have c2b1 : decide (65536 < l0_0.length) = true := decide_eq_true (by omega)
    clear c2
    obtain rfl := Option.some.inj H
    go_enter Try.func30, Try.ntmps30
    go_wp2_with (first | ((with_reducible refine gate_dst (N := 1) rfl ?_); (try (refine gate_guard (by rfl) ?_; dsimp only)); refine box_event ?hg (N := 1) ?hd (cs := #[.slice A0_0 l0_0.length c0_0, .slice A0_1 l0_1.length c0_1]) (t := 46) ?hr ?_; (case hd => rfl); (case hg => rfl); (case hr => first | (go_simp; done) | (go_simp; rfl)); intro gb101 hg w3 hbox hb; have n0_ := Aside0.mk (below_step (by repeat (first | (with_reducible first | exact HB.out | apply below_alloc | apply pw_below_drewN | apply below_drew1) | exact HB.out)) hb); have n1_ := Aside0.mk (hbox); have n2_ := Aside0.mk ((by rw [hg]; exact (below_size (by repeat (first | (with_reducible first | exact HB.out | apply below_alloc | apply pw_below_drewN | apply below_drew1) | exact HB.out))) : w.heap.size ≤ gb101)); have n3_ := Aside0.mk ((by rw [hg]; exact (below_size (by repeat (first | (with_reducible first | exact HB.out | apply below_alloc | apply pw_below_drewN | apply below_drew1) | exact HB.out))) : w.heap.size ≤ gb101)); clear HB; have HB := n0_; have BK101 := n1_; have GW101 := n2_; have GE101 := n3_; clear n0_ n1_ n2_ n3_; clear hb hbox hg; have hcz4_0 : w3.cell? ⟨gb101, 0, none⟩ = some (.slice A0_0 l0_0.length c0_0) := (blk_cell BK101.out 0).trans rfl; have hcz4_1 : w3.cell? ⟨gb101, 1, none⟩ = some (.slice A0_1 l0_1.length c0_1) := (blk_cell BK101.out 1).trans rfl; have hfz4_0 := blk_frozen BK101.out 0; have hfz4_1 := blk_frozen BK101.out 1))
    repeat (go_quiet (first | ((with_reducible refine gate_dst (N := 1) rfl ?_); (try (refine gate_guard (by rfl) ?_; dsimp only)); refine box_event ?hg (N := 1) ?hd (cs := #[.slice A0_0 l0_0.length c0_0, .slice A0_1 l0_1.length c0_1]) (t := 46) ?hr ?_; (case hd => rfl); (case hg => rfl); (case hr => first | (go_simp; done) | (go_simp; rfl)); intro gb101 hg w3 hbox hb; have n0_ := Aside0.mk (below_step (by repeat (first | (with_reducible first | exact HB.out | apply below_alloc | apply pw_below_drewN | apply below_drew1) | exact HB.out)) hb); have n1_ := Aside0.mk (hbox); have n2_ := Aside0.mk ((by rw [hg]; exact (below_size (by repeat (first | (with_reducible first | exact HB.out | apply below_alloc | apply pw_below_drewN | apply below_drew1) | exact HB.out))) : w.heap.size ≤ gb101)); have n3_ := Aside0.mk ((by rw [hg]; exact (below_size (by repeat (first | (with_reducible first | exact HB.out | apply below_alloc | apply pw_below_drewN | apply below_drew1) | exact HB.out))) : w.heap.size ≤ gb101)); clear HB; have HB := n0_; have BK101 := n1_; have GW101 := n2_; have GE101 := n3_; clear n0_ n1_ n2_ n3_; clear hb hbox hg; have hcz4_0 : w3.cell? ⟨gb101, 0, none⟩ = some (.slice A0_0 l0_0.length c0_0) := (blk_cell BK101.out 0).trans rfl; have hcz4_1 : w3.cell? ⟨gb101, 1, none⟩ = some (.slice A0_1 l0_1.length c0_1) := (blk_cell BK101.out 1).trans rfl; have hfz4_0 := blk_frozen BK101.out 0; have hfz4_1 := blk_frozen BK101.out 1)); try go_wp2_with (first | ((with_reducible refine gate_dst (N := 1) rfl ?_); (try (refine gate_guard (by rfl) ?_; dsimp only)); refine box_event ?hg (N := 1) ?hd (cs := #[.slice A0_0 l0_0.length c0_0, .slice A0_1 l0_1.length c0_1]) (t := 46) ?hr ?_; (case hd => rfl); (case hg => rfl); (case hr => first | (go_simp; done) | (go_simp; rfl)); intro gb101 hg w3 hbox hb; have n0_ := Aside0.mk (below_step (by repeat (first | (with_reducible first | exact HB.out | apply below_alloc | apply pw_below_drewN | apply below_drew1) | exact HB.out)) hb); have n1_ := Aside0.mk (hbox); have n2_ := Aside0.mk ((by rw [hg]; exact (below_size (by repeat (first | (with_reducible first | exact HB.out | apply below_alloc | apply pw_below_drewN | apply below_drew1) | exact HB.out))) : w.heap.size ≤ gb101)); have n3_ := Aside0.mk ((by rw [hg]; exact (below_size (by repeat (first | (with_reducible first | exact HB.out | apply below_alloc | apply pw_below_drewN | apply below_drew1) | exact HB.out))) : w.heap.size ≤ gb101)); clear HB; have HB := n0_; have BK101 := n1_; have GW101 := n2_; have GE101 := n3_; clear n0_ n1_ n2_ n3_; clear hb hbox hg; have hcz4_0 : w3.cell? ⟨gb101, 0, none⟩ = some (.slice A0_0 l0_0.length c0_0) := (blk_cell BK101.out 0).trans rfl; have hcz4_1 : w3.cell? ⟨gb101, 1, none⟩ = some (.slice A0_1 l0_1.length c0_1) := (blk_cell BK101.out 1).trans rfl; have hfz4_0 := blk_frozen BK101.out 0; have hfz4_1 := blk_frozen BK101.out 1)))
    go_ret
    exact ⟨by first | rfl | (simp [errW_none, errW_some] <;> rfl) | (simp [*, errW_none, errW_some] <;> rfl), by repeat (first | (with_reducible first | exact HB.out | apply below_alloc | apply pw_below_drewN | apply below_drew1 | refine below_set ?_ GE101.out) | exact HB.out)⟩
  · rw [if_neg c2] at H
    have c2b0 : decide (65536 < (l0_0.length : Int)) = false := decide_eq_false c2
    have c2b1 : decide (65536 < l0_0.length) = false := decide_eq_false (by omega)
    clear c2
    by_cases c5 : ((l0_0.length : Int) % 64) > 0
    · rw [if_pos c5] at H
      have c5b0 : decide (0 < ((l0_0.length : Int) % 64)) = true := decide_eq_true c5
      clear c5
      obtain rfl := Option.some.inj H
      go_enter Try.func30, Try.ntmps30
      go_wp2_with (first | ((with_reducible refine gate_dst (N := 1) rfl ?_); (try (refine gate_guard (by rfl) ?_; dsimp only)); refine box_event ?hg (N := 1) ?hd (cs := #[.slice A0_0 l0_0.length c0_0, .slice A0_1 l0_1.length c0_1]) (t := 46) ?hr ?_; (case hd => rfl); (case hg => rfl); (case hr => first | (go_simp; done) | (go_simp; rfl)); intro gb101 hg w6 hbox hb; have n0_ := Aside0.mk (below_step (by repeat (first | (with_reducible first | exact HB.out | apply below_alloc | apply pw_below_drewN | apply below_drew1) | exact HB.out)) hb); have n1_ := Aside0.mk (hbox); have n2_ := Aside0.mk ((by rw [hg]; exact (below_size (by repeat (first | (with_reducible first | exact HB.out | apply below_alloc | apply pw_below_drewN | apply below_drew1) | exact HB.out))) : w.heap.size ≤ gb101)); have n3_ := Aside0.mk ((by rw [hg]; exact (below_size (by repeat (first | (with_reducible first | exact HB.out | apply below_alloc | apply pw_below_drewN | apply below_drew1) | exact HB.out))) : w.heap.size ≤ gb101)); clear HB; have HB := n0_; have BK101 := n1_; have GW101 := n2_; have GE101 := n3_; clear n0_ n1_ n2_ n3_; clear hb hbox hg; have hcz7_0 : w6.cell? ⟨gb101, 0, none⟩ = some (.slice A0_0 l0_0.length c0_0) := (blk_cell BK101.out 0).trans rfl; have hcz7_1 : w6.cell? ⟨gb101, 1, none⟩ = some (.slice A0_1 l0_1.length c0_1) := (blk_cell BK101.out 1).trans rfl; have hfz7_0 := blk_frozen BK101.out 0; have hfz7_1 := blk_frozen BK101.out 1))
      repeat (go_quiet (first | ((with_reducible refine gate_dst (N := 1) rfl ?_); (try (refine gate_guard (by rfl) ?_; dsimp only)); refine box_event ?hg (N := 1) ?hd (cs := #[.slice A0_0 l0_0.length c0_0, .slice A0_1 l0_1.length c0_1]) (t := 46) ?hr ?_; (case hd => rfl); (case hg => rfl); (case hr => first | (go_simp; done) | (go_simp; rfl)); intro gb101 hg w6 hbox hb; have n0_ := Aside0.mk (below_step (by repeat (first | (with_reducible first | exact HB.out | apply below_alloc | apply pw_below_drewN | apply below_drew1) | exact HB.out)) hb); have n1_ := Aside0.mk (hbox); have n2_ := Aside0.mk ((by rw [hg]; exact (below_size (by repeat (first | (with_reducible first | exact HB.out | apply below_alloc | apply pw_below_drewN | apply below_drew1) | exact HB.out))) : w.heap.size ≤ gb101)); have n3_ := Aside0.mk ((by rw [hg]; exact (below_size (by repeat (first | (with_reducible first | exact HB.out | apply below_alloc | apply pw_below_drewN | apply below_drew1) | exact HB.out))) : w.heap.size ≤ gb101)); clear HB; have HB := n0_; have BK101 := n1_; have GW101 := n2_; have GE101 := n3_; clear n0_ n1_ n2_ n3_; clear hb hbox hg; have hcz7_0 : w6.cell? ⟨gb101, 0, none⟩ = some (.slice A0_0 l0_0.length c0_0) := (blk_cell BK101.out 0).trans rfl; have hcz7_1 : w6.cell? ⟨gb101, 1, none⟩ = some (.slice A0_1 l0_1.length c0_1) := (blk_cell BK101.out 1).trans rfl; have hfz7_0 := blk_frozen BK101.out 0; have hfz7_1 := blk_frozen BK101.out 1)); try go_wp2_with (first | ((with_reducible refine gate_dst (N := 1) rfl ?_); (try (refine gate_guard (by rfl) ?_; dsimp only)); refine box_event ?hg (N := 1) ?hd (cs := #[.slice A0_0 l0_0.length c0_0, .slice A0_1 l0_1.length c0_1]) (t := 46) ?hr ?_; (case hd => rfl); (case hg => rfl); (case hr => first | (go_simp; done) | (go_simp; rfl)); intro gb101 hg w6 hbox hb; have n0_ := Aside0.mk (below_step (by repeat (first | (with_reducible first | exact HB.out | apply below_alloc | apply pw_below_drewN | apply below_drew1) | exact HB.out)) hb); have n1_ := Aside0.mk (hbox); have n2_ := Aside0.mk ((by rw [hg]; exact (below_size (by repeat (first | (with_reducible first | exact HB.out | apply below_alloc | apply pw_below_drewN | apply below_drew1) | exact HB.out))) : w.heap.size ≤ gb101)); have n3_ := Aside0.mk ((by rw [hg]; exact (below_size (by repeat (first | (with_reducible first | exact HB.out | apply below_alloc | apply pw_below_drewN | apply below_drew1) | exact HB.out))) : w.heap.size ≤ gb101)); clear HB; have HB := n0_; have BK101 := n1_; have GW101 := n2_; have GE101 := n3_; clear n0_ n1_ n2_ n3_; clear hb hbox hg; have hcz7_0 : w6.cell? ⟨gb101, 0, none⟩ = some (.slice A0_0 l0_0.length c0_0) := (blk_cell BK101.out 0).trans rfl; have hcz7_1 : w6.cell? ⟨gb101, 1, none⟩ = some (.slice A0_1 l0_1.length c0_1) := (blk_cell BK101.out 1).trans rfl; have hfz7_0 := blk_frozen BK101.out 0; have hfz7_1 := blk_frozen BK101.out 1)))
      go_ret
      exact ⟨by first | rfl | (simp [errW_none, errW_some] <;> rfl) | (simp [*, errW_none, errW_some] <;> rfl), by repeat (first | (with_reducible first | exact HB.out | apply below_alloc | apply pw_below_drewN | apply below_drew1 | refine below_set ?_ GE101.out) | exact HB.out)⟩
    · rw [if_neg c5] at H
      have c5b0 : decide (0 < ((l0_0.length : Int) % 64)) = false := decide_eq_false c5
      clear c5
      have H' := Aside0.mk H
      clear H
      go_enter Try.func30, Try.ntmps30
      go_wp2_with (first | ((with_reducible refine gate_dst (N := 1) rfl ?_); (try (refine gate_guard (by rfl) ?_; dsimp only)); refine box_event ?hg (N := 1) ?hd (cs := #[.slice A0_0 l0_0.length c0_0, .slice A0_1 l0_1.length c0_1]) (t := 46) ?hr ?_; (case hd => rfl); (case hg => rfl); (case hr => first | (go_simp; done) | (go_simp; rfl)); intro gb101 hg w8 hbox hb; have n0_ := Aside0.mk (below_step (by repeat (first | (with_reducible first | exact HB.out | apply below_alloc | apply pw_below_drewN | apply below_drew1) | exact HB.out)) hb); have n1_ := Aside0.mk (hbox); have n2_ := Aside0.mk ((by rw [hg]; exact (below_size (by repeat (first | (with_reducible first | exact HB.out | apply below_alloc | apply pw_below_drewN | apply below_drew1) | exact HB.out))) : w.heap.size ≤ gb101)); have n3_ := Aside0.mk ((by rw [hg]; exact (below_size (by repeat (first | (with_reducible first | exact HB.out | apply below_alloc | apply pw_below_drewN | apply below_drew1) | exact HB.out))) : w.heap.size ≤ gb101)); clear HB; have HB := n0_; have BK101 := n1_; have GW101 := n2_; have GE101 := n3_; clear n0_ n1_ n2_ n3_; clear hb hbox hg; have hcz9_0 : w8.cell? ⟨gb101, 0, none⟩ = some (.slice A0_0 l0_0.length c0_0) := (blk_cell BK101.out 0).trans rfl; have hcz9_1 : w8.cell? ⟨gb101, 1, none⟩ = some (.slice A0_1 l0_1.length c0_1) := (blk_cell BK101.out 1).trans rfl; have hfz9_0 := blk_frozen BK101.out 0; have hfz9_1 := blk_frozen BK101.out 1))
      repeat (go_quiet (first | ((with_reducible refine gate_dst (N := 1) rfl ?_); (try (refine gate_guard (by rfl) ?_; dsimp only)); refine box_event ?hg (N := 1) ?hd (cs := #[.slice A0_0 l0_0.length c0_0, .slice A0_1 l0_1.length c0_1]) (t := 46) ?hr ?_; (case hd => rfl); (case hg => rfl); (case hr => first | (go_simp; done) | (go_simp; rfl)); intro gb101 hg w8 hbox hb; have n0_ := Aside0.mk (below_step (by repeat (first | (with_reducible first | exact HB.out | apply below_alloc | apply pw_below_drewN | apply below_drew1) | exact HB.out)) hb); have n1_ := Aside0.mk (hbox); have n2_ := Aside0.mk ((by rw [hg]; exact (below_size (by repeat (first | (with_reducible first | exact HB.out | apply below_alloc | apply pw_below_drewN | apply below_drew1) | exact HB.out))) : w.heap.size ≤ gb101)); have n3_ := Aside0.mk ((by rw [hg]; exact (below_size (by repeat (first | (with_reducible first | exact HB.out | apply below_alloc | apply pw_below_drewN | apply below_drew1) | exact HB.out))) : w.heap.size ≤ gb101)); clear HB; have HB := n0_; have BK101 := n1_; have GW101 := n2_; have GE101 := n3_; clear n0_ n1_ n2_ n3_; clear hb hbox hg; have hcz9_0 : w8.cell? ⟨gb101, 0, none⟩ = some (.slice A0_0 l0_0.length c0_0) := (blk_cell BK101.out 0).trans rfl; have hcz9_1 : w8.cell? ⟨gb101, 1, none⟩ = some (.slice A0_1 l0_1.length c0_1) := (blk_cell BK101.out 1).trans rfl; have hfz9_0 := blk_frozen BK101.out 0; have hfz9_1 := blk_frozen BK101.out 1)); try go_wp2_with (first | ((with_reducible refine gate_dst (N := 1) rfl ?_); (try (refine gate_guard (by rfl) ?_; dsimp only)); refine box_event ?hg (N := 1) ?hd (cs := #[.slice A0_0 l0_0.length c0_0, .slice A0_1 l0_1.length c0_1]) (t := 46) ?hr ?_; (case hd => rfl); (case hg => rfl); (case hr => first | (go_simp; done) | (go_simp; rfl)); intro gb101 hg w8 hbox hb; have n0_ := Aside0.mk (below_step (by repeat (first | (with_reducible first | exact HB.out | apply below_alloc | apply pw_below_drewN | apply below_drew1) | exact HB.out)) hb); have n1_ := Aside0.mk (hbox); have n2_ := Aside0.mk ((by rw [hg]; exact (below_size (by repeat (first | (with_reducible first | exact HB.out | apply below_alloc | apply pw_below_drewN | apply below_drew1) | exact HB.out))) : w.heap.size ≤ gb101)); have n3_ := Aside0.mk ((by rw [hg]; exact (below_size (by repeat (first | (with_reducible first | exact HB.out | apply below_alloc | apply pw_below_drewN | apply below_drew1) | exact HB.out))) : w.heap.size ≤ gb101)); clear HB; have HB := n0_; have BK101 := n1_; have GW101 := n2_; have GE101 := n3_; clear n0_ n1_ n2_ n3_; clear hb hbox hg; have hcz9_0 : w8.cell? ⟨gb101, 0, none⟩ = some (.slice A0_0 l0_0.length c0_0) := (blk_cell BK101.out 0).trans rfl; have hcz9_1 : w8.cell? ⟨gb101, 1, none⟩ = some (.slice A0_1 l0_1.length c0_1) := (blk_cell BK101.out 1).trans rfl; have hfz9_0 := blk_frozen BK101.out 0; have hfz9_1 := blk_frozen BK101.out 1)))
      go_loopg [19] k (fun kq v19 w' => ∃ (x19_1 : Int), v19 = .int .i64 x19_1 ∧ Aside0 (wrackref1_DriveErr.l0 kq l0_1 (l0_1.length : Int) x19_1 l0_0 l0_1 = some r) ∧ Aside0 (kq ≤ k) ∧ Aside0 (w'.heap[gb101]? = some (.cells #[(.slice A0_0 l0_0.length c0_0), (.slice A0_1 l0_1.length c0_1)] 46 (0, 0))) ∧ Aside0 (Below w.heap.size w w'))
      case atStart => exact ⟨(0), (by first | rfl | (simp; done) | (simp [*]; done)), H', ⟨Nat.le_refl _⟩, ⟨by (with_reducible repeat (first | refine blk_drewN ?_ _ | refine blk_drew ?_ | refine blk_alloc ?_ _)); exact BK101.out⟩, ⟨by repeat (first | (with_reducible first | exact HB.out | apply below_alloc | apply pw_below_drewN | apply below_drew1 | refine below_set ?_ GE101.out) | exact HB.out)⟩⟩
      case round =>
        clear H'
        try clear c2
        try clear c2b0
        try clear c2b1
        try clear p2
        try clear c3
        try clear c5
        try clear c5b0
        try clear hcz4_0
        try clear hcz4_1
        try clear hcz7_0
        try clear hcz7_1
        try clear hcz9_0
        try clear hcz9_1
        try clear hfz4_0
        try clear hfz4_1
        try clear hfz7_0
        try clear hfz7_1
        try clear hfz9_0
        try clear hfz9_1
        obtain ⟨x19_1, rfl, HA, HK1, BK101, HB⟩ := hrel
        cases gk with
        | zero => exact absurd HA.out (by simp [wrackref1_DriveErr.l0])
        | succ k1 =>
          have H := HA.out
          clear HA
          simp only [wrackref1_DriveErr.l0] at H
          by_cases c10 : x19_1 < (l0_1.length : Int)
          · rw [if_pos c10] at H
            have c10b0 : decide (x19_1 < (l0_1.length : Int)) = true := decide_eq_true c10
            clear c10
            by_cases c11 : 0 ≤ x19_1
            · rw [if_pos c11] at H
              have c11b0 : decide (0 ≤ x19_1) = true := decide_eq_true c11
              clear c11
              by_cases c12 : x19_1 < (l0_1.length : Int)
              · rw [if_pos c12] at H
                have c12b0 : decide (x19_1 < (l0_1.length : Int)) = true := decide_eq_true c12
                clear c12
                have HC13 := Aside0.mk H
                clear H
                have p102 : 0 ≤ (x19_1 : Int) := of_decide_eq_true (by first | (with_reducible assumption) | assumption)
                have q102 : x19_1 < (l0_1.length : Int) := of_decide_eq_true (by first | (with_reducible assumption) | assumption)
                obtain ⟨ad102, e102, hx102_0, hx102_1, hx102_2⟩ := at_T121 HR0_1.out x19_1 p102 q102
                cases e102
                replace hx102_0 := (HB.out.cell (World.block_lt_of_cell? w _ hx102_0)).trans hx102_0
                replace hx102_1 := (HB.out.cell (World.block_lt_of_cell? w _ hx102_1)).trans hx102_1
                replace hx102_2 := (HB.out.cell (World.block_lt_of_cell? w _ hx102_2)).trans hx102_2
                replace p102 := eq_true p102
                replace q102 := eq_true q102
                go_upto_region 8 with (first | ((with_reducible refine gate_dst (N := 4) rfl ?_); (try (refine gate_guard (by rfl) ?_; dsimp only)); refine box_event ?hg (N := 4) ?hd (cs := #[.int .i64 0, .int .i64 0, .int .i64 0]) (t := 121) ?hr ?_; (case hd => rfl); (case hg => rfl); (case hr => first | (go_simp; done) | (go_simp; rfl)); intro gb103 hg w14 hbox hb; have n0_ := Aside0.mk (blk_below (g := gb101) (o := .cells #[.slice A0_0 l0_0.length c0_0, .slice (some ad102) l0_1.length c0_1] 46 (0, 0)) (by (with_reducible repeat (first | refine blk_drewN ?_ _ | refine blk_drew ?_ | refine blk_alloc ?_ _)); exact BK101.out) hb); have n1_ := Aside0.mk (below_step (by repeat (first | (with_reducible first | exact HB.out | apply below_alloc | apply pw_below_drewN | apply below_drew1 | refine below_set ?_ GE101.out) | exact HB.out)) hb); have n2_ := Aside0.mk (hbox); have n3_ := Aside0.mk ((by rw [hg]; exact (below_size (by repeat (first | (with_reducible first | exact HB.out | apply below_alloc | apply pw_below_drewN | apply below_drew1 | refine below_set ?_ GE101.out) | exact HB.out))) : w.heap.size ≤ gb103)); have n4_ := Aside0.mk ((by rw [hg]; exact (below_size (by repeat (first | (with_reducible first | exact HB.out | apply below_alloc | apply pw_below_drewN | apply below_drew1 | refine below_set ?_ GE101.out) | exact HB.out))) : w.heap.size ≤ gb103)); have n5_ := Aside0.mk ((by rw [hg]; exact Nat.ne_of_lt (blk_lt (g := gb101) (o := .cells #[.slice A0_0 l0_0.length c0_0, .slice (some ad102) l0_1.length c0_1] 46 (0, 0)) (by (with_reducible repeat (first | refine blk_drewN ?_ _ | refine blk_drew ?_ | refine blk_alloc ?_ _)); exact BK101.out)) : gb101 ≠ gb103)); have n6_ := Aside0.mk ((by rw [hg]; exact Nat.ne_of_gt (blk_lt (g := gb101) (o := .cells #[.slice A0_0 l0_0.length c0_0, .slice (some ad102) l0_1.length c0_1] 46 (0, 0)) (by (with_reducible repeat (first | refine blk_drewN ?_ _ | refine blk_drew ?_ | refine blk_alloc ?_ _)); exact BK101.out)) : gb103 ≠ gb101)); clear BK101; clear HB; have BK101 := n0_; have HB := n1_; have BK103 := n2_; have GW103 := n3_; have GE103 := n4_; have NB101_103 := n5_; have NB103_101 := n6_; clear n0_ n1_ n2_ n3_ n4_ n5_ n6_; clear hb hbox hg; have hnb15 := NB103_101.out; have hnc15 := NB101_103.out; have hcz16_0 : w14.cell? ⟨gb103, 0, none⟩ = some (.int .i64 0) := (blk_cell BK103.out 0).trans rfl; have hcz16_1 : w14.cell? ⟨gb103, 1, none⟩ = some (.int .i64 0) := (blk_cell BK103.out 1).trans rfl; have hcz16_2 : w14.cell? ⟨gb103, 2, none⟩ = some (.int .i64 0) := (blk_cell BK103.out 2).trans rfl; have hfz16_0 := blk_frozen BK103.out 0; have hfz16_1 := blk_frozen BK103.out 1; have hfz16_2 := blk_frozen BK103.out 2))
                repeat (go_quiet (first | ((with_reducible refine gate_dst (N := 4) rfl ?_); (try (refine gate_guard (by rfl) ?_; dsimp only)); refine box_event ?hg (N := 4) ?hd (cs := #[.int .i64 0, .int .i64 0, .int .i64 0]) (t := 121) ?hr ?_; (case hd => rfl); (case hg => rfl); (case hr => first | (go_simp; done) | (go_simp; rfl)); intro gb103 hg w14 hbox hb; have n0_ := Aside0.mk (blk_below (g := gb101) (o := .cells #[.slice A0_0 l0_0.length c0_0, .slice (some ad102) l0_1.length c0_1] 46 (0, 0)) (by (with_reducible repeat (first | refine blk_drewN ?_ _ | refine blk_drew ?_ | refine blk_alloc ?_ _)); exact BK101.out) hb); have n1_ := Aside0.mk (below_step (by repeat (first | (with_reducible first | exact HB.out | apply below_alloc | apply pw_below_drewN | apply below_drew1 | refine below_set ?_ GE101.out) | exact HB.out)) hb); have n2_ := Aside0.mk (hbox); have n3_ := Aside0.mk ((by rw [hg]; exact (below_size (by repeat (first | (with_reducible first | exact HB.out | apply below_alloc | apply pw_below_drewN | apply below_drew1 | refine below_set ?_ GE101.out) | exact HB.out))) : w.heap.size ≤ gb103)); have n4_ := Aside0.mk ((by rw [hg]; exact (below_size (by repeat (first | (with_reducible first | exact HB.out | apply below_alloc | apply pw_below_drewN | apply below_drew1 | refine below_set ?_ GE101.out) | exact HB.out))) : w.heap.size ≤ gb103)); have n5_ := Aside0.mk ((by rw [hg]; exact Nat.ne_of_lt (blk_lt (g := gb101) (o := .cells #[.slice A0_0 l0_0.length c0_0, .slice (some ad102) l0_1.length c0_1] 46 (0, 0)) (by (with_reducible repeat (first | refine blk_drewN ?_ _ | refine blk_drew ?_ | refine blk_alloc ?_ _)); exact BK101.out)) : gb101 ≠ gb103)); have n6_ := Aside0.mk ((by rw [hg]; exact Nat.ne_of_gt (blk_lt (g := gb101) (o := .cells #[.slice A0_0 l0_0.length c0_0, .slice (some ad102) l0_1.length c0_1] 46 (0, 0)) (by (with_reducible repeat (first | refine blk_drewN ?_ _ | refine blk_drew ?_ | refine blk_alloc ?_ _)); exact BK101.out)) : gb103 ≠ gb101)); clear BK101; clear HB; have BK101 := n0_; have HB := n1_; have BK103 := n2_; have GW103 := n3_; have GE103 := n4_; have NB101_103 := n5_; have NB103_101 := n6_; clear n0_ n1_ n2_ n3_ n4_ n5_ n6_; clear hb hbox hg; have hnb15 := NB103_101.out; have hnc15 := NB101_103.out; have hcz16_0 : w14.cell? ⟨gb103, 0, none⟩ = some (.int .i64 0) := (blk_cell BK103.out 0).trans rfl; have hcz16_1 : w14.cell? ⟨gb103, 1, none⟩ = some (.int .i64 0) := (blk_cell BK103.out 1).trans rfl; have hcz16_2 : w14.cell? ⟨gb103, 2, none⟩ = some (.int .i64 0) := (blk_cell BK103.out 2).trans rfl; have hfz16_0 := blk_frozen BK103.out 0; have hfz16_1 := blk_frozen BK103.out 1; have hfz16_2 := blk_frozen BK103.out 2)); go_upto_region 8 with (first | ((with_reducible refine gate_dst (N := 4) rfl ?_); (try (refine gate_guard (by rfl) ?_; dsimp only)); refine box_event ?hg (N := 4) ?hd (cs := #[.int .i64 0, .int .i64 0, .int .i64 0]) (t := 121) ?hr ?_; (case hd => rfl); (case hg => rfl); (case hr => first | (go_simp; done) | (go_simp; rfl)); intro gb103 hg w14 hbox hb; have n0_ := Aside0.mk (blk_below (g := gb101) (o := .cells #[.slice A0_0 l0_0.length c0_0, .slice (some ad102) l0_1.length c0_1] 46 (0, 0)) (by (with_reducible repeat (first | refine blk_drewN ?_ _ | refine blk_drew ?_ | refine blk_alloc ?_ _)); exact BK101.out) hb); have n1_ := Aside0.mk (below_step (by repeat (first | (with_reducible first | exact HB.out | apply below_alloc | apply pw_below_drewN | apply below_drew1 | refine below_set ?_ GE101.out) | exact HB.out)) hb); have n2_ := Aside0.mk (hbox); have n3_ := Aside0.mk ((by rw [hg]; exact (below_size (by repeat (first | (with_reducible first | exact HB.out | apply below_alloc | apply pw_below_drewN | apply below_drew1 | refine below_set ?_ GE101.out) | exact HB.out))) : w.heap.size ≤ gb103)); have n4_ := Aside0.mk ((by rw [hg]; exact (below_size (by repeat (first | (with_reducible first | exact HB.out | apply below_alloc | apply pw_below_drewN | apply below_drew1 | refine below_set ?_ GE101.out) | exact HB.out))) : w.heap.size ≤ gb103)); have n5_ := Aside0.mk ((by rw [hg]; exact Nat.ne_of_lt (blk_lt (g := gb101) (o := .cells #[.slice A0_0 l0_0.length c0_0, .slice (some ad102) l0_1.length c0_1] 46 (0, 0)) (by (with_reducible repeat (first | refine blk_drewN ?_ _ | refine blk_drew ?_ | refine blk_alloc ?_ _)); exact BK101.out)) : gb101 ≠ gb103)); have n6_ := Aside0.mk ((by rw [hg]; exact Nat.ne_of_gt (blk_lt (g := gb101) (o := .cells #[.slice A0_0 l0_0.length c0_0, .slice (some ad102) l0_1.length c0_1] 46 (0, 0)) (by (with_reducible repeat (first | refine blk_drewN ?_ _ | refine blk_drew ?_ | refine blk_alloc ?_ _)); exact BK101.out)) : gb103 ≠ gb101)); clear BK101; clear HB; have BK101 := n0_; have HB := n1_; have BK103 := n2_; have GW103 := n3_; have GE103 := n4_; have NB101_103 := n5_; have NB103_101 := n6_; clear n0_ n1_ n2_ n3_ n4_ n5_ n6_; clear hb hbox hg; have hnb15 := NB103_101.out; have hnc15 := NB101_103.out; have hcz16_0 : w14.cell? ⟨gb103, 0, none⟩ = some (.int .i64 0) := (blk_cell BK103.out 0).trans rfl; have hcz16_1 : w14.cell? ⟨gb103, 1, none⟩ = some (.int .i64 0) := (blk_cell BK103.out 1).trans rfl; have hcz16_2 : w14.cell? ⟨gb103, 2, none⟩ = some (.int .i64 0) := (blk_cell BK103.out 2).trans rfl; have hfz16_0 := blk_frozen BK103.out 0; have hfz16_1 := blk_frozen BK103.out 1; have hfz16_2 := blk_frozen BK103.out 2)))
                (try simp only [Act.put, List.setIfInBounds_toArray, List.set_cons_zero, List.set_cons_succ])
                go_cut [36] (fun v36 wc => ∃ (kq : Nat) (x36_12 : Bool), v36 = .bool x36_12 ∧ Aside0 (wrackref1_DriveErr.j1 kq x19_1 l0_1 (l0_1.length : Int) x19_1 x36_12 l0_0 l0_1 ((rd_T121 l0_1 x19_1).f0) ((rd_T121 l0_1 x19_1).f1) ((rd_T121 l0_1 x19_1).f2) = some r) ∧ Aside0 (kq ≤ k1) ∧ Aside0 (wc.heap[gb101]? = some (.cells #[(.slice A0_0 l0_0.length c0_0), (.slice (some ad102) l0_1.length c0_1)] 46 (0, 0))) ∧ Aside0 (wc.heap[gb103]? = some (.cells #[.int .i64 ((rd_T121 l0_1 x19_1).f0), .int .i64 ((rd_T121 l0_1 x19_1).f1), .int .i64 ((rd_T121 l0_1 x19_1).f2)] 121 (0, 0))) ∧ Aside0 (Below w.heap.size w wc))
                case first =>
                  have H := HC13.out
                  clear HC13
                  by_cases c17 : ((rd_T121 l0_1 x19_1).f0) < 0
                  · rw [if_pos c17] at H
                    have c17b0 : decide (((rd_T121 l0_1 x19_1).f0) < 0) = true := decide_eq_true c17
                    clear c17
                    (first | rw [c17b0] | (simp only [i64_w, i32_w]; rw [c17b0]) | skip)
                    have H' := Aside0.mk H
                    clear H
                    have hnb18 := NB103_101.out
                    have hnc18 := NB101_103.out
                    have hcz19_0 : w14.cell? ⟨gb103, 0, none⟩ = some (.int .i64 0) := (blk_cell BK103.out 0).trans rfl
                    have hcz19_1 : w14.cell? ⟨gb103, 1, none⟩ = some (.int .i64 0) := (blk_cell BK103.out 1).trans rfl
                    have hcz19_2 : w14.cell? ⟨gb103, 2, none⟩ = some (.int .i64 0) := (blk_cell BK103.out 2).trans rfl
                    have hfz19_0 := blk_frozen BK103.out 0
                    have hfz19_1 := blk_frozen BK103.out 1
                    have hfz19_2 := blk_frozen BK103.out 2
                    go_wp2
                    repeat (go_quiet (fail); try go_wp2)
                    go_meet
                    case rel => exact ⟨_, (true), (by first | rfl | (simp; done) | (simp [*]; done)), H', ⟨by have := HK1.out; first | omega | exact Nat.le_refl _⟩, ⟨by (with_reducible repeat (first | refine blk_drewN ?_ _ | refine blk_drew ?_ | refine blk_alloc ?_ _)); refine blk_far ?_ NB101_103.out _; (with_reducible repeat (first | refine blk_drewN ?_ _ | refine blk_drew ?_ | refine blk_alloc ?_ _)); refine blk_far ?_ NB101_103.out _; (with_reducible repeat (first | refine blk_drewN ?_ _ | refine blk_drew ?_ | refine blk_alloc ?_ _)); refine blk_far ?_ NB101_103.out _; (with_reducible repeat (first | refine blk_drewN ?_ _ | refine blk_drew ?_ | refine blk_alloc ?_ _)); exact BK101.out⟩, ⟨by (with_reducible repeat (first | refine blk_drewN ?_ _ | refine blk_drew ?_ | refine blk_alloc ?_ _)); refine blk_put (cs := #[.int .i64 ((rd_T121 l0_1 x19_1).f0), .int .i64 ((rd_T121 l0_1 x19_1).f1), .int .i64 0]) ?_ 2 _ rfl; (with_reducible repeat (first | refine blk_drewN ?_ _ | refine blk_drew ?_ | refine blk_alloc ?_ _)); refine blk_put (cs := #[.int .i64 ((rd_T121 l0_1 x19_1).f0), .int .i64 0, .int .i64 0]) ?_ 1 _ rfl; (with_reducible repeat (first | refine blk_drewN ?_ _ | refine blk_drew ?_ | refine blk_alloc ?_ _)); refine blk_put (cs := #[.int .i64 0, .int .i64 0, .int .i64 0]) ?_ 0 _ rfl; (with_reducible repeat (first | refine blk_drewN ?_ _ | refine blk_drew ?_ | refine blk_alloc ?_ _)); exact BK103.out⟩, ⟨by repeat (first | (with_reducible first | exact HB.out | apply below_alloc | apply pw_below_drewN | apply below_drew1 | refine below_set ?_ GE101.out | refine below_set ?_ GE103.out) | exact HB.out)⟩⟩
                  · rw [if_neg c17] at H
                    have c17b0 : decide (((rd_T121 l0_1 x19_1).f0) < 0) = false := decide_eq_false c17
                    clear c17
                    (first | rw [c17b0] | (simp only [i64_w, i32_w]; rw [c17b0]) | skip)
                    have H' := Aside0.mk H
                    clear H
                    have hnb20 := NB103_101.out
                    have hnc20 := NB101_103.out
                    have hcz21_0 : w14.cell? ⟨gb103, 0, none⟩ = some (.int .i64 0) := (blk_cell BK103.out 0).trans rfl
                    have hcz21_1 : w14.cell? ⟨gb103, 1, none⟩ = some (.int .i64 0) := (blk_cell BK103.out 1).trans rfl
                    have hcz21_2 : w14.cell? ⟨gb103, 2, none⟩ = some (.int .i64 0) := (blk_cell BK103.out 2).trans rfl
                    have hfz21_0 := blk_frozen BK103.out 0
                    have hfz21_1 := blk_frozen BK103.out 1
                    have hfz21_2 := blk_frozen BK103.out 2
                    have hcz22_0 : w14.cell? ⟨gb101, 0, none⟩ = some (.slice A0_0 l0_0.length c0_0) := (blk_cell BK101.out 0).trans rfl
                    have hcz22_1 : w14.cell? ⟨gb101, 1, none⟩ = some (.slice (some ad102) l0_1.length c0_1) := (blk_cell BK101.out 1).trans rfl
                    have hfz22_0 := blk_frozen BK101.out 0
                    have hfz22_1 := blk_frozen BK101.out 1
                    go_wp2
                    repeat (go_quiet (fail); try go_wp2)
                    go_meet
                    case rel => exact ⟨_, (decide (((rd_T121 l0_1 x19_1).f0) > (wrap64 ((wrap64 ((l0_0.length : Int) / 64)) - 1)))), (by first | rfl | (simp; done) | (simp [*]; done)), H', ⟨by have := HK1.out; first | omega | exact Nat.le_refl _⟩, ⟨by (with_reducible repeat (first | refine blk_drewN ?_ _ | refine blk_drew ?_ | refine blk_alloc ?_ _)); refine blk_far ?_ NB101_103.out _; (with_reducible repeat (first | refine blk_drewN ?_ _ | refine blk_drew ?_ | refine blk_alloc ?_ _)); refine blk_far ?_ NB101_103.out _; (with_reducible repeat (first | refine blk_drewN ?_ _ | refine blk_drew ?_ | refine blk_alloc ?_ _)); refine blk_far ?_ NB101_103.out _; (with_reducible repeat (first | refine blk_drewN ?_ _ | refine blk_drew ?_ | refine blk_alloc ?_ _)); exact BK101.out⟩, ⟨by (with_reducible repeat (first | refine blk_drewN ?_ _ | refine blk_drew ?_ | refine blk_alloc ?_ _)); refine blk_put (cs := #[.int .i64 ((rd_T121 l0_1 x19_1).f0), .int .i64 ((rd_T121 l0_1 x19_1).f1), .int .i64 0]) ?_ 2 _ rfl; (with_reducible repeat (first | refine blk_drewN ?_ _ | refine blk_drew ?_ | refine blk_alloc ?_ _)); refine blk_put (cs := #[.int .i64 ((rd_T121 l0_1 x19_1).f0), .int .i64 0, .int .i64 0]) ?_ 1 _ rfl; (with_reducible repeat (first | refine blk_drewN ?_ _ | refine blk_drew ?_ | refine blk_alloc ?_ _)); refine blk_put (cs := #[.int .i64 0, .int .i64 0, .int .i64 0]) ?_ 0 _ rfl; (with_reducible repeat (first | refine blk_drewN ?_ _ | refine blk_drew ?_ | refine blk_alloc ?_ _)); exact BK103.out⟩, ⟨by repeat (first | (with_reducible first | exact HB.out | apply below_alloc | apply pw_below_drewN | apply below_drew1 | refine below_set ?_ GE101.out | refine below_set ?_ GE103.out) | exact HB.out)⟩⟩
                case rest =>
                  clear HC13
                  try clear c1
                  try clear p1
                  try clear q1
                  try clear hx1
                  try clear c2
                  try clear c2b0
                  try clear c2b1
                  try clear p2
                  try clear c3
                  try clear c5
                  try clear c5b0
                  try clear p6
                  try clear c10
                  try clear c10b0
                  try clear p10
                  try clear q10
                  try clear hx10
                  try clear c11
                  try clear c11b0
                  try clear c12
                  try clear c12b0
                  try clear c15
                  try clear c17
                  try clear c17b0
                  try clear c18
                  try clear c20
                  try clear hcz16_0
                  try clear hcz16_1
                  try clear hcz16_2
                  try clear hcz19_0
                  try clear hcz19_1
                  try clear hcz19_2
                  try clear hcz21_0
                  try clear hcz21_1
                  try clear hcz21_2
                  try clear hcz22_0
                  try clear hcz22_1
                  try clear hcz4_0
                  try clear hcz4_1
                  try clear hcz7_0
                  try clear hcz7_1
                  try clear hcz9_0
                  try clear hcz9_1
                  try clear hfz16_0
                  try clear hfz16_1
                  try clear hfz16_2
                  try clear hfz19_0
                  try clear hfz19_1
                  try clear hfz19_2
                  try clear hfz21_0
                  try clear hfz21_1
                  try clear hfz21_2
                  try clear hfz22_0
                  try clear hfz22_1
                  try clear hfz4_0
                  try clear hfz4_1
                  try clear hfz7_0
                  try clear hfz7_1
                  try clear hfz9_0
                  try clear hfz9_1
                  try clear hx102_0
                  try clear hx102_1
                  try clear hx102_2
                  try clear p102
                  try clear p2
                  try clear q102
                  obtain ⟨kq, x36_12, rfl, HA, HJ12, BK101, BK103, HB⟩ := hcut
                  cases kq with
                  | zero => exact absurd HA.out (by simp [wrackref1_DriveErr.j1])
                  | succ kj12 =>
                    have H := HA.out
                    clear HA
                    simp only [wrackref1_DriveErr.j1] at H
                    by_cases c23 : x36_12 = true
                    · subst c23
                      have H1 : (some 4) = some r := by rw [if_pos rfl] at H; exact H
                      clear H
                      have H := H1
                      clear H1
                      obtain rfl := Option.some.inj H
                      go_wp2
                      repeat (go_quiet (fail); try go_wp2)
                      go_ret
                      exact ⟨by first | rfl | (simp [errW_none, errW_some] <;> rfl) | (simp [*, errW_none, errW_some] <;> rfl), by repeat (first | (with_reducible first | exact HB.out | apply below_alloc | apply pw_below_drewN | apply below_drew1 | refine below_set ?_ GE101.out | refine below_set ?_ GE103.out) | exact HB.out)⟩
                    · replace c23 := Bool.eq_false_iff.mpr c23
                      subst c23
                      have H1 : (if x19_1 > 0 then (if 0 ≤ (wrap64 (x19_1 - 1)) then (if (wrap64 (x19_1 - 1)) < (l0_1.length : Int) then (wrackref1_DriveErr.j2 kj12 l0_1 (l0_1.length : Int) x19_1 (decide (((rd_T121 l0_1 (wrap64 (x19_1 - 1))).f0) ≥ ((rd_T121 l0_1 x19_1).f0))) l0_0 l0_1 ((rd_T121 l0_1 x19_1).f0) ((rd_T121 l0_1 x19_1).f1) ((rd_T121 l0_1 x19_1).f2)) else (none)) else (none)) else (wrackref1_DriveErr.j2 kj12 l0_1 (l0_1.length : Int) x19_1 false l0_0 l0_1 ((rd_T121 l0_1 x19_1).f0) ((rd_T121 l0_1 x19_1).f1) ((rd_T121 l0_1 x19_1).f2))) = some r := by rw [if_neg (show ¬ (false = true) by decide)] at H; exact H
                      clear H
                      have H := H1
                      clear H1
                      have HC24 := Aside0.mk H
                      clear H
                      go_upto_region 10 with (fail)
                      repeat (go_quiet (fail); go_upto_region 10 with (fail))
                      go_cut [50] (fun v50 wc => ∃ (kq : Nat) (x50_23 : Bool), v50 = .bool x50_23 ∧ Aside0 (wrackref1_DriveErr.j2 kq l0_1 (l0_1.length : Int) x19_1 x50_23 l0_0 l0_1 ((rd_T121 l0_1 x19_1).f0) ((rd_T121 l0_1 x19_1).f1) ((rd_T121 l0_1 x19_1).f2) = some r) ∧ Aside0 (kq ≤ kj12) ∧ Aside0 (wc.heap[gb101]? = some (.cells #[(.slice A0_0 l0_0.length c0_0), (.slice (some ad102) l0_1.length c0_1)] 46 (0, 0))) ∧ Aside0 (wc.heap[gb103]? = some (.cells #[.int .i64 ((rd_T121 l0_1 x19_1).f0), .int .i64 ((rd_T121 l0_1 x19_1).f1), .int .i64 ((rd_T121 l0_1 x19_1).f2)] 121 (0, 0))) ∧ Aside0 (Below w.heap.size w wc))
                      case first =>
                        have H := HC24.out
                        clear HC24
                        by_cases c25 : x19_1 > 0
                        · rw [if_pos c25] at H
                          have c25b0 : decide (0 < x19_1) = true := decide_eq_true c25
                          clear c25
                          (first | rw [c25b0] | (simp only [i64_w, i32_w]; rw [c25b0]) | skip)
                          obtain ⟨ji26, hji26⟩ : ∃ j_ : Int, (wrap64 (x19_1 - 1)) = j_ := ⟨_, rfl⟩
                          replace H : (if 0 ≤ (ji26) then (if (ji26) < (l0_1.length : Int) then (wrackref1_DriveErr.j2 kj12 l0_1 (l0_1.length : Int) x19_1 (decide (((rd_T121 l0_1 (ji26)).f0) ≥ ((rd_T121 l0_1 x19_1).f0))) l0_0 l0_1 ((rd_T121 l0_1 x19_1).f0) ((rd_T121 l0_1 x19_1).f1) ((rd_T121 l0_1 x19_1).f2)) else (none)) else (none)) = some r := by first | (rw [hji26] at H; exact H) | (simp only [hji26] at H ⊢; exact H)
                          have hji26w : (IntKind.i64.wrap (x19_1 - 1)) = ji26 := (i64_w _).trans hji26
                          by_cases c27 : 0 ≤ (ji26)
                          · rw [if_pos c27] at H
                            have c27b0 : decide (0 ≤ (ji26)) = true := decide_eq_true c27
                            clear c27
                            by_cases c28 : (ji26) < (l0_1.length : Int)
                            · rw [if_pos c28] at H
                              have c28b0 : decide ((ji26) < (l0_1.length : Int)) = true := decide_eq_true c28
                              clear c28
                              have H' := Aside0.mk H
                              clear H
                              have hnb29 := NB101_103.out
                              have hnc29 := NB103_101.out
                              have hcz30_0 : wc.cell? ⟨gb101, 0, none⟩ = some (.slice A0_0 l0_0.length c0_0) := (blk_cell BK101.out 0).trans rfl
                              have hcz30_1 : wc.cell? ⟨gb101, 1, none⟩ = some (.slice (some ad102) l0_1.length c0_1) := (blk_cell BK101.out 1).trans rfl
                              have hfz30_0 := blk_frozen BK101.out 0
                              have hfz30_1 := blk_frozen BK101.out 1
                              have p104 : 0 ≤ ((ji26) : Int) := of_decide_eq_true (by first | (with_reducible assumption) | assumption)
                              have q104 : (ji26) < (l0_1.length : Int) := of_decide_eq_true (by first | (with_reducible assumption) | assumption)
                              obtain ⟨ad104, e104, hx104_0, hx104_1, hx104_2⟩ := at_T121 HR0_1.out (ji26) p104 q104
                              obtain rfl : ad102 = ad104 := (by injection e104)
                              replace hx104_0 := (HB.out.cell (World.block_lt_of_cell? w _ hx104_0)).trans hx104_0
                              replace hx104_1 := (HB.out.cell (World.block_lt_of_cell? w _ hx104_1)).trans hx104_1
                              replace hx104_2 := (HB.out.cell (World.block_lt_of_cell? w _ hx104_2)).trans hx104_2
                              replace p104 := eq_true p104
                              replace q104 := eq_true q104
                              have hcz31_0 : wc.cell? ⟨gb103, 0, none⟩ = some (.int .i64 ((rd_T121 l0_1 x19_1).f0)) := (blk_cell BK103.out 0).trans rfl
                              have hcz31_1 : wc.cell? ⟨gb103, 1, none⟩ = some (.int .i64 ((rd_T121 l0_1 x19_1).f1)) := (blk_cell BK103.out 1).trans rfl
                              have hcz31_2 : wc.cell? ⟨gb103, 2, none⟩ = some (.int .i64 ((rd_T121 l0_1 x19_1).f2)) := (blk_cell BK103.out 2).trans rfl
                              have hfz31_0 := blk_frozen BK103.out 0
                              have hfz31_1 := blk_frozen BK103.out 1
                              have hfz31_2 := blk_frozen BK103.out 2
                              go_wp2
                              repeat (go_quiet (fail); try go_wp2)
                              go_meet
                              case rel => exact ⟨_, (decide (((rd_T121 l0_1 (ji26)).f0) ≥ ((rd_T121 l0_1 x19_1).f0))), (by first | rfl | (simp; done) | (simp only [← hji26] <;> (first | rfl | simp)) | (simp [*]; done)), (by first | exact H' | (simp only [hji26]; exact H')), ⟨by have := HK1.out; have := HJ12.out; first | omega | exact Nat.le_refl _⟩, ⟨by (with_reducible repeat (first | refine blk_drewN ?_ _ | refine blk_drew ?_ | refine blk_alloc ?_ _)); exact BK101.out⟩, ⟨by (with_reducible repeat (first | refine blk_drewN ?_ _ | refine blk_drew ?_ | refine blk_alloc ?_ _)); exact BK103.out⟩, ⟨by repeat (first | (with_reducible first | exact HB.out | apply below_alloc | apply pw_below_drewN | apply below_drew1 | refine below_set ?_ GE101.out | refine below_set ?_ GE103.out) | exact HB.out)⟩⟩
                            · rw [if_neg c28] at H
                              exact absurd H (by simp)
                          · rw [if_neg c27] at H
                            exact absurd H (by simp)
                        · rw [if_neg c25] at H
                          have c25b0 : decide (0 < x19_1) = false := decide_eq_false c25
                          clear c25
                          (first | rw [c25b0] | (simp only [i64_w, i32_w]; rw [c25b0]) | skip)
                          have H' := Aside0.mk H
                          clear H
                          go_wp2
                          repeat (go_quiet (fail); try go_wp2)
                          go_meet
                          case rel => exact ⟨_, (false), (by first | rfl | (simp; done) | (simp [*]; done)), H', ⟨by have := HK1.out; have := HJ12.out; first | omega | exact Nat.le_refl _⟩, ⟨by (with_reducible repeat (first | refine blk_drewN ?_ _ | refine blk_drew ?_ | refine blk_alloc ?_ _)); exact BK101.out⟩, ⟨by (with_reducible repeat (first | refine blk_drewN ?_ _ | refine blk_drew ?_ | refine blk_alloc ?_ _)); exact BK103.out⟩, ⟨by repeat (first | (with_reducible first | exact HB.out | apply below_alloc | apply pw_below_drewN | apply below_drew1 | refine below_set ?_ GE101.out | refine below_set ?_ GE103.out) | exact HB.out)⟩⟩
                      case rest =>
                        clear HC24
                        try clear c1
                        try clear p1
                        try clear q1
                        try clear hx1
                        try clear c2
                        try clear c2b0
                        try clear c2b1
                        try clear p2
                        try clear c3
                        try clear c5
                        try clear c5b0
                        try clear p6
                        try clear c10
                        try clear c10b0
                        try clear p10
                        try clear q10
                        try clear hx10
                        try clear c11
                        try clear c11b0
                        try clear c12
                        try clear c12b0
                        try clear c15
                        try clear c17
                        try clear c17b0
                        try clear c18
                        try clear c20
                        try clear c23
                        try clear c25
                        try clear c25b0
                        try clear c27
                        try clear c27b0
                        try clear c28
                        try clear c28b0
                        try clear c29
                        try clear c30
                        try clear hcz16_0
                        try clear hcz16_1
                        try clear hcz16_2
                        try clear hcz19_0
                        try clear hcz19_1
                        try clear hcz19_2
                        try clear hcz21_0
                        try clear hcz21_1
                        try clear hcz21_2
                        try clear hcz22_0
                        try clear hcz22_1
                        try clear hcz30_0
                        try clear hcz30_1
                        try clear hcz31_0
                        try clear hcz31_1
                        try clear hcz31_2
                        try clear hcz4_0
                        try clear hcz4_1
                        try clear hcz7_0
                        try clear hcz7_1
                        try clear hcz9_0
                        try clear hcz9_1
                        try clear hfz16_0
                        try clear hfz16_1
                        try clear hfz16_2
                        try clear hfz19_0
                        try clear hfz19_1
                        try clear hfz19_2
                        try clear hfz21_0
                        try clear hfz21_1
                        try clear hfz21_2
                        try clear hfz22_0
                        try clear hfz22_1
                        try clear hfz30_0
                        try clear hfz30_1
                        try clear hfz31_0
                        try clear hfz31_1
                        try clear hfz31_2
                        try clear hfz4_0
                        try clear hfz4_1
                        try clear hfz7_0
                        try clear hfz7_1
                        try clear hfz9_0
                        try clear hfz9_1
                        try clear hx102_0
                        try clear hx102_1
                        try clear hx102_2
                        try clear hx104_0
                        try clear hx104_1
                        try clear hx104_2
                        try clear p1
                        try clear p10
                        try clear p102
                        try clear p104
                        try clear p2
                        try clear p6
                        try clear q1
                        try clear q10
                        try clear q102
                        try clear q104
                        obtain ⟨kq, x50_23, rfl, HA, HJ23, BK101, BK103, HB⟩ := hcut
                        cases kq with
                        | zero => exact absurd HA.out (by simp [wrackref1_DriveErr.j2])
                        | succ kj23 =>
                          have H := HA.out
                          clear HA
                          simp only [wrackref1_DriveErr.j2] at H
                          by_cases c32 : x50_23 = true
                          · subst c32
                            have H1 : (some 11) = some r := by rw [if_pos rfl] at H; exact H
                            clear H
                            have H := H1
                            clear H1
                            obtain rfl := Option.some.inj H
                            go_wp2
                            repeat (go_quiet (fail); try go_wp2)
                            go_ret
                            exact ⟨by first | rfl | (simp [errW_none, errW_some] <;> rfl) | (simp [*, errW_none, errW_some] <;> rfl), by repeat (first | (with_reducible first | exact HB.out | apply below_alloc | apply pw_below_drewN | apply below_drew1 | refine below_set ?_ GE101.out | refine below_set ?_ GE103.out) | exact HB.out)⟩
                          · replace c32 := Bool.eq_false_iff.mpr c32
                            subst c32
                            have H1 : (if ((rd_T121 l0_1 x19_1).f1) = 1 then (if ((rd_T121 l0_1 x19_1).f2) < 0 then (some 4) else (if ((rd_T121 l0_1 x19_1).f2) > 0 then (some 4) else (wrackref1_DriveErr.l0 kj23 l0_1 (l0_1.length : Int) (wrap64 (x19_1 + 1)) l0_0 l0_1))) else (if ((rd_T121 l0_1 x19_1).f1) = 2 then (if ((rd_T121 l0_1 x19_1).f2) < 2 then (some 4) else (if ((rd_T121 l0_1 x19_1).f2) > 16 then (some 4) else (wrackref1_DriveErr.l0 kj23 l0_1 (l0_1.length : Int) (wrap64 (x19_1 + 1)) l0_0 l0_1))) else (if ((rd_T121 l0_1 x19_1).f1) = 3 then (if ((rd_T121 l0_1 x19_1).f2) < 2 then (some 4) else (if ((rd_T121 l0_1 x19_1).f2) > 100 then (some 4) else (wrackref1_DriveErr.l0 kj23 l0_1 (l0_1.length : Int) (wrap64 (x19_1 + 1)) l0_0 l0_1))) else (some 1)))) = some r := by rw [if_neg (show ¬ (false = true) by decide)] at H; exact H
                            clear H
                            have H := H1
                            clear H1
                            by_cases c33 : ((rd_T121 l0_1 x19_1).f1) = 1
                            · rw [if_pos c33] at H
                              have c33b0 : (((rd_T121 l0_1 x19_1).f1) == 1) = true := beq_iff_eq.mpr c33
                              have c33b1 : (((rd_T121 l0_1 x19_1).f1) != 1) = false := bne_eq_false_iff_eq.mpr c33
                              clear c33
                              by_cases c34 : ((rd_T121 l0_1 x19_1).f2) < 0
                              · rw [if_pos c34] at H
                                have c34b0 : decide (((rd_T121 l0_1 x19_1).f2) < 0) = true := decide_eq_true c34
                                clear c34
                                obtain rfl := Option.some.inj H
                                have hnb35 := NB103_101.out
                                have hnc35 := NB101_103.out
                                have hcz36_0 : wc.cell? ⟨gb103, 0, none⟩ = some (.int .i64 ((rd_T121 l0_1 x19_1).f0)) := (blk_cell BK103.out 0).trans rfl
                                have hcz36_1 : wc.cell? ⟨gb103, 1, none⟩ = some (.int .i64 ((rd_T121 l0_1 x19_1).f1)) := (blk_cell BK103.out 1).trans rfl
                                have hcz36_2 : wc.cell? ⟨gb103, 2, none⟩ = some (.int .i64 ((rd_T121 l0_1 x19_1).f2)) := (blk_cell BK103.out 2).trans rfl
                                have hfz36_0 := blk_frozen BK103.out 0
                                have hfz36_1 := blk_frozen BK103.out 1
                                have hfz36_2 := blk_frozen BK103.out 2
                                go_wp2
                                repeat (go_quiet (fail); try go_wp2)
                                go_ret
                                exact ⟨by first | rfl | (simp [errW_none, errW_some] <;> rfl) | (simp [*, errW_none, errW_some] <;> rfl), by repeat (first | (with_reducible first | exact HB.out | apply below_alloc | apply pw_below_drewN | apply below_drew1 | refine below_set ?_ GE101.out | refine below_set ?_ GE103.out) | exact HB.out)⟩
                              · rw [if_neg c34] at H
                                have c34b0 : decide (((rd_T121 l0_1 x19_1).f2) < 0) = false := decide_eq_false c34
                                clear c34
                                by_cases c37 : ((rd_T121 l0_1 x19_1).f2) > 0
                                · rw [if_pos c37] at H
                                  have c37b0 : decide (0 < ((rd_T121 l0_1 x19_1).f2)) = true := decide_eq_true c37
                                  clear c37
                                  obtain rfl := Option.some.inj H
                                  have hnb38 := NB103_101.out
                                  have hnc38 := NB101_103.out
                                  have hcz39_0 : wc.cell? ⟨gb103, 0, none⟩ = some (.int .i64 ((rd_T121 l0_1 x19_1).f0)) := (blk_cell BK103.out 0).trans rfl
                                  have hcz39_1 : wc.cell? ⟨gb103, 1, none⟩ = some (.int .i64 ((rd_T121 l0_1 x19_1).f1)) := (blk_cell BK103.out 1).trans rfl
                                  have hcz39_2 : wc.cell? ⟨gb103, 2, none⟩ = some (.int .i64 ((rd_T121 l0_1 x19_1).f2)) := (blk_cell BK103.out 2).trans rfl
                                  have hfz39_0 := blk_frozen BK103.out 0
                                  have hfz39_1 := blk_frozen BK103.out 1
                                  have hfz39_2 := blk_frozen BK103.out 2
                                  go_wp2
                                  repeat (go_quiet (fail); try go_wp2)
                                  go_ret
                                  exact ⟨by first | rfl | (simp [errW_none, errW_some] <;> rfl) | (simp [*, errW_none, errW_some] <;> rfl), by repeat (first | (with_reducible first | exact HB.out | apply below_alloc | apply pw_below_drewN | apply below_drew1 | refine below_set ?_ GE101.out | refine below_set ?_ GE103.out) | exact HB.out)⟩
                                · rw [if_neg c37] at H
                                  have c37b0 : decide (0 < ((rd_T121 l0_1 x19_1).f2)) = false := decide_eq_false c37
                                  clear c37
                                  have H' := Aside0.mk H
                                  clear H
                                  have hnb40 := NB103_101.out
                                  have hnc40 := NB101_103.out
                                  have hcz41_0 : wc.cell? ⟨gb103, 0, none⟩ = some (.int .i64 ((rd_T121 l0_1 x19_1).f0)) := (blk_cell BK103.out 0).trans rfl
                                  have hcz41_1 : wc.cell? ⟨gb103, 1, none⟩ = some (.int .i64 ((rd_T121 l0_1 x19_1).f1)) := (blk_cell BK103.out 1).trans rfl
                                  have hcz41_2 : wc.cell? ⟨gb103, 2, none⟩ = some (.int .i64 ((rd_T121 l0_1 x19_1).f2)) := (blk_cell BK103.out 2).trans rfl
                                  have hfz41_0 := blk_frozen BK103.out 0
                                  have hfz41_1 := blk_frozen BK103.out 1
                                  have hfz41_2 := blk_frozen BK103.out 2
                                  go_wp2
                                  repeat (go_quiet (fail); try go_wp2)
                                  go_roundg kj23
                                  case measure => have := HK1.out; have := HJ12.out; have := HJ23.out; omega
                                  case rel => exact ⟨(wrap64 (x19_1 + 1)), (by first | rfl | (simp; done) | (simp [*]; done)), H', ⟨by have := HK1.out; have := HJ12.out; have := HJ23.out; omega⟩, ⟨by (with_reducible repeat (first | refine blk_drewN ?_ _ | refine blk_drew ?_ | refine blk_alloc ?_ _)); exact BK101.out⟩, ⟨by repeat (first | (with_reducible first | exact HB.out | apply below_alloc | apply pw_below_drewN | apply below_drew1 | refine below_set ?_ GE101.out | refine below_set ?_ GE103.out) | exact HB.out)⟩⟩
                            · rw [if_neg c33] at H
                              have c33b0 : (((rd_T121 l0_1 x19_1).f1) == 1) = false := beq_eq_false_iff_ne.mpr c33
                              have c33b1 : (((rd_T121 l0_1 x19_1).f1) != 1) = true := bne_iff_ne.mpr c33
                              by_cases c42 : ((rd_T121 l0_1 x19_1).f1) = 2
                              · rw [if_pos c42] at H
                                have c42b0 : (((rd_T121 l0_1 x19_1).f1) == 2) = true := beq_iff_eq.mpr c42
                                have c42b1 : (((rd_T121 l0_1 x19_1).f1) != 2) = false := bne_eq_false_iff_eq.mpr c42
                                clear c42
                                by_cases c43 : ((rd_T121 l0_1 x19_1).f2) < 2
                                · rw [if_pos c43] at H
                                  have c43b0 : decide (((rd_T121 l0_1 x19_1).f2) < 2) = true := decide_eq_true c43
                                  clear c43
                                  obtain rfl := Option.some.inj H
                                  have hnb44 := NB103_101.out
                                  have hnc44 := NB101_103.out
                                  have hcz45_0 : wc.cell? ⟨gb103, 0, none⟩ = some (.int .i64 ((rd_T121 l0_1 x19_1).f0)) := (blk_cell BK103.out 0).trans rfl
                                  have hcz45_1 : wc.cell? ⟨gb103, 1, none⟩ = some (.int .i64 ((rd_T121 l0_1 x19_1).f1)) := (blk_cell BK103.out 1).trans rfl
                                  have hcz45_2 : wc.cell? ⟨gb103, 2, none⟩ = some (.int .i64 ((rd_T121 l0_1 x19_1).f2)) := (blk_cell BK103.out 2).trans rfl
                                  have hfz45_0 := blk_frozen BK103.out 0
                                  have hfz45_1 := blk_frozen BK103.out 1
                                  have hfz45_2 := blk_frozen BK103.out 2
                                  go_wp2
                                  repeat (go_quiet (fail); try go_wp2)
                                  go_ret
                                  exact ⟨by first | rfl | (simp [errW_none, errW_some] <;> rfl) | (simp [*, errW_none, errW_some] <;> rfl), by repeat (first | (with_reducible first | exact HB.out | apply below_alloc | apply pw_below_drewN | apply below_drew1 | refine below_set ?_ GE101.out | refine below_set ?_ GE103.out) | exact HB.out)⟩
                                · rw [if_neg c43] at H
                                  have c43b0 : decide (((rd_T121 l0_1 x19_1).f2) < 2) = false := decide_eq_false c43
                                  clear c43
                                  by_cases c46 : ((rd_T121 l0_1 x19_1).f2) > 16
                                  · rw [if_pos c46] at H
                                    have c46b0 : decide (16 < ((rd_T121 l0_1 x19_1).f2)) = true := decide_eq_true c46
                                    clear c46
                                    obtain rfl := Option.some.inj H
                                    have hnb47 := NB103_101.out
                                    have hnc47 := NB101_103.out
                                    have hcz48_0 : wc.cell? ⟨gb103, 0, none⟩ = some (.int .i64 ((rd_T121 l0_1 x19_1).f0)) := (blk_cell BK103.out 0).trans rfl
                                    have hcz48_1 : wc.cell? ⟨gb103, 1, none⟩ = some (.int .i64 ((rd_T121 l0_1 x19_1).f1)) := (blk_cell BK103.out 1).trans rfl
                                    have hcz48_2 : wc.cell? ⟨gb103, 2, none⟩ = some (.int .i64 ((rd_T121 l0_1 x19_1).f2)) := (blk_cell BK103.out 2).trans rfl
                                    have hfz48_0 := blk_frozen BK103.out 0
                                    have hfz48_1 := blk_frozen BK103.out 1
                                    have hfz48_2 := blk_frozen BK103.out 2
                                    go_wp2
                                    repeat (go_quiet (fail); try go_wp2)
                                    go_ret
                                    exact ⟨by first | rfl | (simp [errW_none, errW_some] <;> rfl) | (simp [*, errW_none, errW_some] <;> rfl), by repeat (first | (with_reducible first | exact HB.out | apply below_alloc | apply pw_below_drewN | apply below_drew1 | refine below_set ?_ GE101.out | refine below_set ?_ GE103.out) | exact HB.out)⟩
                                  · rw [if_neg c46] at H
                                    have c46b0 : decide (16 < ((rd_T121 l0_1 x19_1).f2)) = false := decide_eq_false c46
                                    clear c46
                                    have H' := Aside0.mk H
                                    clear H
                                    have hnb49 := NB103_101.out
                                    have hnc49 := NB101_103.out
                                    have hcz50_0 : wc.cell? ⟨gb103, 0, none⟩ = some (.int .i64 ((rd_T121 l0_1 x19_1).f0)) := (blk_cell BK103.out 0).trans rfl
                                    have hcz50_1 : wc.cell? ⟨gb103, 1, none⟩ = some (.int .i64 ((rd_T121 l0_1 x19_1).f1)) := (blk_cell BK103.out 1).trans rfl
                                    have hcz50_2 : wc.cell? ⟨gb103, 2, none⟩ = some (.int .i64 ((rd_T121 l0_1 x19_1).f2)) := (blk_cell BK103.out 2).trans rfl
                                    have hfz50_0 := blk_frozen BK103.out 0
                                    have hfz50_1 := blk_frozen BK103.out 1
                                    have hfz50_2 := blk_frozen BK103.out 2
                                    go_wp2
                                    repeat (go_quiet (fail); try go_wp2)
                                    go_roundg kj23
                                    case measure => have := HK1.out; have := HJ12.out; have := HJ23.out; omega
                                    case rel => exact ⟨(wrap64 (x19_1 + 1)), (by first | rfl | (simp; done) | (simp [*]; done)), H', ⟨by have := HK1.out; have := HJ12.out; have := HJ23.out; omega⟩, ⟨by (with_reducible repeat (first | refine blk_drewN ?_ _ | refine blk_drew ?_ | refine blk_alloc ?_ _)); exact BK101.out⟩, ⟨by repeat (first | (with_reducible first | exact HB.out | apply below_alloc | apply pw_below_drewN | apply below_drew1 | refine below_set ?_ GE101.out | refine below_set ?_ GE103.out) | exact HB.out)⟩⟩
                              · rw [if_neg c42] at H
                                have c42b0 : (((rd_T121 l0_1 x19_1).f1) == 2) = false := beq_eq_false_iff_ne.mpr c42
                                have c42b1 : (((rd_T121 l0_1 x19_1).f1) != 2) = true := bne_iff_ne.mpr c42
                                by_cases c51 : ((rd_T121 l0_1 x19_1).f1) = 3
                                · rw [if_pos c51] at H
                                  have c51b0 : (((rd_T121 l0_1 x19_1).f1) == 3) = true := beq_iff_eq.mpr c51
                                  have c51b1 : (((rd_T121 l0_1 x19_1).f1) != 3) = false := bne_eq_false_iff_eq.mpr c51
                                  clear c51
                                  by_cases c52 : ((rd_T121 l0_1 x19_1).f2) < 2
                                  · rw [if_pos c52] at H
                                    have c52b0 : decide (((rd_T121 l0_1 x19_1).f2) < 2) = true := decide_eq_true c52
                                    clear c52
                                    obtain rfl := Option.some.inj H
                                    have hnb53 := NB103_101.out
                                    have hnc53 := NB101_103.out
                                    have hcz54_0 : wc.cell? ⟨gb103, 0, none⟩ = some (.int .i64 ((rd_T121 l0_1 x19_1).f0)) := (blk_cell BK103.out 0).trans rfl
                                    have hcz54_1 : wc.cell? ⟨gb103, 1, none⟩ = some (.int .i64 ((rd_T121 l0_1 x19_1).f1)) := (blk_cell BK103.out 1).trans rfl
                                    have hcz54_2 : wc.cell? ⟨gb103, 2, none⟩ = some (.int .i64 ((rd_T121 l0_1 x19_1).f2)) := (blk_cell BK103.out 2).trans rfl
                                    have hfz54_0 := blk_frozen BK103.out 0
                                    have hfz54_1 := blk_frozen BK103.out 1
                                    have hfz54_2 := blk_frozen BK103.out 2
                                    go_wp2
                                    repeat (go_quiet (fail); try go_wp2)
                                    go_ret
                                    exact ⟨by first | rfl | (simp [errW_none, errW_some] <;> rfl) | (simp [*, errW_none, errW_some] <;> rfl), by repeat (first | (with_reducible first | exact HB.out | apply below_alloc | apply pw_below_drewN | apply below_drew1 | refine below_set ?_ GE101.out | refine below_set ?_ GE103.out) | exact HB.out)⟩
                                  · rw [if_neg c52] at H
                                    have c52b0 : decide (((rd_T121 l0_1 x19_1).f2) < 2) = false := decide_eq_false c52
                                    clear c52
                                    by_cases c55 : ((rd_T121 l0_1 x19_1).f2) > 100
                                    · rw [if_pos c55] at H
                                      have c55b0 : decide (100 < ((rd_T121 l0_1 x19_1).f2)) = true := decide_eq_true c55
                                      clear c55
                                      obtain rfl := Option.some.inj H
                                      have hnb56 := NB103_101.out
                                      have hnc56 := NB101_103.out
                                      have hcz57_0 : wc.cell? ⟨gb103, 0, none⟩ = some (.int .i64 ((rd_T121 l0_1 x19_1).f0)) := (blk_cell BK103.out 0).trans rfl
                                      have hcz57_1 : wc.cell? ⟨gb103, 1, none⟩ = some (.int .i64 ((rd_T121 l0_1 x19_1).f1)) := (blk_cell BK103.out 1).trans rfl
                                      have hcz57_2 : wc.cell? ⟨gb103, 2, none⟩ = some (.int .i64 ((rd_T121 l0_1 x19_1).f2)) := (blk_cell BK103.out 2).trans rfl
                                      have hfz57_0 := blk_frozen BK103.out 0
                                      have hfz57_1 := blk_frozen BK103.out 1
                                      have hfz57_2 := blk_frozen BK103.out 2
                                      go_wp2
                                      repeat (go_quiet (fail); try go_wp2)
                                      go_ret
                                      exact ⟨by first | rfl | (simp [errW_none, errW_some] <;> rfl) | (simp [*, errW_none, errW_some] <;> rfl), by repeat (first | (with_reducible first | exact HB.out | apply below_alloc | apply pw_below_drewN | apply below_drew1 | refine below_set ?_ GE101.out | refine below_set ?_ GE103.out) | exact HB.out)⟩
                                    · rw [if_neg c55] at H
                                      have c55b0 : decide (100 < ((rd_T121 l0_1 x19_1).f2)) = false := decide_eq_false c55
                                      clear c55
                                      have H' := Aside0.mk H
                                      clear H
                                      have hnb58 := NB103_101.out
                                      have hnc58 := NB101_103.out
                                      have hcz59_0 : wc.cell? ⟨gb103, 0, none⟩ = some (.int .i64 ((rd_T121 l0_1 x19_1).f0)) := (blk_cell BK103.out 0).trans rfl
                                      have hcz59_1 : wc.cell? ⟨gb103, 1, none⟩ = some (.int .i64 ((rd_T121 l0_1 x19_1).f1)) := (blk_cell BK103.out 1).trans rfl
                                      have hcz59_2 : wc.cell? ⟨gb103, 2, none⟩ = some (.int .i64 ((rd_T121 l0_1 x19_1).f2)) := (blk_cell BK103.out 2).trans rfl
                                      have hfz59_0 := blk_frozen BK103.out 0
                                      have hfz59_1 := blk_frozen BK103.out 1
                                      have hfz59_2 := blk_frozen BK103.out 2
                                      go_wp2
                                      repeat (go_quiet (fail); try go_wp2)
                                      go_roundg kj23
                                      case measure => have := HK1.out; have := HJ12.out; have := HJ23.out; omega
                                      case rel => exact ⟨(wrap64 (x19_1 + 1)), (by first | rfl | (simp; done) | (simp [*]; done)), H', ⟨by have := HK1.out; have := HJ12.out; have := HJ23.out; omega⟩, ⟨by (with_reducible repeat (first | refine blk_drewN ?_ _ | refine blk_drew ?_ | refine blk_alloc ?_ _)); exact BK101.out⟩, ⟨by repeat (first | (with_reducible first | exact HB.out | apply below_alloc | apply pw_below_drewN | apply below_drew1 | refine below_set ?_ GE101.out | refine below_set ?_ GE103.out) | exact HB.out)⟩⟩
                                · rw [if_neg c51] at H
                                  have c51b0 : (((rd_T121 l0_1 x19_1).f1) == 3) = false := beq_eq_false_iff_ne.mpr c51
                                  have c51b1 : (((rd_T121 l0_1 x19_1).f1) != 3) = true := bne_iff_ne.mpr c51
                                  obtain rfl := Option.some.inj H
                                  have hnb60 := NB103_101.out
                                  have hnc60 := NB101_103.out
                                  have hcz61_0 : wc.cell? ⟨gb103, 0, none⟩ = some (.int .i64 ((rd_T121 l0_1 x19_1).f0)) := (blk_cell BK103.out 0).trans rfl
                                  have hcz61_1 : wc.cell? ⟨gb103, 1, none⟩ = some (.int .i64 ((rd_T121 l0_1 x19_1).f1)) := (blk_cell BK103.out 1).trans rfl
                                  have hcz61_2 : wc.cell? ⟨gb103, 2, none⟩ = some (.int .i64 ((rd_T121 l0_1 x19_1).f2)) := (blk_cell BK103.out 2).trans rfl
                                  have hfz61_0 := blk_frozen BK103.out 0
                                  have hfz61_1 := blk_frozen BK103.out 1
                                  have hfz61_2 := blk_frozen BK103.out 2
                                  go_wp2
                                  repeat (go_quiet (fail); try go_wp2)
                                  go_ret
                                  exact ⟨by first | rfl | (simp [errW_none, errW_some] <;> rfl) | (simp [*, errW_none, errW_some] <;> rfl), by repeat (first | (with_reducible first | exact HB.out | apply below_alloc | apply pw_below_drewN | apply below_drew1 | refine below_set ?_ GE101.out | refine below_set ?_ GE103.out) | exact HB.out)⟩
              · rw [if_neg c12] at H
                exact absurd H (by simp)
            · rw [if_neg c11] at H
              exact absurd H (by simp)
          · rw [if_neg c10] at H
            have c10b0 : decide (x19_1 < (l0_1.length : Int)) = false := decide_eq_false c10
            clear c10
            obtain rfl := Option.some.inj H
            go_wp2
            repeat (go_quiet (fail); try go_wp2)
            go_ret
            exact ⟨by first | rfl | (simp [errW_none, errW_some] <;> rfl) | (simp [*, errW_none, errW_some] <;> rfl), by repeat (first | (with_reducible first | exact HB.out | apply below_alloc | apply pw_below_drewN | apply below_drew1 | refine below_set ?_ GE101.out) | exact HB.out)⟩

-- import Derived.Maps.OwnOps
-- import Derived.Maps.Views
open Go.Maps
theorem disk_law : Keyed Try.prog 3 := int_keyed Try.underlying3
theorem disk_zero (w : World) : (zeroValue 3).run Try.prog w = .ok (.int .i64 0) w := by kernel_rfl
/-- block M holds a map that gives T; at most N entries -/
def MapIs (w : World) (M : Nat) (T : Int → Int) (N : Nat) : Prop :=
  ∃ D, World.ownsMap (H := Unit) w Try.prog 3 (plainElem Try.prog 3) M N D ∧ ∀ k : Int, D.atKey (.int .i64 k) (.lit (.int .i64 0)) = .lit (.int .i64 (T k))
theorem MapIs.lt {w : World} {M N : Nat} {T : Int → Int} (h : MapIs w M T N) : M < w.heap.size := by obtain ⟨D, h1, _⟩ := h; exact h1.lt
theorem MapIs.look {w : World} {M N : Nat} {T : Int → Int} (h : MapIs w M T N) (k : Int) (hk : (Lit.int .i64 k).wf = true) : (Instr.lookup 67 (.map (some M)) (.int .i64 k) false).run Try.prog w = .ok (.int .i64 (T k)) w := by
  obtain ⟨D, h1, h2⟩ := h
  obtain ⟨c, hrun, hat, _⟩ := h1.lookup_int disk_law Try.underlying67 Try.underlying3 (disk_zero w) (keyOf_int_mk Try.underlying3 hk)
  rw [h2 k] at hat
  have : T k = c := by simpa using hat
  rw [this]; exact hrun
theorem MapIs.upd {w : World} {M N : Nat} {T : Int → Int} (h : MapIs w M T N) (hN : N < maxLen) (k v : Int) (hk : (Lit.int .i64 k).wf = true) (hv : (Lit.int .i64 v).wf = true) :
    ∃ w', (Instr.mapUpdate 67 (.map (some M)) (.int .i64 k) (.int .i64 v)).run Try.prog w = .ok () w' ∧ MapIs w' M (fun j => if j = k then v else T j) (N + 1) ∧ w.grownBy w' (some M) := by
  obtain ⟨D, h1, h2⟩ := h
  obtain ⟨w', r1, r2, r3⟩ := h1.update disk_law Try.underlying67 hN (keyOf_int_mk Try.underlying3 hk) (plainElem_int Try.underlying3 hv)
  refine ⟨w', r1, ⟨_, r2, fun j => ?_⟩, r3⟩
  by_cases hj : j = k
  · subst hj
    simp only [if_true]
    obtain ⟨es, clock, _, _, _, hD⟩ := h1
    exact atKey_put_same (by rw [hD]; exact ⟨_, rfl⟩) (by trivial) _ _
  · simp only [if_neg hj]
    rw [atKey_put_other (by simpa using hj)]
    exact h2 j
theorem MapIs.same {w W : World} {M N : Nat} {T : Int → Int} (h : MapIs w M T N) (hk : W.heap[M]? = w.heap[M]?) : MapIs W M T N := by
  obtain ⟨D, ⟨es, clock, hb, F, hs, hD⟩, h2⟩ := h
  exact ⟨D, ⟨es, clock, hk.trans hb, F, hs, hD⟩, h2⟩
theorem MapIs.made (w : World) : MapIs (w.alloc (.map #[] 0)) w.heap.size (fun _ => 0) 0 := ⟨_, World.ownsMap_made w Try.prog 3 _, fun k => rfl⟩
/-- a drive that is being read: its block, its map, its rows (which lie below L) -/
structure IsDisk (w : World) (L g M : Nat) (A0 : Option Addr) (c0 : Nat) (data : List Int) (A1 : Option Addr) (c1 : Nat) (faults : List S121) (T : Int → Int) (t : Int) (N : Nat) : Prop where
  cells : w.heap[g]? = some (.cells #[.slice A0 data.length c0, .slice A1 faults.length c1, .map (some M), .int .i64 t] 128 (0, 0))
  ne : g ≠ M
  gl : g < L
  ml : M < L
  ll : L ≤ w.heap.size
  map : MapIs w M T N
  cap0 : data.length ≤ c0
  cap1 : faults.length ≤ c1
  rows : ∀ W : World, (∀ i, i < L → i ≠ g → i ≠ M → W.heap[i]? = w.heap[i]?) → Kd.C (Kd.int .u8) W A0 data.length data ∧ Kd.C k121 W A1 faults.length faults
section
variable {w W : World} {L g M : Nat} {A0 : Option Addr} {c0 : Nat} {data : List Int} {A1 : Option Addr} {c1 : Nat} {faults : List S121} {T : Int → Int} {t : Int} {N : Nat}
theorem IsDisk.move (h : IsDisk w L g M A0 c0 data A1 c1 faults T t N) (hs : w.heap.size ≤ W.heap.size) (hk : ∀ i, i < L → W.heap[i]? = w.heap[i]?) : IsDisk W L g M A0 c0 data A1 c1 faults T t N :=
  ⟨(hk g h.gl).trans h.cells, h.ne, h.gl, h.ml, Nat.le_trans h.ll hs, h.map.same (hk M h.ml), h.cap0, h.cap1, fun W2 h2 => h.rows W2 fun i hi hg hM => (h2 i hi hg hM).trans (hk i hi)⟩
theorem IsDisk.below (h : IsDisk w L g M A0 c0 data A1 c1 faults T t N) (hb : Below w.heap.size w W) : IsDisk W L g M A0 c0 data A1 c1 faults T t N :=
  h.move hb.size fun i hi => hb.block i (Nat.lt_of_lt_of_le hi h.ll)
set_option maxHeartbeats 2000000 in
set_option maxRecDepth 100000 in
theorem blocks_calls (h : IsDisk w L g M A0 c0 data A1 c1 faults T t N) (hl : data.length ≤ 140737488351232) :
    Calls Try.prog 44 #[.pointer (some ⟨g, 0, none⟩)] w fun e w' => e = .returned (.int .i64 ((data.length : Int) / 64)) ∧ w' = w := by
  have hc0 : w.cell? ⟨g, 0, none⟩ = some (.slice A0 data.length c0) := (blk_cell h.cells 0).trans rfl
  have hq : Int.tdiv (data.length : Int) 64 = (data.length : Int) / 64 := Int.tdiv_eq_ediv_of_nonneg (by omega)
  have hq2 : IntKind.i64.wrap ((data.length : Int) / 64) = (data.length : Int) / 64 := by rw [i64_w]; unfold wrap64; omega
  clear h
  go_enter Try.func44, Try.ntmps44
  go_wp2
  go_ret
  exact ⟨rfl, rfl⟩
end
def drive_Disk_Blocks.f (l0 : List Int) : Option Int := none


-- import Derived.Lib.SliceRun
/-- a copy -/
def slices_Clone_byte.f (l0 : List Int) : Option (List Int) := if l0.length ≤ 140737488355328 then some l0 else none
set_option maxHeartbeats 2000000 in
set_option maxRecDepth 100000 in
theorem slices_Clone_byte.calls (A0 : Option Addr) (c0 : Nat) (l0 : List Int) (r : List Int) (w : World) (hr0 : Kd.C (Kd.int .u8) w A0 l0.length l0) (hc0 : l0.length ≤ c0) (h : slices_Clone_byte.f l0 = some r) :
    Calls Try.prog 82 #[.slice A0 l0.length c0] w fun e w' => ∃ v0_ : Value, e = .returned v0_ ∧ Kd.R (Kd.int .u8) 5 w' w.heap.size (fun _ => True) v0_ r ∧ Below w.heap.size w w' := by
  unfold slices_Clone_byte.f at h
  split at h
  · rename_i hl
    obtain rfl := Option.some.inj h
    have q22 : ∀ (w : World) (a : Option Addr) (n c n' c' : Nat), (binOp .eql 22 (.slice a n c) (.slice none n' c')).run Try.prog w = .ok (.bool a.isNone) w := fun w a n c n' c' => Go.Lib.run_eql_slice_nil w _ _ a n c n' c' Try.underlying22
    cases A0 with
    | none =>
      have h0 : l0 = [] := by
        refine List.eq_nil_of_length_eq_zero ?_
        rcases Nat.eq_zero_or_pos l0.length with h | h
        · exact h
        · obtain ⟨a, ha, _⟩ := hr0.2.2 h
          exact absurd ha (by simp)
      subst h0
      clear hr0
      go_enter Try.func82, Try.ntmps82
      go_wp2
      go_ret
      exact ⟨_, rfl, Kd.R_nil _ _ _ _ _, Below.refl _ _⟩
    | some ad =>
      have HR := Aside0.mk hr0
      clear hr0
      go_enter Try.func82, Try.ntmps82
      go_wp2_with (first
        | ((with_reducible refine gate_dst (N := 5) rfl ?_); refine Kd.R_lit (Kd.int .u8) _ 5 ?hg (N := 5) ?hd (xs := ([] : List Int)) (inner := []) (ok := fun _ => True) (okp := fun _ => True) ?hr (Reps.none _ _) (fun _ hk => hk) trivial (Below.refl _ _) (Nat.le_refl _) (by simp) ?_; (case hd => rfl); (case hg => rfl); (case hr => first | (go_simp; done) | (go_simp; rfl)); intro v1 w1 HO HB hg hat; have HC := Aside0.mk (Kd.C_below HR.out HB); have HO := Aside0.mk HO; have HB := Aside0.mk HB; clear hg hat)
        | ((with_reducible refine gate_dst (N := 7) rfl ?_); refine Kd.R_append_rows (Kd.int .u8) (Rr := (Kd.int .u8).K w1) w.heap.size rfl (.tmp 5) (.tmp 6) 22 5 (.int .u8 0) 1 rfl Try.underlying22 info5 rfl (by decide) (by decide) v1 [] l0 (some ad) l0.length c0 (fun _ => True) (fun _ => False) rfl rfl HO.out HC.out (fun _ _ h => h) (fun _ h => h.elim) (fun _ _ => trivial) HB.out HB.out.size (by simpa using hl) ?_; intro v2 w2 HO2 HB2 hg hat))
      go_ret
      exact ⟨_, rfl, by simpa using HO2, HB2⟩
  · exact absurd h (by simp)


-- import Derived.Lib.SliceRun
/-- a copy -/
def slices_Clone_faults.f (l0 : List S121) : Option (List S121) := if l0.length ≤ 5864062014805 then some l0 else none
set_option maxHeartbeats 2000000 in
set_option maxRecDepth 100000 in
theorem slices_Clone_faults.calls (A0 : Option Addr) (c0 : Nat) (l0 : List S121) (r : List S121) (w : World) (hr0 : Kd.C k121 w A0 l0.length l0) (hc0 : l0.length ≤ c0) (h : slices_Clone_faults.f l0 = some r) :
    Calls Try.prog 87 #[.slice A0 l0.length c0] w fun e w' => ∃ v0_ : Value, e = .returned v0_ ∧ Kd.R k121 121 w' w.heap.size (fun _ => True) v0_ r ∧ Below w.heap.size w w' := by
  unfold slices_Clone_faults.f at h
  split at h
  · rename_i hl
    obtain rfl := Option.some.inj h
    have q22 : ∀ (w : World) (a : Option Addr) (n c n' c' : Nat), (binOp .eql 44 (.slice a n c) (.slice none n' c')).run Try.prog w = .ok (.bool a.isNone) w := fun w a n c n' c' => Go.Lib.run_eql_slice_nil w _ _ a n c n' c' Try.underlying44
    cases A0 with
    | none =>
      have h0 : l0 = [] := by
        refine List.eq_nil_of_length_eq_zero ?_
        rcases Nat.eq_zero_or_pos l0.length with h | h
        · exact h
        · obtain ⟨a, ha, _⟩ := hr0.2.2 h
          exact absurd ha (by simp)
      subst h0
      clear hr0
      go_enter Try.func87, Try.ntmps87
      go_wp2
      go_ret
      exact ⟨_, rfl, Kd.R_nil _ _ _ _ _, Below.refl _ _⟩
    | some ad =>
      have HR := Aside0.mk hr0
      clear hr0
      go_enter Try.func87, Try.ntmps87
      go_wp2_with (first
        | ((with_reducible refine gate_dst (N := 5) rfl ?_); refine Kd.R_lit k121 _ 121 ?hg (N := 5) ?hd (xs := ([] : List S121)) (inner := []) (ok := fun _ => True) (okp := fun _ => True) ?hr (Reps.none _ _) (fun _ hk => hk) trivial (Below.refl _ _) (Nat.le_refl _) (by simp) ?_; (case hd => rfl); (case hg => rfl); (case hr => first | (go_simp; done) | (go_simp; rfl)); intro v1 w1 HO HB hg hat; have HC := Aside0.mk (Kd.C_below HR.out HB); have HO := Aside0.mk HO; have HB := Aside0.mk HB; clear hg hat)
        | ((with_reducible refine gate_dst (N := 7) rfl ?_); refine Kd.R_append_rows k121 (Rr := k121.K w1) w.heap.size rfl (.tmp 5) (.tmp 6) 44 121 (.agg #[.int .i64 0, .int .i64 0, .int .i64 0]) 24 rfl Try.underlying44 info121 rfl (by decide) (by decide) v1 [] l0 (some ad) l0.length c0 (fun _ => True) (fun _ => False) rfl rfl HO.out HC.out (fun x cs h => (k121_open h) ▸ k121_mkM _ _ _ x) (fun _ h => h.elim) (fun _ _ => trivial) HB.out HB.out.size (by simp; omega) ?_; intro v2 w2 HO2 HB2 hg hat))
      go_ret
      exact ⟨_, rfl, by simpa using HO2, HB2⟩
  · exact absurd h (by simp)


end Go.Proofs.Ytdgkbpoljcndgaa.QPassRuns
