/- Written by a program of this session (wip/mprint): the walk of the Go code, function by function, for every input; no condition. -/
import Derived.Test.YtagcaheopbmdiaaGreatYSumTreePlain
import Derived.Shelf.SlSortCmp.NoneTotal
import Derived.Shelf.SlSortCmp.WholeK
namespace Go.Proofs.YtagcaheopbmdiaaGreat.QLockOpens
open Go.RowKit Go.Proofs.YtagcaheopbmdiaaGreatW.PrintWords Go.Proofs.YtagcaheopbmdiaaGreatW.PrintLast Go.Proofs.YtagcaheopbmdiaaGreatW.PrintMore
attribute [local go_sem] max2_int min2_int max_two min_two max_three min_three max_four min_four   -- for this text's walks alone
set_option linter.unusedVariables false
set_option linter.unusedSimpArgs false
def span_end.f (a0_0 : Int) (a0_1 : Int) : Option (Int) := some (wrap64 (a0_0 + a0_1))
set_option maxHeartbeats 8000000 in
set_option maxRecDepth 100000 in
theorem span_end.calls (a0_0 : Int) (a0_1 : Int) (r : Int) (w : World) (h : span_end.f a0_0 a0_1 = some r) :
  Calls Tryz.prog 35 #[.agg #[.int .i64 a0_0, .int .i64 a0_1]] w fun e w' => e = .returned (.int .i64 r) ∧ Below w.heap.size w w' := by
 have hu52 := Tryz.underlying52
 have HB := Aside0.mk (Below.refl w.heap.size w)
 have H : (some (wrap64 (a0_0 + a0_1))) = some r := h
 clear h
 obtain rfl := Option.some.inj H
 go_enter Tryz.func35, Tryz.ntmps35
 go_wp2_with (first | ((with_reducible refine gate_dst (N := 1) rfl ?_); refine box_event ?hg (N := 1) ?hd (cs := #[.int .i64 a0_0, .int .i64 a0_1]) (t := 52) ?hr ?_; (case hd => rfl); (case hg => rfl); (case hr => first | (go_simp; done) | (go_simp; rfl)); intro gb101 hg w2 hbox hb; have n0_ := Aside0.mk (below_step (by repeat (first | (with_reducible first | exact HB.out | apply below_alloc | apply pw_below_drewN | apply below_drew1) | exact HB.out)) hb); have n1_ := Aside0.mk (hbox); have n2_ := Aside0.mk ((by rw [hg]; exact (below_size (by repeat (first | (with_reducible first | exact HB.out | apply below_alloc | apply pw_below_drewN | apply below_drew1) | exact HB.out))) : w.heap.size ≤ gb101)); have n3_ := Aside0.mk ((by rw [hg]; exact (below_size (by repeat (first | (with_reducible first | exact HB.out | apply below_alloc | apply pw_below_drewN | apply below_drew1) | exact HB.out))) : w.heap.size ≤ gb101)); clear HB; have HB := n0_; have BK101 := n1_; have GW101 := n2_; have GE101 := n3_; clear n0_ n1_ n2_ n3_; clear hb hbox hg; have hcz3_0 : w2.cell? ⟨gb101, 0, none⟩ = some (.int .i64 a0_0) := (blk_cell BK101.out 0).trans rfl; have hcz3_1 : w2.cell? ⟨gb101, 1, none⟩ = some (.int .i64 a0_1) := (blk_cell BK101.out 1).trans rfl; have hfz3_0 := blk_frozen BK101.out 0; have hfz3_1 := blk_frozen BK101.out 1))
 go_ret
 exact ⟨by first | rfl | (simp [errW_none, errW_some] <;> rfl) | (simp [*, errW_none, errW_some] <;> rfl), by repeat (first | (with_reducible first | exact HB.out | apply below_alloc | apply pw_below_drewN | apply below_drew1 | refine below_set ?_ GE101.out) | exact HB.out)⟩
def span_Check.f (a0_0 : Int) (a0_1 : Int) : Option (Int) := if a0_0 < 0 then (some 4) else (if a0_1 < 0 then (some 4) else (if a0_1 > 65536 then (some 4) else (if a0_0 > (wrap64 (65536 - a0_1)) then (some 4) else (some 0))))
set_option maxHeartbeats 8000000 in
set_option maxRecDepth 100000 in
theorem span_Check.calls (a0_0 : Int) (a0_1 : Int) (r : Int) (w : World) (h : span_Check.f a0_0 a0_1 = some r) :
  Calls Tryz.prog 36 #[.agg #[.int .i64 a0_0, .int .i64 a0_1]] w fun e w' => e = .returned (.int .i64 r) ∧ Below w.heap.size w w' := by
 have hu52 := Tryz.underlying52
 have HB := Aside0.mk (Below.refl w.heap.size w)
 have H : (if a0_0 < 0 then (some 4) else (if a0_1 < 0 then (some 4) else (if a0_1 > 65536 then (some 4) else (if a0_0 > (wrap64 (65536 - a0_1)) then (some 4) else (some 0))))) = some r := h
 clear h
 by_cases c2 : a0_0 < 0
 ·
  rw [if_pos c2] at H
  have c2b0 : decide (a0_0 < 0) = true := decide_eq_true c2
  clear c2
  obtain rfl := Option.some.inj H
  go_enter Tryz.func36, Tryz.ntmps36
  go_wp2_with (first | ((with_reducible refine gate_dst (N := 1) rfl ?_); refine box_event ?hg (N := 1) ?hd (cs := #[.int .i64 a0_0, .int .i64 a0_1]) (t := 52) ?hr ?_; (case hd => rfl); (case hg => rfl); (case hr => first | (go_simp; done) | (go_simp; rfl)); intro gb102 hg w3 hbox hb; have n0_ := Aside0.mk (below_step (by repeat (first | (with_reducible first | exact HB.out | apply below_alloc | apply pw_below_drewN | apply below_drew1) | exact HB.out)) hb); have n1_ := Aside0.mk (hbox); have n2_ := Aside0.mk ((by rw [hg]; exact (below_size (by repeat (first | (with_reducible first | exact HB.out | apply below_alloc | apply pw_below_drewN | apply below_drew1) | exact HB.out))) : w.heap.size ≤ gb102)); have n3_ := Aside0.mk ((by rw [hg]; exact (below_size (by repeat (first | (with_reducible first | exact HB.out | apply below_alloc | apply pw_below_drewN | apply below_drew1) | exact HB.out))) : w.heap.size ≤ gb102)); clear HB; have HB := n0_; have BK102 := n1_; have GW102 := n2_; have GE102 := n3_; clear n0_ n1_ n2_ n3_; clear hb hbox hg; have hcz4_0 : w3.cell? ⟨gb102, 0, none⟩ = some (.int .i64 a0_0) := (blk_cell BK102.out 0).trans rfl; have hcz4_1 : w3.cell? ⟨gb102, 1, none⟩ = some (.int .i64 a0_1) := (blk_cell BK102.out 1).trans rfl; have hfz4_0 := blk_frozen BK102.out 0; have hfz4_1 := blk_frozen BK102.out 1))
  go_ret
  exact ⟨by first | rfl | (simp [errW_none, errW_some] <;> rfl) | (simp [*, errW_none, errW_some] <;> rfl), by repeat (first | (with_reducible first | exact HB.out | apply below_alloc | apply pw_below_drewN | apply below_drew1 | refine below_set ?_ GE102.out) | exact HB.out)⟩
 ·
  rw [if_neg c2] at H
  have c2b0 : decide (a0_0 < 0) = false := decide_eq_false c2
  clear c2
  by_cases c5 : a0_1 < 0
  ·
   rw [if_pos c5] at H
   have c5b0 : decide (a0_1 < 0) = true := decide_eq_true c5
   clear c5
   obtain rfl := Option.some.inj H
   go_enter Tryz.func36, Tryz.ntmps36
   go_wp2_with (first | ((with_reducible refine gate_dst (N := 1) rfl ?_); refine box_event ?hg (N := 1) ?hd (cs := #[.int .i64 a0_0, .int .i64 a0_1]) (t := 52) ?hr ?_; (case hd => rfl); (case hg => rfl); (case hr => first | (go_simp; done) | (go_simp; rfl)); intro gb102 hg w6 hbox hb; have n0_ := Aside0.mk (below_step (by repeat (first | (with_reducible first | exact HB.out | apply below_alloc | apply pw_below_drewN | apply below_drew1) | exact HB.out)) hb); have n1_ := Aside0.mk (hbox); have n2_ := Aside0.mk ((by rw [hg]; exact (below_size (by repeat (first | (with_reducible first | exact HB.out | apply below_alloc | apply pw_below_drewN | apply below_drew1) | exact HB.out))) : w.heap.size ≤ gb102)); have n3_ := Aside0.mk ((by rw [hg]; exact (below_size (by repeat (first | (with_reducible first | exact HB.out | apply below_alloc | apply pw_below_drewN | apply below_drew1) | exact HB.out))) : w.heap.size ≤ gb102)); clear HB; have HB := n0_; have BK102 := n1_; have GW102 := n2_; have GE102 := n3_; clear n0_ n1_ n2_ n3_; clear hb hbox hg; have hcz7_0 : w6.cell? ⟨gb102, 0, none⟩ = some (.int .i64 a0_0) := (blk_cell BK102.out 0).trans rfl; have hcz7_1 : w6.cell? ⟨gb102, 1, none⟩ = some (.int .i64 a0_1) := (blk_cell BK102.out 1).trans rfl; have hfz7_0 := blk_frozen BK102.out 0; have hfz7_1 := blk_frozen BK102.out 1))
   go_ret
   exact ⟨by first | rfl | (simp [errW_none, errW_some] <;> rfl) | (simp [*, errW_none, errW_some] <;> rfl), by repeat (first | (with_reducible first | exact HB.out | apply below_alloc | apply pw_below_drewN | apply below_drew1 | refine below_set ?_ GE102.out) | exact HB.out)⟩
  ·
   rw [if_neg c5] at H
   have c5b0 : decide (a0_1 < 0) = false := decide_eq_false c5
   clear c5
   by_cases c8 : a0_1 > 65536
   ·
    rw [if_pos c8] at H
    have c8b0 : decide (65536 < a0_1) = true := decide_eq_true c8
    clear c8
    obtain rfl := Option.some.inj H
    go_enter Tryz.func36, Tryz.ntmps36
    go_wp2_with (first | ((with_reducible refine gate_dst (N := 1) rfl ?_); refine box_event ?hg (N := 1) ?hd (cs := #[.int .i64 a0_0, .int .i64 a0_1]) (t := 52) ?hr ?_; (case hd => rfl); (case hg => rfl); (case hr => first | (go_simp; done) | (go_simp; rfl)); intro gb102 hg w9 hbox hb; have n0_ := Aside0.mk (below_step (by repeat (first | (with_reducible first | exact HB.out | apply below_alloc | apply pw_below_drewN | apply below_drew1) | exact HB.out)) hb); have n1_ := Aside0.mk (hbox); have n2_ := Aside0.mk ((by rw [hg]; exact (below_size (by repeat (first | (with_reducible first | exact HB.out | apply below_alloc | apply pw_below_drewN | apply below_drew1) | exact HB.out))) : w.heap.size ≤ gb102)); have n3_ := Aside0.mk ((by rw [hg]; exact (below_size (by repeat (first | (with_reducible first | exact HB.out | apply below_alloc | apply pw_below_drewN | apply below_drew1) | exact HB.out))) : w.heap.size ≤ gb102)); clear HB; have HB := n0_; have BK102 := n1_; have GW102 := n2_; have GE102 := n3_; clear n0_ n1_ n2_ n3_; clear hb hbox hg; have hcz10_0 : w9.cell? ⟨gb102, 0, none⟩ = some (.int .i64 a0_0) := (blk_cell BK102.out 0).trans rfl; have hcz10_1 : w9.cell? ⟨gb102, 1, none⟩ = some (.int .i64 a0_1) := (blk_cell BK102.out 1).trans rfl; have hfz10_0 := blk_frozen BK102.out 0; have hfz10_1 := blk_frozen BK102.out 1))
    go_ret
    exact ⟨by first | rfl | (simp [errW_none, errW_some] <;> rfl) | (simp [*, errW_none, errW_some] <;> rfl), by repeat (first | (with_reducible first | exact HB.out | apply below_alloc | apply pw_below_drewN | apply below_drew1 | refine below_set ?_ GE102.out) | exact HB.out)⟩
   ·
    rw [if_neg c8] at H
    have c8b0 : decide (65536 < a0_1) = false := decide_eq_false c8
    clear c8
    by_cases c11 : a0_0 > (wrap64 (65536 - a0_1))
    ·
     rw [if_pos c11] at H
     have c11b0 : decide ((wrap64 (65536 - a0_1)) < a0_0) = true := decide_eq_true c11
     clear c11
     obtain rfl := Option.some.inj H
     go_enter Tryz.func36, Tryz.ntmps36
     go_wp2_with (first | ((with_reducible refine gate_dst (N := 1) rfl ?_); refine box_event ?hg (N := 1) ?hd (cs := #[.int .i64 a0_0, .int .i64 a0_1]) (t := 52) ?hr ?_; (case hd => rfl); (case hg => rfl); (case hr => first | (go_simp; done) | (go_simp; rfl)); intro gb102 hg w12 hbox hb; have n0_ := Aside0.mk (below_step (by repeat (first | (with_reducible first | exact HB.out | apply below_alloc | apply pw_below_drewN | apply below_drew1) | exact HB.out)) hb); have n1_ := Aside0.mk (hbox); have n2_ := Aside0.mk ((by rw [hg]; exact (below_size (by repeat (first | (with_reducible first | exact HB.out | apply below_alloc | apply pw_below_drewN | apply below_drew1) | exact HB.out))) : w.heap.size ≤ gb102)); have n3_ := Aside0.mk ((by rw [hg]; exact (below_size (by repeat (first | (with_reducible first | exact HB.out | apply below_alloc | apply pw_below_drewN | apply below_drew1) | exact HB.out))) : w.heap.size ≤ gb102)); clear HB; have HB := n0_; have BK102 := n1_; have GW102 := n2_; have GE102 := n3_; clear n0_ n1_ n2_ n3_; clear hb hbox hg; have hcz13_0 : w12.cell? ⟨gb102, 0, none⟩ = some (.int .i64 a0_0) := (blk_cell BK102.out 0).trans rfl; have hcz13_1 : w12.cell? ⟨gb102, 1, none⟩ = some (.int .i64 a0_1) := (blk_cell BK102.out 1).trans rfl; have hfz13_0 := blk_frozen BK102.out 0; have hfz13_1 := blk_frozen BK102.out 1))
     go_ret
     exact ⟨by first | rfl | (simp [errW_none, errW_some] <;> rfl) | (simp [*, errW_none, errW_some] <;> rfl), by repeat (first | (with_reducible first | exact HB.out | apply below_alloc | apply pw_below_drewN | apply below_drew1 | refine below_set ?_ GE102.out) | exact HB.out)⟩
    ·
     rw [if_neg c11] at H
     have c11b0 : decide ((wrap64 (65536 - a0_1)) < a0_0) = false := decide_eq_false c11
     clear c11
     obtain rfl := Option.some.inj H
     go_enter Tryz.func36, Tryz.ntmps36
     go_wp2_with (first | ((with_reducible refine gate_dst (N := 1) rfl ?_); refine box_event ?hg (N := 1) ?hd (cs := #[.int .i64 a0_0, .int .i64 a0_1]) (t := 52) ?hr ?_; (case hd => rfl); (case hg => rfl); (case hr => first | (go_simp; done) | (go_simp; rfl)); intro gb102 hg w14 hbox hb; have n0_ := Aside0.mk (below_step (by repeat (first | (with_reducible first | exact HB.out | apply below_alloc | apply pw_below_drewN | apply below_drew1) | exact HB.out)) hb); have n1_ := Aside0.mk (hbox); have n2_ := Aside0.mk ((by rw [hg]; exact (below_size (by repeat (first | (with_reducible first | exact HB.out | apply below_alloc | apply pw_below_drewN | apply below_drew1) | exact HB.out))) : w.heap.size ≤ gb102)); have n3_ := Aside0.mk ((by rw [hg]; exact (below_size (by repeat (first | (with_reducible first | exact HB.out | apply below_alloc | apply pw_below_drewN | apply below_drew1) | exact HB.out))) : w.heap.size ≤ gb102)); clear HB; have HB := n0_; have BK102 := n1_; have GW102 := n2_; have GE102 := n3_; clear n0_ n1_ n2_ n3_; clear hb hbox hg; have hcz15_0 : w14.cell? ⟨gb102, 0, none⟩ = some (.int .i64 a0_0) := (blk_cell BK102.out 0).trans rfl; have hcz15_1 : w14.cell? ⟨gb102, 1, none⟩ = some (.int .i64 a0_1) := (blk_cell BK102.out 1).trans rfl; have hfz15_0 := blk_frozen BK102.out 0; have hfz15_1 := blk_frozen BK102.out 1))
     go_ret
     exact ⟨by first | rfl | (simp [errW_none, errW_some] <;> rfl) | (simp [*, errW_none, errW_some] <;> rfl), by repeat (first | (with_reducible first | exact HB.out | apply below_alloc | apply pw_below_drewN | apply below_drew1 | refine below_set ?_ GE102.out) | exact HB.out)⟩
def span_good.f (a0_0 : Int) (a0_1 : Int) : Option (Bool) := (span_Check.f a0_0 a0_1).bind fun t104 => (if t104 = 0 then (some (decide (a0_1 > 0))) else (some false))
set_option maxHeartbeats 8000000 in
set_option maxRecDepth 100000 in
theorem span_good.calls (a0_0 : Int) (a0_1 : Int) (r : Bool) (w : World) (h : span_good.f a0_0 a0_1 = some r) :
  Calls Tryz.prog 49 #[.agg #[.int .i64 a0_0, .int .i64 a0_1]] w fun e w' => e = .returned (.bool r) ∧ Below w.heap.size w w' := by
 have hu52 := Tryz.underlying52
 have HB := Aside0.mk (Below.refl w.heap.size w)
 have H : ((span_Check.f a0_0 a0_1).bind fun t104 => (if t104 = 0 then (some (decide (a0_1 > 0))) else (some false))) = some r := h
 clear h
 replace H := Option.bind_eq_some_iff.mp H
 obtain ⟨t104, A20, H⟩ := H
 replace H : (if t104 = 0 then (some (decide (a0_1 > 0))) else (some false)) = some r := H
 have A2 := Aside0.mk A20
 clear A20
 by_cases c3 : t104 = 0
 ·
  rw [if_pos c3] at H
  have c3b0 : (t104 == 0) = true := beq_iff_eq.mpr c3
  have c3b1 : (t104 != 0) = false := bne_eq_false_iff_eq.mpr c3
  clear c3
  obtain rfl := Option.some.inj H
  go_enter Tryz.func49, Tryz.ntmps49
  go_wp2_with (first | ((with_reducible refine gate_dst (N := 1) rfl ?_); refine box_event ?hg (N := 1) ?hd (cs := #[.int .i64 a0_0, .int .i64 a0_1]) (t := 52) ?hr ?_; (case hd => rfl); (case hg => rfl); (case hr => first | (go_simp; done) | (go_simp; rfl)); intro gb103 hg w4 hbox hb; have n0_ := Aside0.mk (below_step (by repeat (first | (with_reducible first | exact HB.out | apply below_alloc | apply pw_below_drewN | apply below_drew1) | exact HB.out)) hb); have n1_ := Aside0.mk (hbox); have n2_ := Aside0.mk ((by rw [hg]; exact (below_size (by repeat (first | (with_reducible first | exact HB.out | apply below_alloc | apply pw_below_drewN | apply below_drew1) | exact HB.out))) : w.heap.size ≤ gb103)); have n3_ := Aside0.mk ((by rw [hg]; exact (below_size (by repeat (first | (with_reducible first | exact HB.out | apply below_alloc | apply pw_below_drewN | apply below_drew1) | exact HB.out))) : w.heap.size ≤ gb103)); clear HB; have HB := n0_; have BK103 := n1_; have GW103 := n2_; have GE103 := n3_; clear n0_ n1_ n2_ n3_; clear hb hbox hg; have hcz5_0 : w4.cell? ⟨gb103, 0, none⟩ = some (.int .i64 a0_0) := (blk_cell BK103.out 0).trans rfl; have hcz5_1 : w4.cell? ⟨gb103, 1, none⟩ = some (.int .i64 a0_1) := (blk_cell BK103.out 1).trans rfl; have hfz5_0 := blk_frozen BK103.out 0; have hfz5_1 := blk_frozen BK103.out 1) | ((with_reducible refine gate_callee (f := 36) rfl ?_); refine goesL_ (some 4) rfl rfl Tryz.func36 (by kernel_rfl) rfl #[.agg #[.int .i64 a0_0, .int .i64 a0_1]] rfl (by (try simp only [List.map_toArray, List.map_cons, List.map_nil]); first | done | rfl | (simp only [List.length_drop, List.length_take]; rfl)) ?_; (with_reducible refine (span_Check.calls a0_0 a0_1 t104 _ A2.out).mono ?_); rintro e w6 ⟨rfl, hb⟩; refine ⟨_, rfl, ?_⟩; have n0_ := Aside0.mk (blk_below (g := gb103) (o := .cells #[.int .i64 a0_0, .int .i64 a0_1] 52 (0, 0)) (by (with_reducible repeat (first | refine blk_drewN ?_ _ | refine blk_drew ?_ | refine blk_alloc ?_ _)); exact BK103.out) hb); have n1_ := Aside0.mk (below_step (by repeat (first | (with_reducible first | exact HB.out | apply below_alloc | apply pw_below_drewN | apply below_drew1 | refine below_set ?_ GE103.out) | exact HB.out)) hb); clear BK103; clear HB; have BK103 := n0_; have HB := n1_; clear n0_ n1_; (try clear hb); (try clear hb2); (try clear hk); (try clear hi); have hcz7_0 : w6.cell? ⟨gb103, 0, none⟩ = some (.int .i64 a0_0) := (blk_cell BK103.out 0).trans rfl; have hcz7_1 : w6.cell? ⟨gb103, 1, none⟩ = some (.int .i64 a0_1) := (blk_cell BK103.out 1).trans rfl; have hfz7_0 := blk_frozen BK103.out 0; have hfz7_1 := blk_frozen BK103.out 1))
  go_ret
  exact ⟨by first | rfl | (simp [errW_none, errW_some] <;> rfl) | (simp [*, errW_none, errW_some] <;> rfl), by repeat (first | (with_reducible first | exact HB.out | apply below_alloc | apply pw_below_drewN | apply below_drew1 | refine below_set ?_ GE103.out) | exact HB.out)⟩
 ·
  rw [if_neg c3] at H
  have c3b0 : (t104 == 0) = false := beq_eq_false_iff_ne.mpr c3
  have c3b1 : (t104 != 0) = true := bne_iff_ne.mpr c3
  obtain rfl := Option.some.inj H
  go_enter Tryz.func49, Tryz.ntmps49
  go_wp2_with (first | ((with_reducible refine gate_dst (N := 1) rfl ?_); refine box_event ?hg (N := 1) ?hd (cs := #[.int .i64 a0_0, .int .i64 a0_1]) (t := 52) ?hr ?_; (case hd => rfl); (case hg => rfl); (case hr => first | (go_simp; done) | (go_simp; rfl)); intro gb103 hg w8 hbox hb; have n0_ := Aside0.mk (below_step (by repeat (first | (with_reducible first | exact HB.out | apply below_alloc | apply pw_below_drewN | apply below_drew1) | exact HB.out)) hb); have n1_ := Aside0.mk (hbox); have n2_ := Aside0.mk ((by rw [hg]; exact (below_size (by repeat (first | (with_reducible first | exact HB.out | apply below_alloc | apply pw_below_drewN | apply below_drew1) | exact HB.out))) : w.heap.size ≤ gb103)); have n3_ := Aside0.mk ((by rw [hg]; exact (below_size (by repeat (first | (with_reducible first | exact HB.out | apply below_alloc | apply pw_below_drewN | apply below_drew1) | exact HB.out))) : w.heap.size ≤ gb103)); clear HB; have HB := n0_; have BK103 := n1_; have GW103 := n2_; have GE103 := n3_; clear n0_ n1_ n2_ n3_; clear hb hbox hg; have hcz9_0 : w8.cell? ⟨gb103, 0, none⟩ = some (.int .i64 a0_0) := (blk_cell BK103.out 0).trans rfl; have hcz9_1 : w8.cell? ⟨gb103, 1, none⟩ = some (.int .i64 a0_1) := (blk_cell BK103.out 1).trans rfl; have hfz9_0 := blk_frozen BK103.out 0; have hfz9_1 := blk_frozen BK103.out 1) | ((with_reducible refine gate_callee (f := 36) rfl ?_); refine goesL_ (some 4) rfl rfl Tryz.func36 (by kernel_rfl) rfl #[.agg #[.int .i64 a0_0, .int .i64 a0_1]] rfl (by (try simp only [List.map_toArray, List.map_cons, List.map_nil]); first | done | rfl | (simp only [List.length_drop, List.length_take]; rfl)) ?_; (with_reducible refine (span_Check.calls a0_0 a0_1 t104 _ A2.out).mono ?_); rintro e w10 ⟨rfl, hb⟩; refine ⟨_, rfl, ?_⟩; have n0_ := Aside0.mk (blk_below (g := gb103) (o := .cells #[.int .i64 a0_0, .int .i64 a0_1] 52 (0, 0)) (by (with_reducible repeat (first | refine blk_drewN ?_ _ | refine blk_drew ?_ | refine blk_alloc ?_ _)); exact BK103.out) hb); have n1_ := Aside0.mk (below_step (by repeat (first | (with_reducible first | exact HB.out | apply below_alloc | apply pw_below_drewN | apply below_drew1 | refine below_set ?_ GE103.out) | exact HB.out)) hb); clear BK103; clear HB; have BK103 := n0_; have HB := n1_; clear n0_ n1_; (try clear hb); (try clear hb2); (try clear hk); (try clear hi)))
  go_ret
  exact ⟨by first | rfl | (simp [errW_none, errW_some] <;> rfl) | (simp [*, errW_none, errW_some] <;> rfl), by repeat (first | (with_reducible first | exact HB.out | apply below_alloc | apply pw_below_drewN | apply below_drew1 | refine below_set ?_ GE103.out) | exact HB.out)⟩
-- import Derived.Shelf.SlSortCmp.NoneTotal
-- import Derived.Shelf.SlSortCmp.WholeK
section
open Go.Shelf Go.RowKit Go.Lib Go.Sort Go.Proofs
def sortSpan_ren : Go.Shelf.Ren := ⟨fun | 6 => 50 | 15 => 63 | 14 => 62 | 28 => 82 | 29 => 83 | 20 => 74 | 21 => 75 | 22 => 76 | 23 => 77 | 24 => 78 | 25 => 79 | 26 => 80 | 27 => 81 | 46 => 88 | 47 => 89 | 48 => 90 | 49 => 91 | 50 => 92 | 57 => 93 | n => n, fun | 22 => 23 | 24 => 52 | 25 => 92 | 3 => 3 | 39 => 90 | 0 => 0 | 53 => 112 | 55 => 43 | 4 => 4 | 46 => 122 | 45 => 121 | 50 => 126 | 5 => 5 | 9 => 9 | 66 => 134 | 70 => 138 | 76 => 140 | 77 => 141 | n => n, fun | n => n⟩
theorem sortSpan : Go.Proofs.SlLaysF0.n6 Tryz.prog sortSpan_ren := {
 mixed := by kernel_rfl
 f6 := ⟨Tryz.f50.name, by decide, Tryz.func50.trans (congrArg some (by kernel_rfl))⟩
 f14 := ⟨Tryz.f62.name, by decide, Tryz.func62.trans (congrArg some (by kernel_rfl))⟩
 f15 := Tryz.func63.trans (congrArg some (by kernel_rfl))
 f20 := ⟨Tryz.f74.name, by decide, Tryz.func74.trans (congrArg some (by kernel_rfl))⟩
 f21 := ⟨Tryz.f75.name, by decide, Tryz.func75.trans (congrArg some (by kernel_rfl))⟩
 f22 := ⟨Tryz.f76.name, by decide, Tryz.func76.trans (congrArg some (by kernel_rfl))⟩
 f23 := ⟨Tryz.f77.name, by decide, Tryz.func77.trans (congrArg some (by kernel_rfl))⟩
 f24 := ⟨Tryz.f78.name, by decide, Tryz.func78.trans (congrArg some (by kernel_rfl))⟩
 f25 := ⟨Tryz.f79.name, by decide, Tryz.func79.trans (congrArg some (by kernel_rfl))⟩
 f26 := ⟨Tryz.f80.name, by decide, Tryz.func80.trans (congrArg some (by kernel_rfl))⟩
 f27 := ⟨Tryz.f81.name, by decide, Tryz.func81.trans (congrArg some (by kernel_rfl))⟩
 f28 := Tryz.func82.trans (congrArg some (by kernel_rfl))
 f29 := Tryz.func83.trans (congrArg some (by kernel_rfl))
 f46 := ⟨Tryz.f88.name, by decide, Tryz.func88.trans (congrArg some (by kernel_rfl))⟩
 f47 := Tryz.func89.trans (congrArg some (by kernel_rfl))
 f48 := Tryz.func90.trans (congrArg some (by kernel_rfl))
 f49 := ⟨Tryz.f91.name, by decide, Tryz.func91.trans (congrArg some (by kernel_rfl))⟩
 f50 := ⟨Tryz.f92.name, by decide, Tryz.func92.trans (congrArg some (by kernel_rfl))⟩
 f57 := ⟨Tryz.f93.name, by decide, Tryz.func93.trans (congrArg some (by kernel_rfl))⟩
 t0 := Tryz.underlying0
 a0 := Tryz.isAgg0
 z0 := Tryz.sizeOf0
 v0 := Tryz.zeroValue0
 t3 := Tryz.underlying3
 a3 := Tryz.isAgg3
 z3 := Tryz.sizeOf3
 v3 := Tryz.zeroValue3
 t4 := Tryz.underlying4
 a4 := Tryz.isAgg4
 z4 := Tryz.sizeOf4
 v4 := Tryz.zeroValue4
 t5 := Tryz.underlying5
 a5 := Tryz.isAgg5
 z5 := Tryz.sizeOf5
 v5 := Tryz.zeroValue5
 t9 := Tryz.underlying9
 a9 := Tryz.isAgg9
 z9 := Tryz.sizeOf9
 v9 := Tryz.zeroValue9
 t22 := Tryz.underlying23
 a22 := Tryz.isAgg23
 z22 := Tryz.sizeOf23
 v22 := Tryz.zeroValue23
 t25 := Tryz.underlying92
 a25 := Tryz.isAgg92
 z25 := Tryz.sizeOf92
 v25 := Tryz.zeroValue92
 t39 := Tryz.underlying90
 a39 := Tryz.isAgg90
 z39 := Tryz.sizeOf90
 v39 := Tryz.zeroValue90
 t45 := Tryz.underlying121
 a45 := Tryz.isAgg121
 z45 := Tryz.sizeOf121
 v45 := Tryz.zeroValue121
 t46 := Tryz.underlying122
 a46 := Tryz.isAgg122
 z46 := Tryz.sizeOf122
 v46 := Tryz.zeroValue122
 t50 := Tryz.underlying126
 a50 := Tryz.isAgg126
 z50 := Tryz.sizeOf126
 v50 := Tryz.zeroValue126
 t53 := Tryz.underlying112
 a53 := Tryz.isAgg112
 z53 := Tryz.sizeOf112
 v53 := Tryz.zeroValue112
 t55 := Tryz.underlying43
 a55 := Tryz.isAgg43
 z55 := Tryz.sizeOf43
 v55 := Tryz.zeroValue43
 t66 := Tryz.underlying134
 a66 := Tryz.isAgg134
 z66 := Tryz.sizeOf134
 v66 := Tryz.zeroValue134
 t70 := Tryz.underlying138
 a70 := Tryz.isAgg138
 z70 := Tryz.sizeOf138
 v70 := Tryz.zeroValue138
 t76 := Tryz.underlying140
 a76 := Tryz.isAgg140
 z76 := Tryz.sizeOf140
 v76 := Tryz.zeroValue140
 t77 := Tryz.underlying141
 a77 := Tryz.isAgg141
 z77 := Tryz.sizeOf141
 v77 := Tryz.zeroValue141 }
/-- a span whose first byte is one of an image, or its end -/
abbrev RS : Type := {x : S52 // 0 ≤ x.f0 ∧ x.f0 ≤ 65536}
instance : Inhabited RS := ⟨⟨⟨0, 0⟩, by decide⟩⟩
def encRS (x : RS) : List Value := [.int .i64 x.1.f0, .int .i64 x.1.f1]
def cfRS (x y : RS) : Int := x.1.f0 - y.1.f0
theorem ltRS (x y : RS) : ltOf cfRS x y = decide (x.1.f0 < y.1.f0) := by
 unfold ltOf cfRS
 exact decide_eq_decide.2 ⟨fun h => by omega, fun h => by omega⟩
theorem swoRS : SWO (ltOf cfRS) where
 irrefl x := by rw [ltRS]; simp
 trans x y z h1 h2 := by rw [ltRS] at *; simp at *; omega
 ntrans x y z h1 h2 := by rw [ltRS] at *; simp at *; omega
def toRS (l : List S52) : List RS := l.map fun x => if h : 0 ≤ x.f0 ∧ x.f0 ≤ 65536 then ⟨x, h⟩ else default
theorem toRS_val (l : List S52) (h : ∀ x ∈ l, 0 ≤ x.f0 ∧ x.f0 ≤ 65536) : (toRS l).map (·.1) = l := by
 induction l with
 | nil => rfl
 | cons x l ih =>
  have hx := h x (by simp)
  have e := ih fun y hy => h y (by simp [hy])
  unfold toRS at e ⊢
  rw [List.map_cons, List.map_cons, e, dif_pos hx]
def sortRS (l : List S52) : Array RS := pdq (ltOf cfRS) (toRS l).toArray 0 (toRS l).toArray.size (Lib.bitLen (toRS l).toArray.size) true true
/-- what the sort makes of spans -/
def sortedS (l : List S52) : List S52 := (sortRS l).toList.map (·.1)
theorem sortRS_facts (l : List S52) : PermIn 0 (toRS l).toArray.size (toRS l).toArray (sortRS l) ∧ SortedIn (ltOf cfRS) 0 (toRS l).toArray.size (sortRS l) :=
 pdq_sorts (ltOf cfRS) swoRS (toRS l).toArray 0 (toRS l).toArray.size (Lib.bitLen (toRS l).toArray.size) true true (Nat.zero_le _) (Nat.le_refl _) (Or.inl rfl)
theorem sortedS_perm (l : List S52) (h : ∀ x ∈ l, 0 ≤ x.f0 ∧ x.f0 ≤ 65536) : (sortedS l).Perm l := by
 obtain ⟨h1, h2, h3⟩ := (sortRS_facts l).1
 rw [Array.extract_eq_self_of_le (by omega), Array.extract_eq_self_of_le (by omega)] at h3
 have h4 := h3.map (·.1)
 rw [List.toList_toArray, toRS_val l h] at h4
 exact h4
theorem sortedS_in_order (l : List S52) : (sortedS l).Pairwise fun x y => x.f0 ≤ y.f0 := by
 obtain ⟨h1, _, _⟩ := (sortRS_facts l).1
 have h2 := (sortRS_facts l).2
 unfold sortedS
 rw [List.pairwise_map, List.pairwise_iff_getElem]
 intro i j hi hj hij
 have h3 := h2 i j (Nat.zero_le _) hij (by rw [← h1]; simpa using hj)
 rw [ltRS, getElem!_pos (sortRS l) i (by simpa using hi), getElem!_pos (sortRS l) j (by simpa using hj)] at h3
 simpa using h3
theorem sortedS_len (l : List S52) : (sortedS l).length = l.length := by
 unfold sortedS
 rw [List.length_map, Array.length_toList, (sortRS_facts l).1.1]
 simp [toRS]
def slices_SortFunc_spans.f (l0 : List S52) : Option (List S52) := if (∀ x ∈ l0, 0 ≤ x.f0 ∧ x.f0 ≤ 65536) ∧ l0.length ≤ 140737488351232 then some (sortedS l0) else none
theorem cmpRS (x y : RS) (W : World) : Calls Tryz.prog 51 #[.agg #[.int .i64 x.1.f0, .int .i64 x.1.f1], .agg #[.int .i64 y.1.f0, .int .i64 y.1.f1]] W fun e w' => e = .returned (.int .i64 (cfRS x y)) ∧ ∃ q os', w' = grow (W.drewN q) os' := by
 have h : wrap64 (x.1.f0 - y.1.f0) = cfRS x y := by
  have := x.2; have := y.2
  unfold cfRS wrap64; omega
 generalize cfRS x y = r at h ⊢
 generalize x.1.f0 = a0 at *
 generalize x.1.f1 = a1 at *
 generalize y.1.f0 = b0 at *
 generalize y.1.f1 = b1 at *
 go_enter Tryz.func51, Tryz.ntmps51
 go_wp2
 go_ret
 exact ⟨by simp [i64_w, h], 0, _, by rw [alloc_eq_grow, alloc_eq_grow, grow_grow]; rfl⟩
theorem cmpLaysRS (blk off size : Nat) (w : World) : CmpLays Tryz.prog 51 #[] encRS 2 cfRS blk off size w :=
 fun _ _ _ _ x y => cmpRS x y _
set_option maxHeartbeats 2000000 in
theorem slices_SortFunc_spans.calls (P0_ : Nat → Prop) (u9000_ : Value) (l0 : List S52) (r : List S52) (w0 w : World) (hB : Go.RowKit.Below w0.heap.size w0 w) (ho0 : Kd.R k52 52 w w0.heap.size P0_ u9000_ l0) (h : slices_SortFunc_spans.f l0 = some r) :
  Calls Tryz.prog 50 #[u9000_, .func (.func 51) #[] #[]] w fun e w' => e = .returned (.tuple #[]) ∧ Kd.R k52 52 w' w0.heap.size (fun k_ => (P0_ k_ ∨ w.heap.size ≤ k_)) u9000_ r ∧ Go.RowKit.Below w0.heap.size w0 w' ∧ Kept w w' (fun k_ => P0_ k_) := by
 unfold slices_SortFunc_spans.f at h
 split at h
 ·
  rename_i hc
  obtain rfl := Option.some.inj h
  have hlenS := sortedS_len l0
  obtain ⟨hok, inner, ⟨hil, hf⟩, hri, hrj⟩ := ho0
  have eg : ∀ args w, (callFunc 51 args).run Tryz.prog w = .ok (.enter 51 args) w := enters_of Tryz.func51 (by kernel_rfl) rfl
  rcases hf with ⟨rfl, hn⟩ | ⟨g, cap, cur, rfl, hbg, hh, hnc, hcm, hcs, hct⟩
  ·
   have hl : l0 = [] := List.eq_nil_of_length_eq_zero hn
   subst hl
   have hl2 : sortedS [] = [] := List.eq_nil_of_length_eq_zero hlenS
   rw [hl2]
   have hcon := AnyF.slices_SortFunc_none (P := Tryz.prog) (ρ := sortSpan_ren) { sortSpan with } none 0 (.func (.func 51) #[] #[]) w
   change Calls Tryz.prog 50 _ _ _ at hcon
   refine hcon.mono ?_
   rintro e w' ⟨rfl, rfl⟩
   exact ⟨rfl, Kd.R_nil _ _ _ _ _, hB, Kept.refl _ _⟩
  ·
   have hct : cur.toList.take (l0.length * 2) = inner := hct
   have hcs : cur.size = cap * 2 := hcs
   have hg : g < w.heap.size := by
    rcases Nat.lt_or_ge g w.heap.size with h | h
    · exact h
    · rw [Array.getElem?_eq_none h] at hh; exact absurd hh (by simp)
   have hds : (toRS l0).toArray.size = l0.length := by simp [toRS]
   have hH : HoldsK encRS 2 w g 0 (toRS l0).toArray := by
    intro j hj
    rw [size_flatK, hds] at hj
    rw [get_flatK encRS 2 _ j (by rw [hds]; exact hj)]
    have hj2 : j / 2 < l0.length := by omega
    have hd : ((toRS l0).toArray[j / 2]!).1 = l0[j / 2] := by
     rw [getElem!_pos _ _ (by rw [hds]; exact hj2)]
     have e := toRS_val l0 hc.1
     have e2 : ((toRS l0).map (·.1))[j / 2]? = l0[j / 2]? := by rw [e]
     rw [List.getElem?_map, List.getElem?_eq_getElem hj2, List.getElem?_eq_getElem (by simp [toRS]; exact hj2)] at e2
     simpa using e2
    have hM := k52_openM (hrj (j / 2) l0[j / 2] (List.getElem?_eq_getElem hj2))
    have hcj : cur[j]? = inner[j]? := by
     rw [← hct, List.getElem?_take_of_lt hj, Array.getElem?_toList]
    have hij : inner[j]? = some ([Value.int .i64 l0[j / 2].f0, Value.int .i64 l0[j / 2].f1][j % 2]!) := by
     have e3 : ((inner.drop (j / 2 * 2)).take 2)[j % 2]? = inner[j]? := by
      rw [List.getElem?_take_of_lt (Nat.mod_lt _ (by decide)), List.getElem?_drop, show j / 2 * 2 + j % 2 = j by omega]
     have hM' : (inner.drop (j / 2 * 2)).take 2 = [Value.int .i64 l0[j / 2].f0, Value.int .i64 l0[j / 2].f1] := hM
     rw [← e3, hM']
     rcases Nat.mod_two_eq_zero_or_one j with h0 | h0 <;> rw [h0] <;> rfl
    constructor
    ·
     have : encRS (toRS l0).toArray[j / 2]! = [Value.int .i64 l0[j / 2].f0, Value.int .i64 l0[j / 2].f1] := by unfold encRS; rw [hd]
     rw [this]
     unfold World.cell?
     simp only [Nat.zero_add, hh]
     rw [hcj, hij]; simp
    ·
     unfold World.frozen?
     simp [hh]
   have hcon := AnyQ.slices_SortFunc_eq sortSpan 2 Tryz.isAgg52 Tryz.sizeOf52 encRS (fun _ => rfl) (fun x v hv => by simp [encRS] at hv; rcases hv with rfl | rfl <;> rfl) cfRS swoRS 51 #[] g 0 cap (toRS l0).toArray w eg (cmpLaysRS g 0 _ w) hH hg (by rw [hds]; omega)
   rw [hds] at hcon
   change Calls Tryz.prog 50 #[.slice (some ⟨g, 0, none⟩) l0.length cap, .func (.func 51) #[] #[]] _ _ at hcon
   refine hcon.mono ?_
   rintro e w' ⟨rfl, n, os, rfl⟩
   have hd' : pdq (ltOf cfRS) (toRS l0).toArray 0 l0.length (Lib.bitLen l0.length) true true = sortRS l0 := by unfold sortRS; rw [hds]
   rw [hd']
   have hsz' : (sortRS l0).size = l0.length := by rw [(sortRS_facts l0).1.1, hds]
   have hblk : (sortWorldK encRS 2 w g 0 n (sortRS l0) os).heap[g]? = some (.cells (putCells id 0 (flatK encRS 2 (sortRS l0)) cur) 52 (0, 0)) := by
    show ((w.heap.modify g (onCells (putCells id 0 (flatK encRS 2 (sortRS l0))))) ++ os)[g]? = _
    rw [Array.getElem?_append_left (by rw [Array.size_modify]; exact hg), Array.getElem?_modify, if_pos rfl, hh]
    rfl
   have hoth : ∀ i, i < w.heap.size → i ≠ g → (sortWorldK encRS 2 w g 0 n (sortRS l0) os).heap[i]? = w.heap[i]? := by
    intro i hi hne
    show ((w.heap.modify g (onCells (putCells id 0 (flatK encRS 2 (sortRS l0))))) ++ os)[i]? = _
    rw [Array.getElem?_append_left (by rw [Array.size_modify]; exact hi), Array.getElem?_modify, if_neg (Ne.symm hne)]
   have hsize : w.heap.size ≤ (sortWorldK encRS 2 w g 0 n (sortRS l0) os).heap.size := by
    show w.heap.size ≤ ((w.heap.modify g (onCells (putCells id 0 (flatK encRS 2 (sortRS l0))))) ++ os).size
    rw [Array.size_append, Array.size_modify]; omega
   have hPg : P0_ g := hok g rfl
   refine ⟨rfl, ⟨fun k hk => Or.inl (hok k hk), (flatK encRS 2 (sortRS l0)).toList, ⟨?_, Or.inr ⟨g, cap, _, by rw [hlenS], hbg, hblk, by rw [hlenS]; exact hnc, hcm, ?_, ?_⟩⟩, ?_, ?_⟩, ?_, ?_⟩
   ·
    show _ = _ * 2
    rw [Array.length_toList, size_flatK, hsz', hlenS]
   ·
    show _ = cap * 2
    rw [← hcs]; simp [putCells]
   ·
    show List.take (_ * 2) _ = _
    rw [hlenS]
    have hcs2 : cur.size = cap * 2 := hcs
    apply List.ext_getElem?
    intro j
    by_cases hj : j < l0.length * 2
    ·
     rw [List.getElem?_take_of_lt hj, Array.getElem?_toList, Array.getElem?_toList]
     unfold putCells
     rw [Array.getElem?_mapIdx, Array.getElem?_eq_getElem (show j < cur.size by omega), Option.map_some, if_pos ⟨Nat.zero_le _, by rw [size_flatK, hsz']; omega⟩, Nat.sub_zero, Array.getElem?_eq_getElem (show j < (flatK encRS 2 (sortRS l0)).size by rw [size_flatK, hsz']; exact hj), getElem!_pos _ j (by rw [size_flatK, hsz']; exact hj)]
     rfl
    · rw [List.getElem?_eq_none (by rw [List.length_take]; omega), List.getElem?_eq_none (by rw [Array.length_toList, size_flatK, hsz']; omega)]
   ·
    show _ = _ * 2
    rw [Array.length_toList, size_flatK, hsz', hlenS]
   ·
    intro j p hp
    have hj : j < l0.length := by rw [← hlenS]; exact (List.getElem?_eq_some_iff.1 hp).1
    have hpe : p = ((sortRS l0)[j]!).1 := by
     unfold sortedS at hp
     rw [List.getElem?_map, Array.getElem?_toList, Array.getElem?_eq_getElem (by omega), Option.map_some] at hp
     rw [getElem!_pos _ j (by omega)]
     exact (Option.some.inj hp).symm
    have e : (List.drop (j * 2) (flatK encRS 2 (sortRS l0)).toList).take 2 = [Value.int .i64 p.f0, Value.int .i64 p.f1] := by
     apply List.ext_getElem?
     intro i
     by_cases hi : i < 2
     ·
      rw [List.getElem?_take_of_lt hi, List.getElem?_drop, Array.getElem?_toList, Array.getElem?_eq_getElem (by rw [size_flatK, hsz']; omega), ← getElem!_pos _ _ (by rw [size_flatK, hsz']; omega), get_flatK encRS 2 _ _ (by rw [hsz']; omega), show (j * 2 + i) / 2 = j by omega, show (j * 2 + i) % 2 = i by omega]
      unfold encRS
      rw [← hpe]
      match i, hi with
      | 0, _ => rfl
      | 1, _ => rfl
     · rw [List.getElem?_eq_none (by rw [List.length_take]; omega), List.getElem?_eq_none (by simp; omega)]
    show k52.M _ _ _ p ((List.drop (j * 2) (flatK encRS 2 (sortRS l0)).toList).take 2)
    rw [e]
    exact k52_mkM _ _ _ p
   · exact ⟨hB.os, hB.tape, hB.output, Nat.le_trans hB.size hsize, fun k hk => (hoth k (Nat.lt_of_lt_of_le hk hB.size) (by omega)).trans (hB.block k hk)⟩
   · exact ⟨hsize, fun i hi hn => hoth i hi (fun e => hn (by rw [e]; exact hPg))⟩
 · exact absurd h (by simp)
end
end Go.Proofs.YtagcaheopbmdiaaGreat.QLockOpens
