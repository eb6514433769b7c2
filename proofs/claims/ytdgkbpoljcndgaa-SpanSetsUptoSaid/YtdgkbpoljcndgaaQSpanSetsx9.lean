/- Written by a program of this session (wip/mprint): the walk of the Go code, function by function, for every input; no condition. -/
import Derived.Test.YtdgkbpoljcndgaaQSpanSetsx0
import Derived.Test.YtdgkbpoljcndgaaQSpanSetsx2
import Derived.Test.YtdgkbpoljcndgaaQSpanSetsx3
import Derived.Test.YtdgkbpoljcndgaaQSpanSetsx4
import Derived.Test.YtdgkbpoljcndgaaQSpanSetsx5
import Derived.Test.YtdgkbpoljcndgaaQSpanSetsx6
import Derived.Test.YtdgkbpoljcndgaaQSpanSetsx7
import Derived.Test.YtdgkbpoljcndgaaQSpanSetsx8
namespace Go.Proofs.Ytdgkbpoljcndgaa.QSpanSets
open Go.RowKit Go.Proofs.YtdgkbpoljcndgaaW.PrintWords Go.Proofs.YtdgkbpoljcndgaaW.PrintLast Go.Proofs.YtdgkbpoljcndgaaW.PrintMore
attribute [local go_sem] max2_int min2_int max_two min_two max_three min_three max_four min_four   -- for this text's walks alone
set_option linter.unusedVariables false
set_option linter.unusedSimpArgs false

/-! ### wracklaw1_SpanSets: function 13 -/
mutual
def wracklaw1_SpanSets.j0 : Nat → List (S95) → List (S95) → Int → Int → Int → Option (Bool)
  | 0, _, _, _, _, _ => none
  | k + 1, x1, x2, x7, x188000, x188001 => (wrackref1_Marks.f k x1).bind fun t189 => ((wrackref1_Marks.f k x2).bind fun t192 => (if 0 ≤ (t189.length : Int) then (if ((t189.length : Int) : Int).toNat ≤ 281474976710656 then (wracklaw1_SpanSets.l0 k x1 x2 x7 t189 t192 (List.replicate ((t189.length : Int) : Int).toNat false) (List.replicate ((t189.length : Int) : Int).toNat false) (List.replicate ((t189.length : Int) : Int).toNat false) (t189.length : Int) 0 x188000 x188001) else (none)) else (none)))
def wracklaw1_SpanSets.l0 : Nat → List (S95) → List (S95) → Int → List Bool → List Bool → List Bool → List Bool → List Bool → Int → Int → Int → Int → Option (Bool)
  | 0, _, _, _, _, _, _, _, _, _, _, _, _ => none
  | k + 1, x1, x2, x7, x8, x9, x10, x11, x12, x30, x31, x188000, x188001 => if x31 < x30 then (if 0 ≤ x31 then (if x31 < (x8.length : Int) then (if rdOf false x8 x31 = true then (if x31 < (x9.length : Int) then (if x31 < (x10.length : Int) then (if x31 < (x11.length : Int) then (if x31 < (x12.length : Int) then (wracklaw1_SpanSets.l0 k x1 x2 x7 x8 x9 (x10.set (x31 : Int).toNat true) (x11.set (x31 : Int).toNat (rdOf false x9 x31)) (x12.set (x31 : Int).toNat (!(rdOf false x9 x31))) x30 (wrap64 (x31 + 1)) x188000 x188001) else (none)) else (none)) else (none)) else (none)) else (if x31 < (x9.length : Int) then (if x31 < (x10.length : Int) then (if x31 < (x11.length : Int) then (if x31 < (x12.length : Int) then (wracklaw1_SpanSets.l0 k x1 x2 x7 x8 x9 (x10.set (x31 : Int).toNat (rdOf false x9 x31)) (x11.set (x31 : Int).toNat false) (x12.set (x31 : Int).toNat false) x30 (wrap64 (x31 + 1)) x188000 x188001) else (none)) else (none)) else (none)) else (none))) else (none)) else (none)) else ((wracklaw1_spans.f).bind fun t218 => (if t218 = true then ((span_Check.f x188000 x188001).bind fun t219 => (if t219 = x7 then ((span_Norm.f k x1).bind fun t220 => ((wrackref1_Set.f k x8).bind fun t223 => ((wrackref1_SameSpans.f k t220 t223).bind fun t226 => (if t226 = true then ((span_Join.f k x1 x2).bind fun t227 => ((wrackref1_Set.f k x10).bind fun t230 => ((wrackref1_SameSpans.f k t227 t230).bind fun t233 => (if t233 = true then ((span_Meet.f k x1 x2).bind fun t234 => ((wrackref1_Set.f k x11).bind fun t237 => ((wrackref1_SameSpans.f k t234 t237).bind fun t240 => (if t240 = true then ((span_Less.f k x1 x2).bind fun t241 => ((wrackref1_Set.f k x12).bind fun t244 => ((wrackref1_SameSpans.f k t241 t244).bind fun t247 => (some t247)))) else (some false))))) else (some false))))) else (some false))))) else (some false))) else (some false)))
end
def wracklaw1_SpanSets.f (k : Nat) (a0_0 : Int) (a0_1 : Int) (l1 : List (S95)) (l2 : List (S95)) : Option (Bool) := (wrackref1_Right.f a0_0 a0_1).bind fun t188 => (if t188 = true then (wracklaw1_SpanSets.j0 k l1 l2 0 a0_0 a0_1) else (wracklaw1_SpanSets.j0 k l1 l2 4 a0_0 a0_1))
theorem wracklaw1_SpanSets.mono_l : ∀ k, (∀ y0 y1 y2 y3 y4, LeO (wracklaw1_SpanSets.j0 k y0 y1 y2 y3 y4) (wracklaw1_SpanSets.j0 (k + 1) y0 y1 y2 y3 y4)) ∧ (∀ y0 y1 y2 y3 y4 y5 y6 y7 y8 y9 y10 y11, LeO (wracklaw1_SpanSets.l0 k y0 y1 y2 y3 y4 y5 y6 y7 y8 y9 y10 y11) (wracklaw1_SpanSets.l0 (k + 1) y0 y1 y2 y3 y4 y5 y6 y7 y8 y9 y10 y11))
  | 0 => ⟨fun _ _ _ _ _ r h => by simp [wracklaw1_SpanSets.j0] at h, fun _ _ _ _ _ _ _ _ _ _ _ _ r h => by simp [wracklaw1_SpanSets.l0] at h⟩
  | k + 1 => by
    obtain ⟨ih0, ih1⟩ := wracklaw1_SpanSets.mono_l k
    refine ⟨?_, ?_⟩
    · intro y0 y1 y2 y3 y4
      unfold wracklaw1_SpanSets.j0
      repeat' first
      | (with_reducible exact ih0 _ _ _ _ _)
      | (with_reducible exact ih1 _ _ _ _ _ _ _ _ _ _ _ _)
      | (with_reducible exact span_Join.mono _ _ _)
      | (with_reducible exact span_Less.mono _ _ _)
      | (with_reducible exact span_Meet.mono _ _ _)
      | (with_reducible exact span_Norm.mono _ _)
      | (with_reducible exact wrackref1_Marks.mono _ _)
      | (with_reducible exact wrackref1_SameSpans.mono _ _ _)
      | (with_reducible exact wrackref1_Set.mono _ _)
      | (with_reducible exact LeO.refl _)
      | (with_reducible exact LeO.none _)
      | (with_reducible refine LeO.ite ?_ ?_)
      | (with_reducible refine LeO.bind ?_ (fun _ => ?_))
      | exact ih0 _ _ _ _ _
      | exact ih1 _ _ _ _ _ _ _ _ _ _ _ _
      | exact span_Join.mono _ _ _
      | exact span_Less.mono _ _ _
      | exact span_Meet.mono _ _ _
      | exact span_Norm.mono _ _
      | exact wrackref1_Marks.mono _ _
      | exact wrackref1_SameSpans.mono _ _ _
      | exact wrackref1_Set.mono _ _
      | exact LeO.none _
      | refine LeO.ite ?_ ?_
      | refine LeO.bind ?_ (fun _ => ?_)
    · intro y0 y1 y2 y3 y4 y5 y6 y7 y8 y9 y10 y11
      unfold wracklaw1_SpanSets.l0
      repeat' first
      | (with_reducible exact ih0 _ _ _ _ _)
      | (with_reducible exact ih1 _ _ _ _ _ _ _ _ _ _ _ _)
      | (with_reducible exact span_Join.mono _ _ _)
      | (with_reducible exact span_Less.mono _ _ _)
      | (with_reducible exact span_Meet.mono _ _ _)
      | (with_reducible exact span_Norm.mono _ _)
      | (with_reducible exact wrackref1_Marks.mono _ _)
      | (with_reducible exact wrackref1_SameSpans.mono _ _ _)
      | (with_reducible exact wrackref1_Set.mono _ _)
      | (with_reducible exact LeO.refl _)
      | (with_reducible exact LeO.none _)
      | (with_reducible refine LeO.ite ?_ ?_)
      | (with_reducible refine LeO.bind ?_ (fun _ => ?_))
      | exact ih0 _ _ _ _ _
      | exact ih1 _ _ _ _ _ _ _ _ _ _ _ _
      | exact span_Join.mono _ _ _
      | exact span_Less.mono _ _ _
      | exact span_Meet.mono _ _ _
      | exact span_Norm.mono _ _
      | exact wrackref1_Marks.mono _ _
      | exact wrackref1_SameSpans.mono _ _ _
      | exact wrackref1_Set.mono _ _
      | exact LeO.none _
      | refine LeO.ite ?_ ?_
      | refine LeO.bind ?_ (fun _ => ?_)
theorem wracklaw1_SpanSets.mono : ∀ a0 a1 a2 a3 k, LeO (wracklaw1_SpanSets.f k a0 a1 a2 a3) (wracklaw1_SpanSets.f (k + 1) a0 a1 a2 a3) := by
  intro a0 a1 a2 a3 k
  obtain ⟨ih0, ih1⟩ := wracklaw1_SpanSets.mono_l k
  unfold wracklaw1_SpanSets.f
  repeat' first
      | (with_reducible exact ih0 _ _ _ _ _)
      | (with_reducible exact ih1 _ _ _ _ _ _ _ _ _ _ _ _)
      | (with_reducible exact span_Join.mono _ _ _)
      | (with_reducible exact span_Less.mono _ _ _)
      | (with_reducible exact span_Meet.mono _ _ _)
      | (with_reducible exact span_Norm.mono _ _)
      | (with_reducible exact wrackref1_Marks.mono _ _)
      | (with_reducible exact wrackref1_SameSpans.mono _ _ _)
      | (with_reducible exact wrackref1_Set.mono _ _)
      | (with_reducible exact LeO.refl _)
      | (with_reducible exact LeO.none _)
      | (with_reducible refine LeO.ite ?_ ?_)
      | (with_reducible refine LeO.bind ?_ (fun _ => ?_))
      | exact ih0 _ _ _ _ _
      | exact ih1 _ _ _ _ _ _ _ _ _ _ _ _
      | exact span_Join.mono _ _ _
      | exact span_Less.mono _ _ _
      | exact span_Meet.mono _ _ _
      | exact span_Norm.mono _ _
      | exact wrackref1_Marks.mono _ _
      | exact wrackref1_SameSpans.mono _ _ _
      | exact wrackref1_Set.mono _ _
      | exact LeO.none _
      | refine LeO.ite ?_ ?_
      | refine LeO.bind ?_ (fun _ => ?_)
def wracklaw1_SpanSets.T5 : Bool × List (List Nat × List Nat) := (true, [([], []), ([0], [0]), ([1, 1], [1]), ([], []), ([3], [3]), ([4, 4], [4]), ([], []), ([6], [6]), ([7, 7], [7]), ([2, 0, 1, 2], [2]), ([5, 9, 0, 1, 2, 3, 4, 5, 9], [5]), ([8, 10, 0, 1, 2, 3, 4, 5, 6, 7, 8, 9, 10], [8])])
def wracklaw1_SpanSets.B5 : List Nat := [0, 1, 3, 0, 8, 24, 0, 64, 192, 7, 575, 2047]
theorem wracklaw1_SpanSets.tab5 : rtab .any (opsOf Try.f13 5) = wracklaw1_SpanSets.T5 := by kernel_rfl
theorem wracklaw1_SpanSets.bits5 : waitsOk wracklaw1_SpanSets.T5.2 wracklaw1_SpanSets.B5 = true := by kernel_rfl
def wracklaw1_SpanSets.T9 : Bool × List (List Nat × List Nat) := (true, [([], []), ([], []), ([], []), ([], []), ([], []), ([], []), ([], []), ([], []), ([6, 7], [6, 7]), ([8], [8]), ([9], [9]), ([10], [10]), ([10], [10]), ([11, 12, 10], [10, 11, 12]), ([13, 10], [10, 13]), ([10, 14], [10, 14]), ([], []), ([], []), ([16, 17], [16, 17]), ([18], [18]), ([19, 10], [19]), ([20], [20]), ([20], [20]), ([21, 22, 20], [20, 21, 22]), ([23, 20], [20, 23]), ([20, 24], [20, 24]), ([], []), ([], []), ([26, 27], [26, 27]), ([28], [28]), ([29, 20], [29]), ([30], [30]), ([30], [30]), ([31, 32, 30], [30, 31, 32]), ([33, 30], [30, 33]), ([34, 30], [30, 34]), ([30, 35], [30, 35]), ([0, 1, 0, 1, 6, 7, 8, 9, 10, 11, 12, 13, 14, 15, 19, 24, 29, 34], [0, 1]), ([37, 15, 30, 0, 1, 6, 7, 8, 9, 10, 11, 12, 13, 14, 15, 19, 24, 29, 34], [15, 37]), ([2, 3, 0, 1, 2, 3, 6, 7, 8, 9, 10, 11, 12, 13, 14, 15, 16, 17, 18, 19, 20, 21, 22, 23, 24, 25, 29, 34, 37, 38], [2, 3]), ([39, 25, 38, 0, 1, 2, 3, 6, 7, 8, 9, 10, 11, 12, 13, 14, 15, 16, 17, 18, 19, 20, 21, 22, 23, 24, 25, 29, 34, 37, 38], [25, 39]), ([4, 5, 0, 1, 2, 3, 4, 5, 6, 7, 8, 9, 10, 11, 12, 13, 14, 15, 16, 17, 18, 19, 20, 21, 22, 23, 24, 25, 26, 27, 28, 29, 30, 31, 32, 33, 34, 35, 36, 37, 38, 39, 40], [4, 5]), ([41, 36, 40, 0, 1, 2, 3, 4, 5, 6, 7, 8, 9, 10, 11, 12, 13, 14, 15, 16, 17, 18, 19, 20, 21, 22, 23, 24, 25, 26, 27, 28, 29, 30, 31, 32, 33, 34, 35, 36, 37, 38, 39, 40], [36, 41])])
def wracklaw1_SpanSets.B9 : List Nat := [0, 0, 0, 0, 0, 0, 0, 0, 192, 448, 960, 1984, 1984, 8128, 16320, 32704, 0, 0, 196608, 458752, 985024, 2033600, 2033600, 8325056, 16713664, 33490880, 0, 0, 201326592, 469762048, 1008666560, 2082408384, 2082408384, 8524859328, 17114793920, 34294663104, 68654401472, 34326183875, 171765137347, 446676598735, 996432412623, 2199023255551, 4398046511103]
theorem wracklaw1_SpanSets.tab9 : rtab .any (opsOf Try.f13 9) = wracklaw1_SpanSets.T9 := by kernel_rfl
theorem wracklaw1_SpanSets.bits9 : waitsOk wracklaw1_SpanSets.T9.2 wracklaw1_SpanSets.B9 = true := by kernel_rfl
theorem qsI : type_of% @List.setIfInBounds_toArray := @List.setIfInBounds_toArray
theorem qs0 : type_of% @List.set_cons_zero := @List.set_cons_zero
theorem qsS : type_of% @List.set_cons_succ := @List.set_cons_succ
theorem qmT : type_of% @List.map_toArray := @List.map_toArray
theorem qbN : type_of% @pw_below_drewN := @pw_below_drewN
theorem qmC : type_of% @List.map_cons := @List.map_cons
theorem qmN : type_of% @List.map_nil := @List.map_nil
theorem qbA : type_of% @below_alloc := @below_alloc
theorem qbD : type_of% @below_drew1 := @below_drew1
theorem qrA : type_of% @Kd.R_alloc := @Kd.R_alloc
theorem qrN : type_of% @Kd.R_drewN := @Kd.R_drewN
theorem qcA : type_of% @Kd.C_alloc := @Kd.C_alloc
theorem qcN : type_of% @Kd.C_drewN := @Kd.C_drewN
theorem qrB : type_of% @Kd.R_below := @Kd.R_below
theorem qbS : type_of% @below_step := @below_step
theorem qcB : type_of% @Kd.C_below := @Kd.C_below
theorem qrD : type_of% @Kd.R_drew := @Kd.R_drew
theorem qkN : type_of% @blk_drewN := @blk_drewN
theorem qkA : type_of% @blk_alloc := @blk_alloc
theorem qcD : type_of% @Kd.C_drew := @Kd.C_drew
theorem qkB : type_of% @blk_below := @blk_below
theorem qkD : type_of% @blk_drew := @blk_drew
set_option maxHeartbeats 8000000 in
set_option maxRecDepth 100000 in
theorem wracklaw1_SpanSets.calls (k : Nat) (a0_0 : Int) (a0_1 : Int) (A1 : Option Addr) (c1 : Nat) (l1 : List (S95)) (A2 : Option Addr) (c2 : Nat) (l2 : List (S95)) (r : Bool) (w : World) (hr1 : Kd.C k95 w A1 l1.length l1) (hc1 : l1.length ≤ c1) (hr2 : Kd.C k95 w A2 l2.length l2) (hc2 : l2.length ≤ c2) (h : wracklaw1_SpanSets.f k a0_0 a0_1 l1 l2 = some r) :
  Calls Try.prog 13 #[.agg #[.int .i64 a0_0, .int .i64 a0_1], .slice A1 l1.length c1, .slice A2 l2.length c2] w fun e w' => e = .returned (.bool r) ∧ Below w.heap.size w w' := by
 have hu95 := Try.underlying95
 have HR1 := Aside0.mk hr1
 have HC1 := Aside0.mk hc1
 clear hr1 hc1
 have HR2 := Aside0.mk hr2
 have HC2 := Aside0.mk hc2
 clear hr2 hc2
 have HB := Aside0.mk (Below.refl w.heap.size w)
 have H : ((wrackref1_Right.f a0_0 a0_1).bind fun t188 => (if t188 = true then (wracklaw1_SpanSets.j0 k l1 l2 0 a0_0 a0_1) else (wracklaw1_SpanSets.j0 k l1 l2 4 a0_0 a0_1))) = some r := h
 clear h
 replace H := Option.bind_eq_some_iff.mp H
 obtain ⟨t188, A40, H⟩ := H
 replace H : (if t188 = true then (wracklaw1_SpanSets.j0 k l1 l2 0 a0_0 a0_1) else (wracklaw1_SpanSets.j0 k l1 l2 4 a0_0 a0_1)) = some r := H
 have A4 := Aside0.mk A40
 clear A40
 have HC5 := Aside0.mk H
 clear H
 go_enter Try.func13, Try.ntmps13
 go_upto_if 15 with (first | ((with_reducible refine gate_dst (N := 3) rfl ?_); refine box_event ?hg (N := 3) ?hd (cs := #[.int .i64 a0_0, .int .i64 a0_1]) (t := 95) ?hr ?_; (case hd => rfl); (case hg => rfl); (case hr => first | (go_simp; done) | (go_simp; rfl)); intro gb187 hg w6 hbox hb; have n0_ := Aside0.mk (qbS (by repeat (first | (with_reducible first | exact HB.out | apply qbA | apply qbN | apply qbD) | exact HB.out)) hb); have n1_ := Aside0.mk (hbox); have n2_ := Aside0.mk ((by rw [hg]; exact (below_size (by repeat (first | (with_reducible first | exact HB.out | apply qbA | apply qbN | apply qbD) | exact HB.out))) : w.heap.size ≤ gb187)); have n3_ := Aside0.mk ((by rw [hg]; exact (below_size (by repeat (first | (with_reducible first | exact HB.out | apply qbA | apply qbN | apply qbD) | exact HB.out))) : w.heap.size ≤ gb187)); clear HB; have HB := n0_; have BK187 := n1_; have GW187 := n2_; have GE187 := n3_; clear n0_ n1_ n2_ n3_ hb hbox hg; have hcz7_0 : w6.cell? ⟨gb187, 0, none⟩ = some (.int .i64 a0_0) := (blk_cell BK187.out 0).trans rfl; have hcz7_1 : w6.cell? ⟨gb187, 1, none⟩ = some (.int .i64 a0_1) := (blk_cell BK187.out 1).trans rfl; have hfz7_0 := blk_frozen BK187.out 0; have hfz7_1 := blk_frozen BK187.out 1) | ((with_reducible refine gate_callee (f := 61) rfl ?_); refine goesL_ (some 15) rfl rfl Try.func61 (by kernel_rfl) rfl #[.agg #[.int .i64 a0_0, .int .i64 a0_1]] rfl (by (try simp only [qmT, qmC, qmN]); first | done | rfl | (simp only [List.length_drop, List.length_take]; rfl)) ?_; (with_reducible refine (wrackref1_Right.calls a0_0 a0_1 t188 _ A4.out).mono ?_); rintro e w8 ⟨rfl, hb⟩; refine ⟨_, rfl, ?_⟩; have n0_ := Aside0.mk (qkB (g := gb187) (o := .cells #[.int .i64 a0_0, .int .i64 a0_1] 95 (0, 0)) (by (with_reducible repeat (first | refine qkN ?_ _ | refine qkD ?_ | refine qkA ?_ _)); exact BK187.out) hb); have n1_ := Aside0.mk (qbS (by repeat (first | (with_reducible first | exact HB.out | apply qbA | apply qbN | apply qbD | refine below_set ?_ GE187.out) | exact HB.out)) hb); clear BK187 HB; have BK187 := n0_; have HB := n1_; clear n0_ n1_; (try clear hb); (try clear hb2); (try clear hk); (try clear hi)))
 (try simp only [Act.put, qsI, qs0, qsS])
 go_cut [7] (fun v7 wc => ∃ (kq : Nat) (x7_4 : Int), v7 = .int .i64 x7_4 ∧ Aside0 (wracklaw1_SpanSets.j0 kq l1 l2 x7_4 a0_0 a0_1 = some r) ∧ Aside0 (kq ≤ k) ∧ Aside0 (wc.heap[gb187]? = some (.cells #[.int .i64 a0_0, .int .i64 a0_1] 95 (0, 0))) ∧ Aside0 (Below w.heap.size w wc))
 case first =>
  have H := HC5.out
  clear HC5
  by_cases c9 : t188 = true
  ·
   subst c9
   have H1 : (wracklaw1_SpanSets.j0 k l1 l2 0 a0_0 a0_1) = some r := by rw [if_pos rfl] at H; exact H
   clear H
   have H := H1
   clear H1
   have H' := Aside0.mk H
   clear H
   go_wp2
   go_meet
   case rel => exact ⟨_, (0), (by first | rfl | (simp; done) | (simp [*]; done)), H', ⟨by first | omega | exact Nat.le_refl _⟩, ⟨by (with_reducible repeat (first | refine qkN ?_ _ | refine qkD ?_ | refine qkA ?_ _)); exact BK187.out⟩, ⟨by repeat (first | (with_reducible first | exact HB.out | apply qbA | apply qbN | apply qbD | refine below_set ?_ GE187.out) | exact HB.out)⟩⟩
  ·
   replace c9 := Bool.eq_false_iff.mpr c9
   subst c9
   have H1 : (wracklaw1_SpanSets.j0 k l1 l2 4 a0_0 a0_1) = some r := by rw [if_neg (show ¬ (false = true) by decide)] at H; exact H
   clear H
   have H := H1
   clear H1
   have H' := Aside0.mk H
   clear H
   go_wp2
   go_meet
   case rel => exact ⟨_, (4), (by first | rfl | (simp; done) | (simp [*]; done)), H', ⟨by first | omega | exact Nat.le_refl _⟩, ⟨by (with_reducible repeat (first | refine qkN ?_ _ | refine qkD ?_ | refine qkA ?_ _)); exact BK187.out⟩, ⟨by repeat (first | (with_reducible first | exact HB.out | apply qbA | apply qbN | apply qbD | refine below_set ?_ GE187.out) | exact HB.out)⟩⟩
 case rest =>
  clear HC5
  try clear c1
  try clear c2
  try clear p2
  try clear c6
  try clear c9
  try clear hcz7_0
  try clear hcz7_1
  try clear hfz7_0
  try clear hfz7_1
  obtain ⟨kq, x7_4, rfl, HA, HJ4, BK187, HB⟩ := hcut
  cases kq with
  | zero => exact absurd HA.out (by simp [wracklaw1_SpanSets.j0])
  | succ kj4 =>
   have H := HA.out
   clear HA
   simp only [wracklaw1_SpanSets.j0] at H
   replace H := Option.bind_eq_some_iff.mp H
   obtain ⟨t189, A100, H⟩ := H
   replace H : ((wrackref1_Marks.f kj4 l2).bind fun t192 => (if 0 ≤ (t189.length : Int) then (if ((t189.length : Int) : Int).toNat ≤ 281474976710656 then (wracklaw1_SpanSets.l0 kj4 l1 l2 x7_4 t189 t192 (List.replicate ((t189.length : Int) : Int).toNat false) (List.replicate ((t189.length : Int) : Int).toNat false) (List.replicate ((t189.length : Int) : Int).toNat false) (t189.length : Int) 0 a0_0 a0_1) else (none)) else (none))) = some r := H
   have A10 := Aside0.mk A100
   clear A100
   replace H := Option.bind_eq_some_iff.mp H
   obtain ⟨t192, A110, H⟩ := H
   replace H : (if 0 ≤ (t189.length : Int) then (if ((t189.length : Int) : Int).toNat ≤ 281474976710656 then (wracklaw1_SpanSets.l0 kj4 l1 l2 x7_4 t189 t192 (List.replicate ((t189.length : Int) : Int).toNat false) (List.replicate ((t189.length : Int) : Int).toNat false) (List.replicate ((t189.length : Int) : Int).toNat false) (t189.length : Int) 0 a0_0 a0_1) else (none)) else (none)) = some r := H
   have A11 := Aside0.mk A110
   clear A110
   by_cases c12 : 0 ≤ (t189.length : Int)
   ·
    rw [if_pos c12] at H
    have c12b0 := eq_true c12
    have c12b1 : decide (0 ≤ (t189.length : Int)) = true := decide_eq_true c12
    clear c12
    by_cases c13 : ((t189.length : Int) : Int).toNat ≤ 281474976710656
    ·
     rw [if_pos c13] at H
     have c13b0 := eq_true c13
     have c13b1 : decide (((t189.length : Int) : Int).toNat ≤ 281474976710656) = true := decide_eq_true c13
     clear c13
     obtain ⟨y195, hy195⟩ : ∃ y_ : List Bool, y_ = (List.replicate ((t189.length : Int) : Int).toNat false) := ⟨_, rfl⟩
     replace H : (wracklaw1_SpanSets.l0 kj4 l1 l2 x7_4 t189 t192 y195 (List.replicate ((t189.length : Int) : Int).toNat false) (List.replicate ((t189.length : Int) : Int).toNat false) (t189.length : Int) 0 a0_0 a0_1) = some r := by first | (rw [hy195]; with_reducible exact H) | (have H2_ := (Option.bind_some _ _).symm.trans H; rw [hy195]; with_reducible exact H2_) | (have H2_ := (Option.bind_some _ _).symm.trans H; with_reducible exact H2_) | with_reducible exact H | (rw [hy195]; exact H) | exact H
     have Ny195 := Aside0.mk hy195
     clear hy195
     obtain ⟨y198, hy198⟩ : ∃ y_ : List Bool, y_ = (List.replicate ((t189.length : Int) : Int).toNat false) := ⟨_, rfl⟩
     replace H : (wracklaw1_SpanSets.l0 kj4 l1 l2 x7_4 t189 t192 y195 y198 (List.replicate ((t189.length : Int) : Int).toNat false) (t189.length : Int) 0 a0_0 a0_1) = some r := by first | (rw [hy198]; with_reducible exact H) | (have H2_ := (Option.bind_some _ _).symm.trans H; rw [hy198]; with_reducible exact H2_) | (have H2_ := (Option.bind_some _ _).symm.trans H; with_reducible exact H2_) | with_reducible exact H | (rw [hy198]; exact H) | exact H
     have Ny198 := Aside0.mk hy198
     clear hy198
     obtain ⟨y201, hy201⟩ : ∃ y_ : List Bool, y_ = (List.replicate ((t189.length : Int) : Int).toNat false) := ⟨_, rfl⟩
     replace H : (wracklaw1_SpanSets.l0 kj4 l1 l2 x7_4 t189 t192 y195 y198 y201 (t189.length : Int) 0 a0_0 a0_1) = some r := by first | (rw [hy201]; with_reducible exact H) | (have H2_ := (Option.bind_some _ _).symm.trans H; rw [hy201]; with_reducible exact H2_) | (have H2_ := (Option.bind_some _ _).symm.trans H; with_reducible exact H2_) | with_reducible exact H | (rw [hy201]; exact H) | exact H
     have Ny201 := Aside0.mk hy201
     clear hy201
     have H' := Aside0.mk H
     clear H
     try go_wp2_with (first | ((with_reducible refine gate_callee (f := 62) rfl ?_); refine goesL_ (some 17) rfl rfl Try.func62 (by kernel_rfl) rfl #[.slice A1 l1.length c1] rfl (by (try simp only [qmT, qmC, qmN]); first | done | rfl | (simp only [List.length_drop, List.length_take]; rfl)) ?_; (with_reducible refine (wrackref1_Marks.calls kj4 _ _ l1 t189 _ ?side1 ?side2 A10.out).mono ?_); (case side1 => repeat (first | exact (qcB HR1.out HB.out) | (with_reducible refine qcA ?_ _) | (with_reducible refine qcN ?_ _) | (with_reducible refine qcD ?_))); (case side2 => exact HC1.out); rintro e w14 ⟨v190, rfl, ho0, hb⟩; refine ⟨_, rfl, ?_⟩; have n0_ := Aside0.mk (Kd.R_lower ho0 (below_size (by repeat (first | (with_reducible first | exact HB.out | apply qbA | apply qbN | apply qbD | refine below_set ?_ GE187.out) | exact HB.out)))); have n1_ := Aside0.mk (qkB (g := gb187) (o := .cells #[.int .i64 a0_0, .int .i64 a0_1] 95 (0, 0)) (by (with_reducible repeat (first | refine qkN ?_ _ | refine qkD ?_ | refine qkA ?_ _)); exact BK187.out) hb); have n2_ := Aside0.mk (qbS (by repeat (first | (with_reducible first | exact HB.out | apply qbA | apply qbN | apply qbD | refine below_set ?_ GE187.out) | exact HB.out)) hb); clear BK187 HB; have HO191 := n0_; have BK187 := n1_; have HB := n2_; clear n0_ n1_ n2_; (try clear hb); (try clear hb2); (try clear hk); (try clear hi); (try clear ho0)) | ((with_reducible refine gate_callee (f := 62) rfl ?_); refine goesL_ (some 19) rfl rfl Try.func62 (by kernel_rfl) rfl #[.slice A2 l2.length c2] rfl (by (try simp only [qmT, qmC, qmN]); first | done | rfl | (simp only [List.length_drop, List.length_take]; rfl)) ?_; (with_reducible refine (wrackref1_Marks.calls kj4 _ _ l2 t192 _ ?side1 ?side2 A11.out).mono ?_); (case side1 => repeat (first | exact (qcB HR2.out HB.out) | (with_reducible refine qcA ?_ _) | (with_reducible refine qcN ?_ _) | (with_reducible refine qcD ?_))); (case side2 => exact HC2.out); rintro e w15 ⟨v193, rfl, ho0, hb⟩; refine ⟨_, rfl, ?_⟩; have n0_ := Aside0.mk (Kd.R_elder' (by (with_reducible repeat (first | apply qrA | apply qrN | apply qrD)); exact HO191.out) (Kd.R_base ho0) hb); have n1_ := Aside0.mk (Kd.R_lower (Kd.R_new' ho0 (Kd.R_lt (by (with_reducible repeat (first | apply qrA | apply qrN | apply qrD)); exact HO191.out))) (below_size (by repeat (first | (with_reducible first | exact HB.out | apply qbA | apply qbN | apply qbD | refine below_set ?_ GE187.out) | exact HB.out)))); have n2_ := Aside0.mk (qkB (g := gb187) (o := .cells #[.int .i64 a0_0, .int .i64 a0_1] 95 (0, 0)) (by (with_reducible repeat (first | refine qkN ?_ _ | refine qkD ?_ | refine qkA ?_ _)); exact BK187.out) hb); have n3_ := Aside0.mk (qbS (by repeat (first | (with_reducible first | exact HB.out | apply qbA | apply qbN | apply qbD | refine below_set ?_ GE187.out) | exact HB.out)) hb); clear HO191 BK187 HB; have HO191 := n0_; have HO194 := n1_; have BK187 := n2_; have HB := n3_; clear n0_ n1_ n2_ n3_; (try clear hb); (try clear hb2); (try clear hk); (try clear hi); (try clear ho0)))
     have n0_ := Aside0.mk (qrD HO191.out)
     have n1_ := Aside0.mk (qrD HO194.out)
     have n2_ := Aside0.mk (qkD BK187.out)
     have n3_ := Aside0.mk (qbD HB.out)
     clear HO191
     clear HO194
     clear BK187
     clear HB
     have HO191 := n0_
     have HO194 := n1_
     have BK187 := n2_
     have HB := n3_
     clear n0_ n1_ n2_ n3_
     obtain ⟨Ao17, co17, eo17⟩ := Kd.R_slice HO191.out
     (first | subst eo17 | (injection eo17 with f1_ f2_ f3_; have f4_ := f1_.symm; have f5_ := f3_.symm; clear f1_ f2_ f3_; subst f4_; subst f5_))
     refine start_ (n := 12) (S := fun w' => True) (ds := []) #[false, false, false, false, false, false, false, false, false, false, false, false] (by kernel_rfl) rfl rfl trivial (fun hHeld => ?_); refine with_tabW wracklaw1_SpanSets.tab5 wracklaw1_SpanSets.bits5 (fun HT_ HW_ => ?_)
     generalize w15.drew = w16 at HO191 HO194 BK187 HB hHeld ⊢
     refine pure_ (i := 0) (N := some 20) (v := ?_) (a' := ?_) #[true, false, false, false, false, false, false, false, false, false, false, false] rfl rfl (any_of HT_.out (by kernel_rfl)) (fun _ _ _ h => h) (Or.inl ⟨by rfl, ?_⟩) ?_ ?_
     rotate_left
     ·
      intro w'
      go_simp
      with_reducible rfl
     rotate_left
     ·
      simp only [Act.put, qsI, qs0, qsS, i64_w, i32_w]
      rfl
     refine pure_ (i := 1) (N := some 21) (v := ?_) (a' := ?_) #[true, true, false, false, false, false, false, false, false, false, false, false] rfl rfl (any_of HT_.out (by kernel_rfl)) (fun _ _ _ h => h) (Or.inl ⟨by rfl, ?_⟩) ?_ ?_
     rotate_left
     ·
      intro w'
      go_simp
      with_reducible rfl
     rotate_left
     ·
      simp only [Act.put, qsI, qs0, qsS, i64_w, i32_w]
      rfl
     refine pure_ (i := 3) (N := some 23) (v := ?_) (a' := ?_) #[true, true, false, true, false, false, false, false, false, false, false, false] rfl rfl (any_of HT_.out (by kernel_rfl)) (fun _ _ _ h => h) (Or.inl ⟨by rfl, ?_⟩) ?_ ?_
     rotate_left
     ·
      intro w'
      go_simp
      with_reducible rfl
     rotate_left
     ·
      simp only [Act.put, qsI, qs0, qsS, i64_w, i32_w]
      rfl
     refine pure_ (i := 4) (N := some 24) (v := ?_) (a' := ?_) #[true, true, false, true, true, false, false, false, false, false, false, false] rfl rfl (any_of HT_.out (by kernel_rfl)) (fun _ _ _ h => h) (Or.inl ⟨by rfl, ?_⟩) ?_ ?_
     rotate_left
     ·
      intro w'
      go_simp
      with_reducible rfl
     rotate_left
     ·
      simp only [Act.put, qsI, qs0, qsS, i64_w, i32_w]
      rfl
     refine pure_ (i := 6) (N := some 26) (v := ?_) (a' := ?_) #[true, true, false, true, true, false, true, false, false, false, false, false] rfl rfl (any_of HT_.out (by kernel_rfl)) (fun _ _ _ h => h) (Or.inl ⟨by rfl, ?_⟩) ?_ ?_
     rotate_left
     ·
      intro w'
      go_simp
      with_reducible rfl
     rotate_left
     ·
      simp only [Act.put, qsI, qs0, qsS, i64_w, i32_w]
      rfl
     refine pure_ (i := 7) (N := some 27) (v := ?_) (a' := ?_) #[true, true, false, true, true, false, true, true, false, false, false, false] rfl rfl (any_of HT_.out (by kernel_rfl)) (fun _ _ _ h => h) (Or.inl ⟨by rfl, ?_⟩) ?_ ?_
     rotate_left
     ·
      intro w'
      go_simp
      with_reducible rfl
     rotate_left
     ·
      simp only [Act.put, qsI, qs0, qsS, i64_w, i32_w]
      rfl
     refine join_ (σ := Value × Value × Value) 1 #[true, true, true, true, true, true, true, true, true, true, true, false] (fun s_ => [(22, s_.1), (25, s_.2.1), (28, s_.2.2), (10, s_.1), (11, s_.2.1)]) (fun s_ w' => (Kd.R Kd.bool 4 w' w.heap.size (fun k_ => some k_ ≠ (v193 : Value).ownBlock ∧ some k_ ≠ (s_.1 : Value).ownBlock ∧ some k_ ≠ (s_.2.1 : Value).ownBlock ∧ some k_ ≠ (s_.2.2 : Value).ownBlock) (.slice Ao17 t189.length co17) t189) ∧ (Kd.R Kd.bool 4 w' w.heap.size (fun k_ => some k_ ≠ (.slice Ao17 t189.length co17 : Value).ownBlock ∧ some k_ ≠ (s_.1 : Value).ownBlock ∧ some k_ ≠ (s_.2.1 : Value).ownBlock ∧ some k_ ≠ (s_.2.2 : Value).ownBlock) v193 t192) ∧ (Kd.R Kd.bool 4 w' w.heap.size (fun k_ => some k_ ≠ (.slice Ao17 t189.length co17 : Value).ownBlock ∧ some k_ ≠ (v193 : Value).ownBlock ∧ some k_ ≠ (s_.2.1 : Value).ownBlock ∧ some k_ ≠ (s_.2.2 : Value).ownBlock) s_.1 y195) ∧ (Kd.R Kd.bool 4 w' w.heap.size (fun k_ => some k_ ≠ (.slice Ao17 t189.length co17 : Value).ownBlock ∧ some k_ ≠ (v193 : Value).ownBlock ∧ some k_ ≠ (s_.1 : Value).ownBlock ∧ some k_ ≠ (s_.2.2 : Value).ownBlock) s_.2.1 y198) ∧ (Kd.R Kd.bool 4 w' w.heap.size (fun k_ => some k_ ≠ (.slice Ao17 t189.length co17 : Value).ownBlock ∧ some k_ ≠ (v193 : Value).ownBlock ∧ some k_ ≠ (s_.1 : Value).ownBlock ∧ some k_ ≠ (s_.2.1 : Value).ownBlock) s_.2.2 y201) ∧ (w'.heap[gb187]? = some (.cells #[.int .i64 a0_0, .int .i64 a0_1] 95 (0, 0))) ∧ (Below w.heap.size w w')) ?_ ?_
     rotate_left
     ·
      intro hJ2_5_8
      refine join_ (σ := Value × Value) 2 #[true, true, true, true, true, true, true, true, false, true, true, false] (fun s_ => [(22, s_.1), (25, s_.2), (10, s_.1), (11, s_.2)]) (fun s_ w' => (Kd.R Kd.bool 4 w' w.heap.size (fun k_ => some k_ ≠ (v193 : Value).ownBlock ∧ some k_ ≠ (s_.1 : Value).ownBlock ∧ some k_ ≠ (s_.2 : Value).ownBlock) (.slice Ao17 t189.length co17) t189) ∧ (Kd.R Kd.bool 4 w' w.heap.size (fun k_ => some k_ ≠ (.slice Ao17 t189.length co17 : Value).ownBlock ∧ some k_ ≠ (s_.1 : Value).ownBlock ∧ some k_ ≠ (s_.2 : Value).ownBlock) v193 t192) ∧ (Kd.R Kd.bool 4 w' w.heap.size (fun k_ => some k_ ≠ (.slice Ao17 t189.length co17 : Value).ownBlock ∧ some k_ ≠ (v193 : Value).ownBlock ∧ some k_ ≠ (s_.2 : Value).ownBlock) s_.1 y195) ∧ (Kd.R Kd.bool 4 w' w.heap.size (fun k_ => some k_ ≠ (.slice Ao17 t189.length co17 : Value).ownBlock ∧ some k_ ≠ (v193 : Value).ownBlock ∧ some k_ ≠ (s_.1 : Value).ownBlock) s_.2 y198) ∧ (w'.heap[gb187]? = some (.cells #[.int .i64 a0_0, .int .i64 a0_1] 95 (0, 0))) ∧ (Below w.heap.size w w')) ?_ ?_
      rotate_left
      ·
       intro hJ2_5
       refine join_ (σ := Value × Value) 3 #[true, true, true, true, true, false, true, true, true, true, false, false] (fun s_ => [(22, s_.1), (28, s_.2), (10, s_.1)]) (fun s_ w' => (Kd.R Kd.bool 4 w' w.heap.size (fun k_ => some k_ ≠ (v193 : Value).ownBlock ∧ some k_ ≠ (s_.1 : Value).ownBlock ∧ some k_ ≠ (s_.2 : Value).ownBlock) (.slice Ao17 t189.length co17) t189) ∧ (Kd.R Kd.bool 4 w' w.heap.size (fun k_ => some k_ ≠ (.slice Ao17 t189.length co17 : Value).ownBlock ∧ some k_ ≠ (s_.1 : Value).ownBlock ∧ some k_ ≠ (s_.2 : Value).ownBlock) v193 t192) ∧ (Kd.R Kd.bool 4 w' w.heap.size (fun k_ => some k_ ≠ (.slice Ao17 t189.length co17 : Value).ownBlock ∧ some k_ ≠ (v193 : Value).ownBlock ∧ some k_ ≠ (s_.2 : Value).ownBlock) s_.1 y195) ∧ (Kd.R Kd.bool 4 w' w.heap.size (fun k_ => some k_ ≠ (.slice Ao17 t189.length co17 : Value).ownBlock ∧ some k_ ≠ (v193 : Value).ownBlock ∧ some k_ ≠ (s_.1 : Value).ownBlock) s_.2 y201) ∧ (w'.heap[gb187]? = some (.cells #[.int .i64 a0_0, .int .i64 a0_1] 95 (0, 0))) ∧ (Below w.heap.size w w')) ?_ ?_
       rotate_left
       ·
        intro hJ2_8
        refine join_ (σ := Value × Value) 4 #[true, true, false, true, true, true, true, true, true, false, false, false] (fun s_ => [(25, s_.1), (28, s_.2)]) (fun s_ w' => (Kd.R Kd.bool 4 w' w.heap.size (fun k_ => some k_ ≠ (v193 : Value).ownBlock ∧ some k_ ≠ (s_.1 : Value).ownBlock ∧ some k_ ≠ (s_.2 : Value).ownBlock) (.slice Ao17 t189.length co17) t189) ∧ (Kd.R Kd.bool 4 w' w.heap.size (fun k_ => some k_ ≠ (.slice Ao17 t189.length co17 : Value).ownBlock ∧ some k_ ≠ (s_.1 : Value).ownBlock ∧ some k_ ≠ (s_.2 : Value).ownBlock) v193 t192) ∧ (Kd.R Kd.bool 4 w' w.heap.size (fun k_ => some k_ ≠ (.slice Ao17 t189.length co17 : Value).ownBlock ∧ some k_ ≠ (v193 : Value).ownBlock ∧ some k_ ≠ (s_.2 : Value).ownBlock) s_.1 y198) ∧ (Kd.R Kd.bool 4 w' w.heap.size (fun k_ => some k_ ≠ (.slice Ao17 t189.length co17 : Value).ownBlock ∧ some k_ ≠ (v193 : Value).ownBlock ∧ some k_ ≠ (s_.1 : Value).ownBlock) s_.2 y201) ∧ (w'.heap[gb187]? = some (.cells #[.int .i64 a0_0, .int .i64 a0_1] 95 (0, 0))) ∧ (Below w.heap.size w w')) ?_ ?_
        rotate_left
        ·
         intro hJ5_8
         refine join_ (σ := Value) 4 #[true, true, true, true, true, false, true, true, false, true, false, false] (fun s_ => [(22, s_), (10, s_)]) (fun s_ w' => (Kd.R Kd.bool 4 w' w.heap.size (fun k_ => some k_ ≠ (v193 : Value).ownBlock ∧ some k_ ≠ (s_ : Value).ownBlock) (.slice Ao17 t189.length co17) t189) ∧ (Kd.R Kd.bool 4 w' w.heap.size (fun k_ => some k_ ≠ (.slice Ao17 t189.length co17 : Value).ownBlock ∧ some k_ ≠ (s_ : Value).ownBlock) v193 t192) ∧ (Kd.R Kd.bool 4 w' w.heap.size (fun k_ => some k_ ≠ (.slice Ao17 t189.length co17 : Value).ownBlock ∧ some k_ ≠ (v193 : Value).ownBlock) s_ y195) ∧ (w'.heap[gb187]? = some (.cells #[.int .i64 a0_0, .int .i64 a0_1] 95 (0, 0))) ∧ (Below w.heap.size w w')) ?_ ?_
         rotate_left
         ·
          intro hJ2
          refine join_ (σ := Value) 5 #[true, true, false, true, true, true, true, true, false, false, false, false] (fun s_ => [(25, s_)]) (fun s_ w' => (Kd.R Kd.bool 4 w' w.heap.size (fun k_ => some k_ ≠ (v193 : Value).ownBlock ∧ some k_ ≠ (s_ : Value).ownBlock) (.slice Ao17 t189.length co17) t189) ∧ (Kd.R Kd.bool 4 w' w.heap.size (fun k_ => some k_ ≠ (.slice Ao17 t189.length co17 : Value).ownBlock ∧ some k_ ≠ (s_ : Value).ownBlock) v193 t192) ∧ (Kd.R Kd.bool 4 w' w.heap.size (fun k_ => some k_ ≠ (.slice Ao17 t189.length co17 : Value).ownBlock ∧ some k_ ≠ (v193 : Value).ownBlock) s_ y198) ∧ (w'.heap[gb187]? = some (.cells #[.int .i64 a0_0, .int .i64 a0_1] 95 (0, 0))) ∧ (Below w.heap.size w w')) ?_ ?_
          rotate_left
          ·
           intro hJ5
           refine join_ (σ := Value) 5 #[true, true, false, true, true, false, true, true, true, false, false, false] (fun s_ => [(28, s_)]) (fun s_ w' => (Kd.R Kd.bool 4 w' w.heap.size (fun k_ => some k_ ≠ (v193 : Value).ownBlock ∧ some k_ ≠ (s_ : Value).ownBlock) (.slice Ao17 t189.length co17) t189) ∧ (Kd.R Kd.bool 4 w' w.heap.size (fun k_ => some k_ ≠ (.slice Ao17 t189.length co17 : Value).ownBlock ∧ some k_ ≠ (s_ : Value).ownBlock) v193 t192) ∧ (Kd.R Kd.bool 4 w' w.heap.size (fun k_ => some k_ ≠ (.slice Ao17 t189.length co17 : Value).ownBlock ∧ some k_ ≠ (v193 : Value).ownBlock) s_ y201) ∧ (w'.heap[gb187]? = some (.cells #[.int .i64 a0_0, .int .i64 a0_1] 95 (0, 0))) ∧ (Below w.heap.size w w')) ?_ ?_
           rotate_left
           ·
            intro hJ8
            refine three_ (i := 2) (j := 5) (k := 8) (Ni := some 22) (Nj := some 25) (Nk := some 28) #[true, true, true, true, true, false, true, true, false, false, false, false] #[true, true, false, true, true, true, true, true, false, false, false, false] #[true, true, false, true, true, false, true, true, true, false, false, false] rfl rfl rfl rfl rfl rfl (three_of HT_.out (by kernel_rfl)) (by decide) (by decide) (by decide) (fun K hK => ?_) (fun K hK => ?_) (fun K hK => ?_)
            ·
             skip
             refine Kd.R_make_step Kd.bool _ 4 (by rfl) (N := 22) rfl 98 _ _ rfl (t189.length : Int) rfl rfl Try.underlying98 (.bool false) 1 info4 rfl (by decide) (by omega) false (ok := fun _ => True) (okp := fun _ => True) rfl (fun _ hk => hk) trivial (of_decide_eq_true (by first | (with_reducible assumption) | assumption)) (Nat.le_trans (Nat.mul_le_mul_right _ (of_decide_eq_true (by first | (with_reducible assumption) | assumption) : (t189.length : Int).toNat ≤ 281474976710656)) (by omega)) (Below.refl _ _) (Nat.le_refl _) ?_
             intro v196 w18 ho19 hb hg_ hnew_
             clear hg_ hnew_
             (first | rw [← Ny195.out] at ho19 | (simp only [Int.reduceToNat] at ho19; rw [← Ny195.out] at ho19))
             have n0_ := Aside0.mk (Kd.R_elder' (by (with_reducible repeat (first | apply qrA | apply qrN | apply qrD)); exact HO191.out) (Kd.R_base ho19) hb)
             have n1_ := Aside0.mk (Kd.R_elder' (by (with_reducible repeat (first | apply qrA | apply qrN | apply qrD)); exact HO194.out) (Kd.R_base ho19) hb)
             have n2_ := Aside0.mk (Kd.R_lower (Kd.R_new' (Kd.R_new' ho19 (Kd.R_lt (by (with_reducible repeat (first | apply qrA | apply qrN | apply qrD)); exact HO191.out))) (Kd.R_lt (by (with_reducible repeat (first | apply qrA | apply qrN | apply qrD)); exact HO194.out))) (below_size (by repeat (first | (with_reducible first | exact HB.out | apply qbA | apply qbN | apply qbD | refine below_set ?_ GE187.out) | exact HB.out))))
             have n3_ := Aside0.mk (qkB (g := gb187) (o := .cells #[.int .i64 a0_0, .int .i64 a0_1] 95 (0, 0)) (by (with_reducible repeat (first | refine qkN ?_ _ | refine qkD ?_ | refine qkA ?_ _)); exact BK187.out) hb)
             have n4_ := Aside0.mk (qbS (by repeat (first | (with_reducible first | exact HB.out | apply qbA | apply qbN | apply qbD | refine below_set ?_ GE187.out) | exact HB.out)) hb)
             clear HO191
             clear HO194
             clear BK187
             clear HB
             have HO191 := n0_
             have HO194 := n1_
             have HO197 := n2_
             have BK187 := n3_
             have HB := n4_
             clear n0_ n1_ n2_ n3_ n4_
             clear hb ho19
             refine hK.out _ _ trivial (fun hHeld => ?_)
             clear hK K
             refine norm_ (a' := ?_) ?_ ?_
             rotate_left
             ·
              show Act.put _ (some 22) _ = _
              simp only [Act.put, qsI, qs0, qsS, i64_w, i32_w]
              rfl
             refine pure_ (i := 9) (N := some 10) (v := ?_) (a' := ?_) #[true, true, true, true, true, false, true, true, false, true, false, false] rfl rfl (any_of HT_.out (by kernel_rfl)) (fun _ _ _ h => h) (Or.inl ⟨by rfl, ?_⟩) ?_ ?_
             rotate_left
             ·
              intro w'
              go_simp
              with_reducible rfl
             rotate_left
             ·
              simp only [Act.put, qsI, qs0, qsS, i64_w, i32_w]
              rfl
             exact norm_ (by first | (simp only [putAll, Act.put, qsI, qs0, qsS]; done) | (simp only [putAll, Act.put, qsI, qs0, qsS]; rfl)) (hJ2 (v196) _ ⟨(by (with_reducible repeat (first | apply qrA | apply qrN | apply qrD)); exact Kd.R_mono HO191.out (fun _ hk => ⟨hk.1.2, hk.2⟩)), (by (with_reducible repeat (first | apply qrA | apply qrN | apply qrD)); exact Kd.R_mono HO194.out (fun _ hk => ⟨hk.1.2, hk.2⟩)), (by (with_reducible repeat (first | apply qrA | apply qrN | apply qrD)); exact Kd.R_mono HO197.out (fun _ hk => ⟨hk.1.2, hk.2⟩)), (by (with_reducible repeat (first | refine qkN ?_ _ | refine qkD ?_ | refine qkA ?_ _)); exact BK187.out), (by repeat (first | (with_reducible first | exact HB.out | apply qbA | apply qbN | apply qbD | refine below_set ?_ GE187.out) | exact HB.out))⟩)
            ·
             skip
             refine Kd.R_make_step Kd.bool _ 4 (by rfl) (N := 25) rfl 98 _ _ rfl (t189.length : Int) rfl rfl Try.underlying98 (.bool false) 1 info4 rfl (by decide) (by omega) false (ok := fun _ => True) (okp := fun _ => True) rfl (fun _ hk => hk) trivial (of_decide_eq_true (by first | (with_reducible assumption) | assumption)) (Nat.le_trans (Nat.mul_le_mul_right _ (of_decide_eq_true (by first | (with_reducible assumption) | assumption) : (t189.length : Int).toNat ≤ 281474976710656)) (by omega)) (Below.refl _ _) (Nat.le_refl _) ?_
             intro v199 w18 ho19 hb hg_ hnew_
             clear hg_ hnew_
             (first | rw [← Ny198.out] at ho19 | (simp only [Int.reduceToNat] at ho19; rw [← Ny198.out] at ho19))
             have n0_ := Aside0.mk (Kd.R_elder' (by (with_reducible repeat (first | apply qrA | apply qrN | apply qrD)); exact HO191.out) (Kd.R_base ho19) hb)
             have n1_ := Aside0.mk (Kd.R_elder' (by (with_reducible repeat (first | apply qrA | apply qrN | apply qrD)); exact HO194.out) (Kd.R_base ho19) hb)
             have n2_ := Aside0.mk (Kd.R_lower (Kd.R_new' (Kd.R_new' ho19 (Kd.R_lt (by (with_reducible repeat (first | apply qrA | apply qrN | apply qrD)); exact HO191.out))) (Kd.R_lt (by (with_reducible repeat (first | apply qrA | apply qrN | apply qrD)); exact HO194.out))) (below_size (by repeat (first | (with_reducible first | exact HB.out | apply qbA | apply qbN | apply qbD | refine below_set ?_ GE187.out) | exact HB.out))))
             have n3_ := Aside0.mk (qkB (g := gb187) (o := .cells #[.int .i64 a0_0, .int .i64 a0_1] 95 (0, 0)) (by (with_reducible repeat (first | refine qkN ?_ _ | refine qkD ?_ | refine qkA ?_ _)); exact BK187.out) hb)
             have n4_ := Aside0.mk (qbS (by repeat (first | (with_reducible first | exact HB.out | apply qbA | apply qbN | apply qbD | refine below_set ?_ GE187.out) | exact HB.out)) hb)
             clear HO191
             clear HO194
             clear BK187
             clear HB
             have HO191 := n0_
             have HO194 := n1_
             have HO200 := n2_
             have BK187 := n3_
             have HB := n4_
             clear n0_ n1_ n2_ n3_ n4_
             clear hb ho19
             refine hK.out _ _ trivial (fun hHeld => ?_)
             clear hK K
             refine norm_ (a' := ?_) ?_ ?_
             rotate_left
             ·
              show Act.put _ (some 25) _ = _
              simp only [Act.put, qsI, qs0, qsS, i64_w, i32_w]
              rfl
             exact norm_ (by first | (simp only [putAll, Act.put, qsI, qs0, qsS]; done) | (simp only [putAll, Act.put, qsI, qs0, qsS]; rfl)) (hJ5 (v199) _ ⟨(by (with_reducible repeat (first | apply qrA | apply qrN | apply qrD)); exact Kd.R_mono HO191.out (fun _ hk => ⟨hk.1.2, hk.2⟩)), (by (with_reducible repeat (first | apply qrA | apply qrN | apply qrD)); exact Kd.R_mono HO194.out (fun _ hk => ⟨hk.1.2, hk.2⟩)), (by (with_reducible repeat (first | apply qrA | apply qrN | apply qrD)); exact Kd.R_mono HO200.out (fun _ hk => ⟨hk.1.2, hk.2⟩)), (by (with_reducible repeat (first | refine qkN ?_ _ | refine qkD ?_ | refine qkA ?_ _)); exact BK187.out), (by repeat (first | (with_reducible first | exact HB.out | apply qbA | apply qbN | apply qbD | refine below_set ?_ GE187.out) | exact HB.out))⟩)
            ·
             skip
             refine Kd.R_make_step Kd.bool _ 4 (by rfl) (N := 28) rfl 98 _ _ rfl (t189.length : Int) rfl rfl Try.underlying98 (.bool false) 1 info4 rfl (by decide) (by omega) false (ok := fun _ => True) (okp := fun _ => True) rfl (fun _ hk => hk) trivial (of_decide_eq_true (by first | (with_reducible assumption) | assumption)) (Nat.le_trans (Nat.mul_le_mul_right _ (of_decide_eq_true (by first | (with_reducible assumption) | assumption) : (t189.length : Int).toNat ≤ 281474976710656)) (by omega)) (Below.refl _ _) (Nat.le_refl _) ?_
             intro v202 w18 ho19 hb hg_ hnew_
             clear hg_ hnew_
             (first | rw [← Ny201.out] at ho19 | (simp only [Int.reduceToNat] at ho19; rw [← Ny201.out] at ho19))
             have n0_ := Aside0.mk (Kd.R_elder' (by (with_reducible repeat (first | apply qrA | apply qrN | apply qrD)); exact HO191.out) (Kd.R_base ho19) hb)
             have n1_ := Aside0.mk (Kd.R_elder' (by (with_reducible repeat (first | apply qrA | apply qrN | apply qrD)); exact HO194.out) (Kd.R_base ho19) hb)
             have n2_ := Aside0.mk (Kd.R_lower (Kd.R_new' (Kd.R_new' ho19 (Kd.R_lt (by (with_reducible repeat (first | apply qrA | apply qrN | apply qrD)); exact HO191.out))) (Kd.R_lt (by (with_reducible repeat (first | apply qrA | apply qrN | apply qrD)); exact HO194.out))) (below_size (by repeat (first | (with_reducible first | exact HB.out | apply qbA | apply qbN | apply qbD | refine below_set ?_ GE187.out) | exact HB.out))))
             have n3_ := Aside0.mk (qkB (g := gb187) (o := .cells #[.int .i64 a0_0, .int .i64 a0_1] 95 (0, 0)) (by (with_reducible repeat (first | refine qkN ?_ _ | refine qkD ?_ | refine qkA ?_ _)); exact BK187.out) hb)
             have n4_ := Aside0.mk (qbS (by repeat (first | (with_reducible first | exact HB.out | apply qbA | apply qbN | apply qbD | refine below_set ?_ GE187.out) | exact HB.out)) hb)
             clear HO191
             clear HO194
             clear BK187
             clear HB
             have HO191 := n0_
             have HO194 := n1_
             have HO203 := n2_
             have BK187 := n3_
             have HB := n4_
             clear n0_ n1_ n2_ n3_ n4_
             clear hb ho19
             refine hK.out _ _ trivial (fun hHeld => ?_)
             clear hK K
             refine norm_ (a' := ?_) ?_ ?_
             rotate_left
             ·
              show Act.put _ (some 28) _ = _
              simp only [Act.put, qsI, qs0, qsS, i64_w, i32_w]
              rfl
             exact norm_ (by first | (simp only [putAll, Act.put, qsI, qs0, qsS]; done) | (simp only [putAll, Act.put, qsI, qs0, qsS]; rfl)) (hJ8 (v202) _ ⟨(by (with_reducible repeat (first | apply qrA | apply qrN | apply qrD)); exact Kd.R_mono HO191.out (fun _ hk => ⟨hk.1.2, hk.2⟩)), (by (with_reducible repeat (first | apply qrA | apply qrN | apply qrD)); exact Kd.R_mono HO194.out (fun _ hk => ⟨hk.1.2, hk.2⟩)), (by (with_reducible repeat (first | apply qrA | apply qrN | apply qrD)); exact Kd.R_mono HO203.out (fun _ hk => ⟨hk.1.2, hk.2⟩)), (by (with_reducible repeat (first | refine qkN ?_ _ | refine qkD ?_ | refine qkA ?_ _)); exact BK187.out), (by repeat (first | (with_reducible first | exact HB.out | apply qbA | apply qbN | apply qbD | refine below_set ?_ GE187.out) | exact HB.out))⟩)
           ·
            skip
            rintro v202 w20 ⟨h0_, h1_, h2_, h3_, h4_⟩
            have n0_ : Aside0 (Kd.R Kd.bool 4 w20 w.heap.size (fun k_ => some k_ ≠ (v193 : Value).ownBlock ∧ some k_ ≠ (v202 : Value).ownBlock) (.slice Ao17 t189.length co17) t189) := ⟨h0_⟩
            have n1_ : Aside0 (Kd.R Kd.bool 4 w20 w.heap.size (fun k_ => some k_ ≠ (.slice Ao17 t189.length co17 : Value).ownBlock ∧ some k_ ≠ (v202 : Value).ownBlock) v193 t192) := ⟨h1_⟩
            have n2_ : Aside0 (Kd.R Kd.bool 4 w20 w.heap.size (fun k_ => some k_ ≠ (.slice Ao17 t189.length co17 : Value).ownBlock ∧ some k_ ≠ (v193 : Value).ownBlock) v202 y201) := ⟨h2_⟩
            have n3_ : Aside0 (w20.heap[gb187]? = some (.cells #[.int .i64 a0_0, .int .i64 a0_1] 95 (0, 0))) := ⟨h3_⟩
            have n4_ : Aside0 (Below w.heap.size w w20) := ⟨h4_⟩
            clear HO191
            clear HO194
            clear BK187
            clear HB
            clear h0_ h1_ h2_ h3_ h4_
            have HO191 := n0_
            have HO194 := n1_
            have HO203 := n2_
            have BK187 := n3_
            have HB := n4_
            clear n0_ n1_ n2_ n3_ n4_
            have hHeld := trivial
            refine norm_ (a' := ?_) ?_ ?_
            rotate_left
            ·
             simp only [putAll, Act.put, qsI, qs0, qsS]
             rfl
            refine two_ (i := 2) (j := 5) (Ni := some 22) (Nj := some 25) #[true, true, true, true, true, false, true, true, true, false, false, false] #[true, true, false, true, true, true, true, true, true, false, false, false] rfl rfl rfl rfl (two_of HT_.out (by kernel_rfl)) (by decide) (by decide) (fun K hK => ?_) (fun K hK => ?_)
            ·
             skip
             refine Kd.R_make_step Kd.bool _ 4 (by rfl) (N := 22) rfl 98 _ _ rfl (t189.length : Int) rfl rfl Try.underlying98 (.bool false) 1 info4 rfl (by decide) (by omega) false (ok := fun _ => True) (okp := fun _ => True) rfl (fun _ hk => hk) trivial (of_decide_eq_true (by first | (with_reducible assumption) | assumption)) (Nat.le_trans (Nat.mul_le_mul_right _ (of_decide_eq_true (by first | (with_reducible assumption) | assumption) : (t189.length : Int).toNat ≤ 281474976710656)) (by omega)) (Below.refl _ _) (Nat.le_refl _) ?_
             intro v196 w21 ho22 hb hg_ hnew_
             clear hg_ hnew_
             (first | rw [← Ny195.out] at ho22 | (simp only [Int.reduceToNat] at ho22; rw [← Ny195.out] at ho22))
             have n0_ := Aside0.mk (Kd.R_elder' (by (with_reducible repeat (first | apply qrA | apply qrN | apply qrD)); exact HO191.out) (Kd.R_base ho22) hb)
             have n1_ := Aside0.mk (Kd.R_elder' (by (with_reducible repeat (first | apply qrA | apply qrN | apply qrD)); exact HO194.out) (Kd.R_base ho22) hb)
             have n2_ := Aside0.mk (Kd.R_elder' (by (with_reducible repeat (first | apply qrA | apply qrN | apply qrD)); exact HO203.out) (Kd.R_base ho22) hb)
             have n3_ := Aside0.mk (Kd.R_lower (Kd.R_new' (Kd.R_new' (Kd.R_new' ho22 (Kd.R_lt (by (with_reducible repeat (first | apply qrA | apply qrN | apply qrD)); exact HO191.out))) (Kd.R_lt (by (with_reducible repeat (first | apply qrA | apply qrN | apply qrD)); exact HO194.out))) (Kd.R_lt (by (with_reducible repeat (first | apply qrA | apply qrN | apply qrD)); exact HO203.out))) (below_size (by repeat (first | (with_reducible first | exact HB.out | apply qbA | apply qbN | apply qbD | refine below_set ?_ GE187.out) | exact HB.out))))
             have n4_ := Aside0.mk (qkB (g := gb187) (o := .cells #[.int .i64 a0_0, .int .i64 a0_1] 95 (0, 0)) (by (with_reducible repeat (first | refine qkN ?_ _ | refine qkD ?_ | refine qkA ?_ _)); exact BK187.out) hb)
             have n5_ := Aside0.mk (qbS (by repeat (first | (with_reducible first | exact HB.out | apply qbA | apply qbN | apply qbD | refine below_set ?_ GE187.out) | exact HB.out)) hb)
             clear HO191
             clear HO194
             clear HO203
             clear BK187
             clear HB
             have HO191 := n0_
             have HO194 := n1_
             have HO203 := n2_
             have HO197 := n3_
             have BK187 := n4_
             have HB := n5_
             clear n0_ n1_ n2_ n3_ n4_ n5_
             clear hb ho22
             refine hK.out _ _ trivial (fun hHeld => ?_)
             clear hK K
             refine norm_ (a' := ?_) ?_ ?_
             rotate_left
             ·
              show Act.put _ (some 22) _ = _
              simp only [Act.put, qsI, qs0, qsS, i64_w, i32_w]
              rfl
             refine pure_ (i := 9) (N := some 10) (v := ?_) (a' := ?_) #[true, true, true, true, true, false, true, true, true, true, false, false] rfl rfl (any_of HT_.out (by kernel_rfl)) (fun _ _ _ h => h) (Or.inl ⟨by rfl, ?_⟩) ?_ ?_
             rotate_left
             ·
              intro w'
              go_simp
              with_reducible rfl
             rotate_left
             ·
              simp only [Act.put, qsI, qs0, qsS, i64_w, i32_w]
              rfl
             exact norm_ (by first | (simp only [putAll, Act.put, qsI, qs0, qsS]; done) | (simp only [putAll, Act.put, qsI, qs0, qsS]; rfl)) (hJ2_8 (v196, v202) _ ⟨(by (with_reducible repeat (first | apply qrA | apply qrN | apply qrD)); exact Kd.R_mono HO191.out (fun _ hk => ⟨hk.1.1, ⟨hk.2, hk.1.2⟩⟩)), (by (with_reducible repeat (first | apply qrA | apply qrN | apply qrD)); exact Kd.R_mono HO194.out (fun _ hk => ⟨hk.1.1, ⟨hk.2, hk.1.2⟩⟩)), (by (with_reducible repeat (first | apply qrA | apply qrN | apply qrD)); exact Kd.R_mono HO197.out (fun _ hk => ⟨hk.1.1.2, ⟨hk.1.2, hk.2⟩⟩)), (by (with_reducible repeat (first | apply qrA | apply qrN | apply qrD)); exact Kd.R_mono HO203.out (fun _ hk => ⟨hk.1.1, ⟨hk.1.2, hk.2⟩⟩)), (by (with_reducible repeat (first | refine qkN ?_ _ | refine qkD ?_ | refine qkA ?_ _)); exact BK187.out), (by repeat (first | (with_reducible first | exact HB.out | apply qbA | apply qbN | apply qbD | refine below_set ?_ GE187.out) | exact HB.out))⟩)
            ·
             skip
             refine Kd.R_make_step Kd.bool _ 4 (by rfl) (N := 25) rfl 98 _ _ rfl (t189.length : Int) rfl rfl Try.underlying98 (.bool false) 1 info4 rfl (by decide) (by omega) false (ok := fun _ => True) (okp := fun _ => True) rfl (fun _ hk => hk) trivial (of_decide_eq_true (by first | (with_reducible assumption) | assumption)) (Nat.le_trans (Nat.mul_le_mul_right _ (of_decide_eq_true (by first | (with_reducible assumption) | assumption) : (t189.length : Int).toNat ≤ 281474976710656)) (by omega)) (Below.refl _ _) (Nat.le_refl _) ?_
             intro v199 w21 ho22 hb hg_ hnew_
             clear hg_ hnew_
             (first | rw [← Ny198.out] at ho22 | (simp only [Int.reduceToNat] at ho22; rw [← Ny198.out] at ho22))
             have n0_ := Aside0.mk (Kd.R_elder' (by (with_reducible repeat (first | apply qrA | apply qrN | apply qrD)); exact HO191.out) (Kd.R_base ho22) hb)
             have n1_ := Aside0.mk (Kd.R_elder' (by (with_reducible repeat (first | apply qrA | apply qrN | apply qrD)); exact HO194.out) (Kd.R_base ho22) hb)
             have n2_ := Aside0.mk (Kd.R_elder' (by (with_reducible repeat (first | apply qrA | apply qrN | apply qrD)); exact HO203.out) (Kd.R_base ho22) hb)
             have n3_ := Aside0.mk (Kd.R_lower (Kd.R_new' (Kd.R_new' (Kd.R_new' ho22 (Kd.R_lt (by (with_reducible repeat (first | apply qrA | apply qrN | apply qrD)); exact HO191.out))) (Kd.R_lt (by (with_reducible repeat (first | apply qrA | apply qrN | apply qrD)); exact HO194.out))) (Kd.R_lt (by (with_reducible repeat (first | apply qrA | apply qrN | apply qrD)); exact HO203.out))) (below_size (by repeat (first | (with_reducible first | exact HB.out | apply qbA | apply qbN | apply qbD | refine below_set ?_ GE187.out) | exact HB.out))))
             have n4_ := Aside0.mk (qkB (g := gb187) (o := .cells #[.int .i64 a0_0, .int .i64 a0_1] 95 (0, 0)) (by (with_reducible repeat (first | refine qkN ?_ _ | refine qkD ?_ | refine qkA ?_ _)); exact BK187.out) hb)
             have n5_ := Aside0.mk (qbS (by repeat (first | (with_reducible first | exact HB.out | apply qbA | apply qbN | apply qbD | refine below_set ?_ GE187.out) | exact HB.out)) hb)
             clear HO191
             clear HO194
             clear HO203
             clear BK187
             clear HB
             have HO191 := n0_
             have HO194 := n1_
             have HO203 := n2_
             have HO200 := n3_
             have BK187 := n4_
             have HB := n5_
             clear n0_ n1_ n2_ n3_ n4_ n5_
             clear hb ho22
             refine hK.out _ _ trivial (fun hHeld => ?_)
             clear hK K
             refine norm_ (a' := ?_) ?_ ?_
             rotate_left
             ·
              show Act.put _ (some 25) _ = _
              simp only [Act.put, qsI, qs0, qsS, i64_w, i32_w]
              rfl
             exact norm_ (by first | (simp only [putAll, Act.put, qsI, qs0, qsS]; done) | (simp only [putAll, Act.put, qsI, qs0, qsS]; rfl)) (hJ5_8 (v199, v202) _ ⟨(by (with_reducible repeat (first | apply qrA | apply qrN | apply qrD)); exact Kd.R_mono HO191.out (fun _ hk => ⟨hk.1.1, ⟨hk.2, hk.1.2⟩⟩)), (by (with_reducible repeat (first | apply qrA | apply qrN | apply qrD)); exact Kd.R_mono HO194.out (fun _ hk => ⟨hk.1.1, ⟨hk.2, hk.1.2⟩⟩)), (by (with_reducible repeat (first | apply qrA | apply qrN | apply qrD)); exact Kd.R_mono HO200.out (fun _ hk => ⟨hk.1.1.2, ⟨hk.1.2, hk.2⟩⟩)), (by (with_reducible repeat (first | apply qrA | apply qrN | apply qrD)); exact Kd.R_mono HO203.out (fun _ hk => ⟨hk.1.1, ⟨hk.1.2, hk.2⟩⟩)), (by (with_reducible repeat (first | refine qkN ?_ _ | refine qkD ?_ | refine qkA ?_ _)); exact BK187.out), (by repeat (first | (with_reducible first | exact HB.out | apply qbA | apply qbN | apply qbD | refine below_set ?_ GE187.out) | exact HB.out))⟩)
          ·
           skip
           rintro v199 w20 ⟨h0_, h1_, h2_, h3_, h4_⟩
           have n0_ : Aside0 (Kd.R Kd.bool 4 w20 w.heap.size (fun k_ => some k_ ≠ (v193 : Value).ownBlock ∧ some k_ ≠ (v199 : Value).ownBlock) (.slice Ao17 t189.length co17) t189) := ⟨h0_⟩
           have n1_ : Aside0 (Kd.R Kd.bool 4 w20 w.heap.size (fun k_ => some k_ ≠ (.slice Ao17 t189.length co17 : Value).ownBlock ∧ some k_ ≠ (v199 : Value).ownBlock) v193 t192) := ⟨h1_⟩
           have n2_ : Aside0 (Kd.R Kd.bool 4 w20 w.heap.size (fun k_ => some k_ ≠ (.slice Ao17 t189.length co17 : Value).ownBlock ∧ some k_ ≠ (v193 : Value).ownBlock) v199 y198) := ⟨h2_⟩
           have n3_ : Aside0 (w20.heap[gb187]? = some (.cells #[.int .i64 a0_0, .int .i64 a0_1] 95 (0, 0))) := ⟨h3_⟩
           have n4_ : Aside0 (Below w.heap.size w w20) := ⟨h4_⟩
           clear HO191
           clear HO194
           clear BK187
           clear HB
           clear h0_ h1_ h2_ h3_ h4_
           have HO191 := n0_
           have HO194 := n1_
           have HO200 := n2_
           have BK187 := n3_
           have HB := n4_
           clear n0_ n1_ n2_ n3_ n4_
           have hHeld := trivial
           refine norm_ (a' := ?_) ?_ ?_
           rotate_left
           ·
            simp only [putAll, Act.put, qsI, qs0, qsS]
            rfl
           refine two_ (i := 2) (j := 8) (Ni := some 22) (Nj := some 28) #[true, true, true, true, true, true, true, true, false, false, false, false] #[true, true, false, true, true, true, true, true, true, false, false, false] rfl rfl rfl rfl (two_of HT_.out (by kernel_rfl)) (by decide) (by decide) (fun K hK => ?_) (fun K hK => ?_)
           ·
            skip
            refine Kd.R_make_step Kd.bool _ 4 (by rfl) (N := 22) rfl 98 _ _ rfl (t189.length : Int) rfl rfl Try.underlying98 (.bool false) 1 info4 rfl (by decide) (by omega) false (ok := fun _ => True) (okp := fun _ => True) rfl (fun _ hk => hk) trivial (of_decide_eq_true (by first | (with_reducible assumption) | assumption)) (Nat.le_trans (Nat.mul_le_mul_right _ (of_decide_eq_true (by first | (with_reducible assumption) | assumption) : (t189.length : Int).toNat ≤ 281474976710656)) (by omega)) (Below.refl _ _) (Nat.le_refl _) ?_
            intro v196 w21 ho22 hb hg_ hnew_
            clear hg_ hnew_
            (first | rw [← Ny195.out] at ho22 | (simp only [Int.reduceToNat] at ho22; rw [← Ny195.out] at ho22))
            have n0_ := Aside0.mk (Kd.R_elder' (by (with_reducible repeat (first | apply qrA | apply qrN | apply qrD)); exact HO191.out) (Kd.R_base ho22) hb)
            have n1_ := Aside0.mk (Kd.R_elder' (by (with_reducible repeat (first | apply qrA | apply qrN | apply qrD)); exact HO194.out) (Kd.R_base ho22) hb)
            have n2_ := Aside0.mk (Kd.R_elder' (by (with_reducible repeat (first | apply qrA | apply qrN | apply qrD)); exact HO200.out) (Kd.R_base ho22) hb)
            have n3_ := Aside0.mk (Kd.R_lower (Kd.R_new' (Kd.R_new' (Kd.R_new' ho22 (Kd.R_lt (by (with_reducible repeat (first | apply qrA | apply qrN | apply qrD)); exact HO191.out))) (Kd.R_lt (by (with_reducible repeat (first | apply qrA | apply qrN | apply qrD)); exact HO194.out))) (Kd.R_lt (by (with_reducible repeat (first | apply qrA | apply qrN | apply qrD)); exact HO200.out))) (below_size (by repeat (first | (with_reducible first | exact HB.out | apply qbA | apply qbN | apply qbD | refine below_set ?_ GE187.out) | exact HB.out))))
            have n4_ := Aside0.mk (qkB (g := gb187) (o := .cells #[.int .i64 a0_0, .int .i64 a0_1] 95 (0, 0)) (by (with_reducible repeat (first | refine qkN ?_ _ | refine qkD ?_ | refine qkA ?_ _)); exact BK187.out) hb)
            have n5_ := Aside0.mk (qbS (by repeat (first | (with_reducible first | exact HB.out | apply qbA | apply qbN | apply qbD | refine below_set ?_ GE187.out) | exact HB.out)) hb)
            clear HO191
            clear HO194
            clear HO200
            clear BK187
            clear HB
            have HO191 := n0_
            have HO194 := n1_
            have HO200 := n2_
            have HO197 := n3_
            have BK187 := n4_
            have HB := n5_
            clear n0_ n1_ n2_ n3_ n4_ n5_
            clear hb ho22
            refine hK.out _ _ trivial (fun hHeld => ?_)
            clear hK K
            refine norm_ (a' := ?_) ?_ ?_
            rotate_left
            ·
             show Act.put _ (some 22) _ = _
             simp only [Act.put, qsI, qs0, qsS, i64_w, i32_w]
             rfl
            refine pure_ (i := 9) (N := some 10) (v := ?_) (a' := ?_) #[true, true, true, true, true, true, true, true, false, true, false, false] rfl rfl (any_of HT_.out (by kernel_rfl)) (fun _ _ _ h => h) (Or.inl ⟨by rfl, ?_⟩) ?_ ?_
            rotate_left
            ·
             intro w'
             go_simp
             with_reducible rfl
            rotate_left
            ·
             simp only [Act.put, qsI, qs0, qsS, i64_w, i32_w]
             rfl
            refine pure_ (i := 10) (N := some 11) (v := ?_) (a' := ?_) #[true, true, true, true, true, true, true, true, false, true, true, false] rfl rfl (any_of HT_.out (by kernel_rfl)) (fun _ _ _ h => h) (Or.inl ⟨by rfl, ?_⟩) ?_ ?_
            rotate_left
            ·
             intro w'
             go_simp
             with_reducible rfl
            rotate_left
            ·
             simp only [Act.put, qsI, qs0, qsS, i64_w, i32_w]
             rfl
            exact norm_ (by first | (simp only [putAll, Act.put, qsI, qs0, qsS]; done) | (simp only [putAll, Act.put, qsI, qs0, qsS]; rfl)) (hJ2_5 (v196, v199) _ ⟨(by (with_reducible repeat (first | apply qrA | apply qrN | apply qrD)); exact Kd.R_mono HO191.out (fun _ hk => ⟨hk.1.1, ⟨hk.2, hk.1.2⟩⟩)), (by (with_reducible repeat (first | apply qrA | apply qrN | apply qrD)); exact Kd.R_mono HO194.out (fun _ hk => ⟨hk.1.1, ⟨hk.2, hk.1.2⟩⟩)), (by (with_reducible repeat (first | apply qrA | apply qrN | apply qrD)); exact Kd.R_mono HO197.out (fun _ hk => ⟨hk.1.1.2, ⟨hk.1.2, hk.2⟩⟩)), (by (with_reducible repeat (first | apply qrA | apply qrN | apply qrD)); exact Kd.R_mono HO200.out (fun _ hk => ⟨hk.1.1, ⟨hk.1.2, hk.2⟩⟩)), (by (with_reducible repeat (first | refine qkN ?_ _ | refine qkD ?_ | refine qkA ?_ _)); exact BK187.out), (by repeat (first | (with_reducible first | exact HB.out | apply qbA | apply qbN | apply qbD | refine below_set ?_ GE187.out) | exact HB.out))⟩)
           ·
            skip
            refine Kd.R_make_step Kd.bool _ 4 (by rfl) (N := 28) rfl 98 _ _ rfl (t189.length : Int) rfl rfl Try.underlying98 (.bool false) 1 info4 rfl (by decide) (by omega) false (ok := fun _ => True) (okp := fun _ => True) rfl (fun _ hk => hk) trivial (of_decide_eq_true (by first | (with_reducible assumption) | assumption)) (Nat.le_trans (Nat.mul_le_mul_right _ (of_decide_eq_true (by first | (with_reducible assumption) | assumption) : (t189.length : Int).toNat ≤ 281474976710656)) (by omega)) (Below.refl _ _) (Nat.le_refl _) ?_
            intro v202 w21 ho22 hb hg_ hnew_
            clear hg_ hnew_
            (first | rw [← Ny201.out] at ho22 | (simp only [Int.reduceToNat] at ho22; rw [← Ny201.out] at ho22))
            have n0_ := Aside0.mk (Kd.R_elder' (by (with_reducible repeat (first | apply qrA | apply qrN | apply qrD)); exact HO191.out) (Kd.R_base ho22) hb)
            have n1_ := Aside0.mk (Kd.R_elder' (by (with_reducible repeat (first | apply qrA | apply qrN | apply qrD)); exact HO194.out) (Kd.R_base ho22) hb)
            have n2_ := Aside0.mk (Kd.R_elder' (by (with_reducible repeat (first | apply qrA | apply qrN | apply qrD)); exact HO200.out) (Kd.R_base ho22) hb)
            have n3_ := Aside0.mk (Kd.R_lower (Kd.R_new' (Kd.R_new' (Kd.R_new' ho22 (Kd.R_lt (by (with_reducible repeat (first | apply qrA | apply qrN | apply qrD)); exact HO191.out))) (Kd.R_lt (by (with_reducible repeat (first | apply qrA | apply qrN | apply qrD)); exact HO194.out))) (Kd.R_lt (by (with_reducible repeat (first | apply qrA | apply qrN | apply qrD)); exact HO200.out))) (below_size (by repeat (first | (with_reducible first | exact HB.out | apply qbA | apply qbN | apply qbD | refine below_set ?_ GE187.out) | exact HB.out))))
            have n4_ := Aside0.mk (qkB (g := gb187) (o := .cells #[.int .i64 a0_0, .int .i64 a0_1] 95 (0, 0)) (by (with_reducible repeat (first | refine qkN ?_ _ | refine qkD ?_ | refine qkA ?_ _)); exact BK187.out) hb)
            have n5_ := Aside0.mk (qbS (by repeat (first | (with_reducible first | exact HB.out | apply qbA | apply qbN | apply qbD | refine below_set ?_ GE187.out) | exact HB.out)) hb)
            clear HO191
            clear HO194
            clear HO200
            clear BK187
            clear HB
            have HO191 := n0_
            have HO194 := n1_
            have HO200 := n2_
            have HO203 := n3_
            have BK187 := n4_
            have HB := n5_
            clear n0_ n1_ n2_ n3_ n4_ n5_
            clear hb ho22
            refine hK.out _ _ trivial (fun hHeld => ?_)
            clear hK K
            refine norm_ (a' := ?_) ?_ ?_
            rotate_left
            ·
             show Act.put _ (some 28) _ = _
             simp only [Act.put, qsI, qs0, qsS, i64_w, i32_w]
             rfl
            exact norm_ (by first | (simp only [putAll, Act.put, qsI, qs0, qsS]; done) | (simp only [putAll, Act.put, qsI, qs0, qsS]; rfl)) (hJ5_8 (v199, v202) _ ⟨(by (with_reducible repeat (first | apply qrA | apply qrN | apply qrD)); exact Kd.R_mono HO191.out (fun _ hk => ⟨hk.1.1, ⟨hk.1.2, hk.2⟩⟩)), (by (with_reducible repeat (first | apply qrA | apply qrN | apply qrD)); exact Kd.R_mono HO194.out (fun _ hk => ⟨hk.1.1, ⟨hk.1.2, hk.2⟩⟩)), (by (with_reducible repeat (first | apply qrA | apply qrN | apply qrD)); exact Kd.R_mono HO200.out (fun _ hk => ⟨hk.1.1, ⟨hk.1.2, hk.2⟩⟩)), (by (with_reducible repeat (first | apply qrA | apply qrN | apply qrD)); exact Kd.R_mono HO203.out (fun _ hk => ⟨hk.1.1.2, ⟨hk.1.2, hk.2⟩⟩)), (by (with_reducible repeat (first | refine qkN ?_ _ | refine qkD ?_ | refine qkA ?_ _)); exact BK187.out), (by repeat (first | (with_reducible first | exact HB.out | apply qbA | apply qbN | apply qbD | refine below_set ?_ GE187.out) | exact HB.out))⟩)
         ·
          skip
          rintro v196 w20 ⟨h0_, h1_, h2_, h3_, h4_⟩
          have n0_ : Aside0 (Kd.R Kd.bool 4 w20 w.heap.size (fun k_ => some k_ ≠ (v193 : Value).ownBlock ∧ some k_ ≠ (v196 : Value).ownBlock) (.slice Ao17 t189.length co17) t189) := ⟨h0_⟩
          have n1_ : Aside0 (Kd.R Kd.bool 4 w20 w.heap.size (fun k_ => some k_ ≠ (.slice Ao17 t189.length co17 : Value).ownBlock ∧ some k_ ≠ (v196 : Value).ownBlock) v193 t192) := ⟨h1_⟩
          have n2_ : Aside0 (Kd.R Kd.bool 4 w20 w.heap.size (fun k_ => some k_ ≠ (.slice Ao17 t189.length co17 : Value).ownBlock ∧ some k_ ≠ (v193 : Value).ownBlock) v196 y195) := ⟨h2_⟩
          have n3_ : Aside0 (w20.heap[gb187]? = some (.cells #[.int .i64 a0_0, .int .i64 a0_1] 95 (0, 0))) := ⟨h3_⟩
          have n4_ : Aside0 (Below w.heap.size w w20) := ⟨h4_⟩
          clear HO191
          clear HO194
          clear BK187
          clear HB
          clear h0_ h1_ h2_ h3_ h4_
          have HO191 := n0_
          have HO194 := n1_
          have HO197 := n2_
          have BK187 := n3_
          have HB := n4_
          clear n0_ n1_ n2_ n3_ n4_
          have hHeld := trivial
          refine norm_ (a' := ?_) ?_ ?_
          rotate_left
          ·
           simp only [putAll, Act.put, qsI, qs0, qsS]
           rfl
          refine two_ (i := 5) (j := 8) (Ni := some 25) (Nj := some 28) #[true, true, true, true, true, true, true, true, false, true, false, false] #[true, true, true, true, true, false, true, true, true, true, false, false] rfl rfl rfl rfl (two_of HT_.out (by kernel_rfl)) (by decide) (by decide) (fun K hK => ?_) (fun K hK => ?_)
          ·
           skip
           refine Kd.R_make_step Kd.bool _ 4 (by rfl) (N := 25) rfl 98 _ _ rfl (t189.length : Int) rfl rfl Try.underlying98 (.bool false) 1 info4 rfl (by decide) (by omega) false (ok := fun _ => True) (okp := fun _ => True) rfl (fun _ hk => hk) trivial (of_decide_eq_true (by first | (with_reducible assumption) | assumption)) (Nat.le_trans (Nat.mul_le_mul_right _ (of_decide_eq_true (by first | (with_reducible assumption) | assumption) : (t189.length : Int).toNat ≤ 281474976710656)) (by omega)) (Below.refl _ _) (Nat.le_refl _) ?_
           intro v199 w21 ho22 hb hg_ hnew_
           clear hg_ hnew_
           (first | rw [← Ny198.out] at ho22 | (simp only [Int.reduceToNat] at ho22; rw [← Ny198.out] at ho22))
           have n0_ := Aside0.mk (Kd.R_elder' (by (with_reducible repeat (first | apply qrA | apply qrN | apply qrD)); exact HO191.out) (Kd.R_base ho22) hb)
           have n1_ := Aside0.mk (Kd.R_elder' (by (with_reducible repeat (first | apply qrA | apply qrN | apply qrD)); exact HO194.out) (Kd.R_base ho22) hb)
           have n2_ := Aside0.mk (Kd.R_elder' (by (with_reducible repeat (first | apply qrA | apply qrN | apply qrD)); exact HO197.out) (Kd.R_base ho22) hb)
           have n3_ := Aside0.mk (Kd.R_lower (Kd.R_new' (Kd.R_new' (Kd.R_new' ho22 (Kd.R_lt (by (with_reducible repeat (first | apply qrA | apply qrN | apply qrD)); exact HO191.out))) (Kd.R_lt (by (with_reducible repeat (first | apply qrA | apply qrN | apply qrD)); exact HO194.out))) (Kd.R_lt (by (with_reducible repeat (first | apply qrA | apply qrN | apply qrD)); exact HO197.out))) (below_size (by repeat (first | (with_reducible first | exact HB.out | apply qbA | apply qbN | apply qbD | refine below_set ?_ GE187.out) | exact HB.out))))
           have n4_ := Aside0.mk (qkB (g := gb187) (o := .cells #[.int .i64 a0_0, .int .i64 a0_1] 95 (0, 0)) (by (with_reducible repeat (first | refine qkN ?_ _ | refine qkD ?_ | refine qkA ?_ _)); exact BK187.out) hb)
           have n5_ := Aside0.mk (qbS (by repeat (first | (with_reducible first | exact HB.out | apply qbA | apply qbN | apply qbD | refine below_set ?_ GE187.out) | exact HB.out)) hb)
           clear HO191
           clear HO194
           clear HO197
           clear BK187
           clear HB
           have HO191 := n0_
           have HO194 := n1_
           have HO197 := n2_
           have HO200 := n3_
           have BK187 := n4_
           have HB := n5_
           clear n0_ n1_ n2_ n3_ n4_ n5_
           clear hb ho22
           refine hK.out _ _ trivial (fun hHeld => ?_)
           clear hK K
           refine norm_ (a' := ?_) ?_ ?_
           rotate_left
           ·
            show Act.put _ (some 25) _ = _
            simp only [Act.put, qsI, qs0, qsS, i64_w, i32_w]
            rfl
           refine pure_ (i := 10) (N := some 11) (v := ?_) (a' := ?_) #[true, true, true, true, true, true, true, true, false, true, true, false] rfl rfl (any_of HT_.out (by kernel_rfl)) (fun _ _ _ h => h) (Or.inl ⟨by rfl, ?_⟩) ?_ ?_
           rotate_left
           ·
            intro w'
            go_simp
            with_reducible rfl
           rotate_left
           ·
            simp only [Act.put, qsI, qs0, qsS, i64_w, i32_w]
            rfl
           exact norm_ (by first | (simp only [putAll, Act.put, qsI, qs0, qsS]; done) | (simp only [putAll, Act.put, qsI, qs0, qsS]; rfl)) (hJ2_5 (v196, v199) _ ⟨(by (with_reducible repeat (first | apply qrA | apply qrN | apply qrD)); exact Kd.R_mono HO191.out (fun _ hk => ⟨hk.1.1, ⟨hk.1.2, hk.2⟩⟩)), (by (with_reducible repeat (first | apply qrA | apply qrN | apply qrD)); exact Kd.R_mono HO194.out (fun _ hk => ⟨hk.1.1, ⟨hk.1.2, hk.2⟩⟩)), (by (with_reducible repeat (first | apply qrA | apply qrN | apply qrD)); exact Kd.R_mono HO197.out (fun _ hk => ⟨hk.1.1, ⟨hk.1.2, hk.2⟩⟩)), (by (with_reducible repeat (first | apply qrA | apply qrN | apply qrD)); exact Kd.R_mono HO200.out (fun _ hk => ⟨hk.1.1.2, ⟨hk.1.2, hk.2⟩⟩)), (by (with_reducible repeat (first | refine qkN ?_ _ | refine qkD ?_ | refine qkA ?_ _)); exact BK187.out), (by repeat (first | (with_reducible first | exact HB.out | apply qbA | apply qbN | apply qbD | refine below_set ?_ GE187.out) | exact HB.out))⟩)
          ·
           skip
           refine Kd.R_make_step Kd.bool _ 4 (by rfl) (N := 28) rfl 98 _ _ rfl (t189.length : Int) rfl rfl Try.underlying98 (.bool false) 1 info4 rfl (by decide) (by omega) false (ok := fun _ => True) (okp := fun _ => True) rfl (fun _ hk => hk) trivial (of_decide_eq_true (by first | (with_reducible assumption) | assumption)) (Nat.le_trans (Nat.mul_le_mul_right _ (of_decide_eq_true (by first | (with_reducible assumption) | assumption) : (t189.length : Int).toNat ≤ 281474976710656)) (by omega)) (Below.refl _ _) (Nat.le_refl _) ?_
           intro v202 w21 ho22 hb hg_ hnew_
           clear hg_ hnew_
           (first | rw [← Ny201.out] at ho22 | (simp only [Int.reduceToNat] at ho22; rw [← Ny201.out] at ho22))
           have n0_ := Aside0.mk (Kd.R_elder' (by (with_reducible repeat (first | apply qrA | apply qrN | apply qrD)); exact HO191.out) (Kd.R_base ho22) hb)
           have n1_ := Aside0.mk (Kd.R_elder' (by (with_reducible repeat (first | apply qrA | apply qrN | apply qrD)); exact HO194.out) (Kd.R_base ho22) hb)
           have n2_ := Aside0.mk (Kd.R_elder' (by (with_reducible repeat (first | apply qrA | apply qrN | apply qrD)); exact HO197.out) (Kd.R_base ho22) hb)
           have n3_ := Aside0.mk (Kd.R_lower (Kd.R_new' (Kd.R_new' (Kd.R_new' ho22 (Kd.R_lt (by (with_reducible repeat (first | apply qrA | apply qrN | apply qrD)); exact HO191.out))) (Kd.R_lt (by (with_reducible repeat (first | apply qrA | apply qrN | apply qrD)); exact HO194.out))) (Kd.R_lt (by (with_reducible repeat (first | apply qrA | apply qrN | apply qrD)); exact HO197.out))) (below_size (by repeat (first | (with_reducible first | exact HB.out | apply qbA | apply qbN | apply qbD | refine below_set ?_ GE187.out) | exact HB.out))))
           have n4_ := Aside0.mk (qkB (g := gb187) (o := .cells #[.int .i64 a0_0, .int .i64 a0_1] 95 (0, 0)) (by (with_reducible repeat (first | refine qkN ?_ _ | refine qkD ?_ | refine qkA ?_ _)); exact BK187.out) hb)
           have n5_ := Aside0.mk (qbS (by repeat (first | (with_reducible first | exact HB.out | apply qbA | apply qbN | apply qbD | refine below_set ?_ GE187.out) | exact HB.out)) hb)
           clear HO191
           clear HO194
           clear HO197
           clear BK187
           clear HB
           have HO191 := n0_
           have HO194 := n1_
           have HO197 := n2_
           have HO203 := n3_
           have BK187 := n4_
           have HB := n5_
           clear n0_ n1_ n2_ n3_ n4_ n5_
           clear hb ho22
           refine hK.out _ _ trivial (fun hHeld => ?_)
           clear hK K
           refine norm_ (a' := ?_) ?_ ?_
           rotate_left
           ·
            show Act.put _ (some 28) _ = _
            simp only [Act.put, qsI, qs0, qsS, i64_w, i32_w]
            rfl
           exact norm_ (by first | (simp only [putAll, Act.put, qsI, qs0, qsS]; done) | (simp only [putAll, Act.put, qsI, qs0, qsS]; rfl)) (hJ2_8 (v196, v202) _ ⟨(by (with_reducible repeat (first | apply qrA | apply qrN | apply qrD)); exact Kd.R_mono HO191.out (fun _ hk => ⟨hk.1.1, ⟨hk.1.2, hk.2⟩⟩)), (by (with_reducible repeat (first | apply qrA | apply qrN | apply qrD)); exact Kd.R_mono HO194.out (fun _ hk => ⟨hk.1.1, ⟨hk.1.2, hk.2⟩⟩)), (by (with_reducible repeat (first | apply qrA | apply qrN | apply qrD)); exact Kd.R_mono HO197.out (fun _ hk => ⟨hk.1.1, ⟨hk.1.2, hk.2⟩⟩)), (by (with_reducible repeat (first | apply qrA | apply qrN | apply qrD)); exact Kd.R_mono HO203.out (fun _ hk => ⟨hk.1.1.2, ⟨hk.1.2, hk.2⟩⟩)), (by (with_reducible repeat (first | refine qkN ?_ _ | refine qkD ?_ | refine qkA ?_ _)); exact BK187.out), (by repeat (first | (with_reducible first | exact HB.out | apply qbA | apply qbN | apply qbD | refine below_set ?_ GE187.out) | exact HB.out))⟩)
        ·
         skip
         rintro ⟨v199, v202⟩ w22 ⟨h0_, h1_, h2_, h3_, h4_, h5_⟩
         have n0_ : Aside0 (Kd.R Kd.bool 4 w22 w.heap.size (fun k_ => some k_ ≠ (v193 : Value).ownBlock ∧ some k_ ≠ (v199 : Value).ownBlock ∧ some k_ ≠ (v202 : Value).ownBlock) (.slice Ao17 t189.length co17) t189) := ⟨h0_⟩
         have n1_ : Aside0 (Kd.R Kd.bool 4 w22 w.heap.size (fun k_ => some k_ ≠ (.slice Ao17 t189.length co17 : Value).ownBlock ∧ some k_ ≠ (v199 : Value).ownBlock ∧ some k_ ≠ (v202 : Value).ownBlock) v193 t192) := ⟨h1_⟩
         have n2_ : Aside0 (Kd.R Kd.bool 4 w22 w.heap.size (fun k_ => some k_ ≠ (.slice Ao17 t189.length co17 : Value).ownBlock ∧ some k_ ≠ (v193 : Value).ownBlock ∧ some k_ ≠ (v202 : Value).ownBlock) v199 y198) := ⟨h2_⟩
         have n3_ : Aside0 (Kd.R Kd.bool 4 w22 w.heap.size (fun k_ => some k_ ≠ (.slice Ao17 t189.length co17 : Value).ownBlock ∧ some k_ ≠ (v193 : Value).ownBlock ∧ some k_ ≠ (v199 : Value).ownBlock) v202 y201) := ⟨h3_⟩
         have n4_ : Aside0 (w22.heap[gb187]? = some (.cells #[.int .i64 a0_0, .int .i64 a0_1] 95 (0, 0))) := ⟨h4_⟩
         have n5_ : Aside0 (Below w.heap.size w w22) := ⟨h5_⟩
         clear HO191
         clear HO194
         clear BK187
         clear HB
         clear h0_ h1_ h2_ h3_ h4_ h5_
         have HO191 := n0_
         have HO194 := n1_
         have HO200 := n2_
         have HO203 := n3_
         have BK187 := n4_
         have HB := n5_
         clear n0_ n1_ n2_ n3_ n4_ n5_
         have hHeld := trivial
         refine norm_ (a' := ?_) ?_ ?_
         rotate_left
         ·
          simp only [putAll, Act.put, qsI, qs0, qsS]
          rfl
         refine one_ (i := 2) (N := some 22) #[true, true, true, true, true, true, true, true, true, false, false, false] rfl rfl (one_of HT_.out (by kernel_rfl)) (by decide) (fun K hK => ?_)
         refine Kd.R_make_step Kd.bool _ 4 (by rfl) (N := 22) rfl 98 _ _ rfl (t189.length : Int) rfl rfl Try.underlying98 (.bool false) 1 info4 rfl (by decide) (by omega) false (ok := fun _ => True) (okp := fun _ => True) rfl (fun _ hk => hk) trivial (of_decide_eq_true (by first | (with_reducible assumption) | assumption)) (Nat.le_trans (Nat.mul_le_mul_right _ (of_decide_eq_true (by first | (with_reducible assumption) | assumption) : (t189.length : Int).toNat ≤ 281474976710656)) (by omega)) (Below.refl _ _) (Nat.le_refl _) ?_
         intro v196 w23 ho24 hb hg_ hnew_
         clear hg_ hnew_
         (first | rw [← Ny195.out] at ho24 | (simp only [Int.reduceToNat] at ho24; rw [← Ny195.out] at ho24))
         have n0_ := Aside0.mk (Kd.R_elder' (by (with_reducible repeat (first | apply qrA | apply qrN | apply qrD)); exact HO191.out) (Kd.R_base ho24) hb)
         have n1_ := Aside0.mk (Kd.R_elder' (by (with_reducible repeat (first | apply qrA | apply qrN | apply qrD)); exact HO194.out) (Kd.R_base ho24) hb)
         have n2_ := Aside0.mk (Kd.R_elder' (by (with_reducible repeat (first | apply qrA | apply qrN | apply qrD)); exact HO200.out) (Kd.R_base ho24) hb)
         have n3_ := Aside0.mk (Kd.R_elder' (by (with_reducible repeat (first | apply qrA | apply qrN | apply qrD)); exact HO203.out) (Kd.R_base ho24) hb)
         have n4_ := Aside0.mk (Kd.R_lower (Kd.R_new' (Kd.R_new' (Kd.R_new' (Kd.R_new' ho24 (Kd.R_lt (by (with_reducible repeat (first | apply qrA | apply qrN | apply qrD)); exact HO191.out))) (Kd.R_lt (by (with_reducible repeat (first | apply qrA | apply qrN | apply qrD)); exact HO194.out))) (Kd.R_lt (by (with_reducible repeat (first | apply qrA | apply qrN | apply qrD)); exact HO200.out))) (Kd.R_lt (by (with_reducible repeat (first | apply qrA | apply qrN | apply qrD)); exact HO203.out))) (below_size (by repeat (first | (with_reducible first | exact HB.out | apply qbA | apply qbN | apply qbD | refine below_set ?_ GE187.out) | exact HB.out))))
         have n5_ := Aside0.mk (qkB (g := gb187) (o := .cells #[.int .i64 a0_0, .int .i64 a0_1] 95 (0, 0)) (by (with_reducible repeat (first | refine qkN ?_ _ | refine qkD ?_ | refine qkA ?_ _)); exact BK187.out) hb)
         have n6_ := Aside0.mk (qbS (by repeat (first | (with_reducible first | exact HB.out | apply qbA | apply qbN | apply qbD | refine below_set ?_ GE187.out) | exact HB.out)) hb)
         clear HO191
         clear HO194
         clear HO200
         clear HO203
         clear BK187
         clear HB
         have HO191 := n0_
         have HO194 := n1_
         have HO200 := n2_
         have HO203 := n3_
         have HO197 := n4_
         have BK187 := n5_
         have HB := n6_
         clear n0_ n1_ n2_ n3_ n4_ n5_ n6_
         clear hb ho24
         refine hK.out _ _ trivial (fun hHeld => ?_)
         clear hK K
         refine norm_ (a' := ?_) ?_ ?_
         rotate_left
         ·
          show Act.put _ (some 22) _ = _
          simp only [Act.put, qsI, qs0, qsS, i64_w, i32_w]
          rfl
         refine pure_ (i := 9) (N := some 10) (v := ?_) (a' := ?_) #[true, true, true, true, true, true, true, true, true, true, false, false] rfl rfl (any_of HT_.out (by kernel_rfl)) (fun _ _ _ h => h) (Or.inl ⟨by rfl, ?_⟩) ?_ ?_
         rotate_left
         ·
          intro w'
          go_simp
          with_reducible rfl
         rotate_left
         ·
          simp only [Act.put, qsI, qs0, qsS, i64_w, i32_w]
          rfl
         refine pure_ (i := 10) (N := some 11) (v := ?_) (a' := ?_) #[true, true, true, true, true, true, true, true, true, true, true, false] rfl rfl (any_of HT_.out (by kernel_rfl)) (fun _ _ _ h => h) (Or.inl ⟨by rfl, ?_⟩) ?_ ?_
         rotate_left
         ·
          intro w'
          go_simp
          with_reducible rfl
         rotate_left
         ·
          simp only [Act.put, qsI, qs0, qsS, i64_w, i32_w]
          rfl
         exact norm_ (by first | (simp only [putAll, Act.put, qsI, qs0, qsS]; done) | (simp only [putAll, Act.put, qsI, qs0, qsS]; rfl)) (hJ2_5_8 (v196, v199, v202) _ ⟨(by (with_reducible repeat (first | apply qrA | apply qrN | apply qrD)); exact Kd.R_mono HO191.out (fun _ hk => ⟨hk.1.1, ⟨hk.2, ⟨hk.1.2.1, hk.1.2.2⟩⟩⟩)), (by (with_reducible repeat (first | apply qrA | apply qrN | apply qrD)); exact Kd.R_mono HO194.out (fun _ hk => ⟨hk.1.1, ⟨hk.2, ⟨hk.1.2.1, hk.1.2.2⟩⟩⟩)), (by (with_reducible repeat (first | apply qrA | apply qrN | apply qrD)); exact Kd.R_mono HO197.out (fun _ hk => ⟨hk.1.1.1.2, ⟨hk.1.1.2, ⟨hk.1.2, hk.2⟩⟩⟩)), (by (with_reducible repeat (first | apply qrA | apply qrN | apply qrD)); exact Kd.R_mono HO200.out (fun _ hk => ⟨hk.1.1, ⟨hk.1.2.1, ⟨hk.2, hk.1.2.2⟩⟩⟩)), (by (with_reducible repeat (first | apply qrA | apply qrN | apply qrD)); exact Kd.R_mono HO203.out (fun _ hk => ⟨hk.1.1, ⟨hk.1.2.1, ⟨hk.2, hk.1.2.2⟩⟩⟩)), (by (with_reducible repeat (first | refine qkN ?_ _ | refine qkD ?_ | refine qkA ?_ _)); exact BK187.out), (by repeat (first | (with_reducible first | exact HB.out | apply qbA | apply qbN | apply qbD | refine below_set ?_ GE187.out) | exact HB.out))⟩)
       ·
        skip
        rintro ⟨v196, v202⟩ w22 ⟨h0_, h1_, h2_, h3_, h4_, h5_⟩
        have n0_ : Aside0 (Kd.R Kd.bool 4 w22 w.heap.size (fun k_ => some k_ ≠ (v193 : Value).ownBlock ∧ some k_ ≠ (v196 : Value).ownBlock ∧ some k_ ≠ (v202 : Value).ownBlock) (.slice Ao17 t189.length co17) t189) := ⟨h0_⟩
        have n1_ : Aside0 (Kd.R Kd.bool 4 w22 w.heap.size (fun k_ => some k_ ≠ (.slice Ao17 t189.length co17 : Value).ownBlock ∧ some k_ ≠ (v196 : Value).ownBlock ∧ some k_ ≠ (v202 : Value).ownBlock) v193 t192) := ⟨h1_⟩
        have n2_ : Aside0 (Kd.R Kd.bool 4 w22 w.heap.size (fun k_ => some k_ ≠ (.slice Ao17 t189.length co17 : Value).ownBlock ∧ some k_ ≠ (v193 : Value).ownBlock ∧ some k_ ≠ (v202 : Value).ownBlock) v196 y195) := ⟨h2_⟩
        have n3_ : Aside0 (Kd.R Kd.bool 4 w22 w.heap.size (fun k_ => some k_ ≠ (.slice Ao17 t189.length co17 : Value).ownBlock ∧ some k_ ≠ (v193 : Value).ownBlock ∧ some k_ ≠ (v196 : Value).ownBlock) v202 y201) := ⟨h3_⟩
        have n4_ : Aside0 (w22.heap[gb187]? = some (.cells #[.int .i64 a0_0, .int .i64 a0_1] 95 (0, 0))) := ⟨h4_⟩
        have n5_ : Aside0 (Below w.heap.size w w22) := ⟨h5_⟩
        clear HO191
        clear HO194
        clear BK187
        clear HB
        clear h0_ h1_ h2_ h3_ h4_ h5_
        have HO191 := n0_
        have HO194 := n1_
        have HO197 := n2_
        have HO203 := n3_
        have BK187 := n4_
        have HB := n5_
        clear n0_ n1_ n2_ n3_ n4_ n5_
        have hHeld := trivial
        refine norm_ (a' := ?_) ?_ ?_
        rotate_left
        ·
         simp only [putAll, Act.put, qsI, qs0, qsS]
         rfl
        refine one_ (i := 5) (N := some 25) #[true, true, true, true, true, true, true, true, true, true, false, false] rfl rfl (one_of HT_.out (by kernel_rfl)) (by decide) (fun K hK => ?_)
        refine Kd.R_make_step Kd.bool _ 4 (by rfl) (N := 25) rfl 98 _ _ rfl (t189.length : Int) rfl rfl Try.underlying98 (.bool false) 1 info4 rfl (by decide) (by omega) false (ok := fun _ => True) (okp := fun _ => True) rfl (fun _ hk => hk) trivial (of_decide_eq_true (by first | (with_reducible assumption) | assumption)) (Nat.le_trans (Nat.mul_le_mul_right _ (of_decide_eq_true (by first | (with_reducible assumption) | assumption) : (t189.length : Int).toNat ≤ 281474976710656)) (by omega)) (Below.refl _ _) (Nat.le_refl _) ?_
        intro v199 w23 ho24 hb hg_ hnew_
        clear hg_ hnew_
        (first | rw [← Ny198.out] at ho24 | (simp only [Int.reduceToNat] at ho24; rw [← Ny198.out] at ho24))
        have n0_ := Aside0.mk (Kd.R_elder' (by (with_reducible repeat (first | apply qrA | apply qrN | apply qrD)); exact HO191.out) (Kd.R_base ho24) hb)
        have n1_ := Aside0.mk (Kd.R_elder' (by (with_reducible repeat (first | apply qrA | apply qrN | apply qrD)); exact HO194.out) (Kd.R_base ho24) hb)
        have n2_ := Aside0.mk (Kd.R_elder' (by (with_reducible repeat (first | apply qrA | apply qrN | apply qrD)); exact HO197.out) (Kd.R_base ho24) hb)
        have n3_ := Aside0.mk (Kd.R_elder' (by (with_reducible repeat (first | apply qrA | apply qrN | apply qrD)); exact HO203.out) (Kd.R_base ho24) hb)
        have n4_ := Aside0.mk (Kd.R_lower (Kd.R_new' (Kd.R_new' (Kd.R_new' (Kd.R_new' ho24 (Kd.R_lt (by (with_reducible repeat (first | apply qrA | apply qrN | apply qrD)); exact HO191.out))) (Kd.R_lt (by (with_reducible repeat (first | apply qrA | apply qrN | apply qrD)); exact HO194.out))) (Kd.R_lt (by (with_reducible repeat (first | apply qrA | apply qrN | apply qrD)); exact HO197.out))) (Kd.R_lt (by (with_reducible repeat (first | apply qrA | apply qrN | apply qrD)); exact HO203.out))) (below_size (by repeat (first | (with_reducible first | exact HB.out | apply qbA | apply qbN | apply qbD | refine below_set ?_ GE187.out) | exact HB.out))))
        have n5_ := Aside0.mk (qkB (g := gb187) (o := .cells #[.int .i64 a0_0, .int .i64 a0_1] 95 (0, 0)) (by (with_reducible repeat (first | refine qkN ?_ _ | refine qkD ?_ | refine qkA ?_ _)); exact BK187.out) hb)
        have n6_ := Aside0.mk (qbS (by repeat (first | (with_reducible first | exact HB.out | apply qbA | apply qbN | apply qbD | refine below_set ?_ GE187.out) | exact HB.out)) hb)
        clear HO191
        clear HO194
        clear HO197
        clear HO203
        clear BK187
        clear HB
        have HO191 := n0_
        have HO194 := n1_
        have HO197 := n2_
        have HO203 := n3_
        have HO200 := n4_
        have BK187 := n5_
        have HB := n6_
        clear n0_ n1_ n2_ n3_ n4_ n5_ n6_
        clear hb ho24
        refine hK.out _ _ trivial (fun hHeld => ?_)
        clear hK K
        refine norm_ (a' := ?_) ?_ ?_
        rotate_left
        ·
         show Act.put _ (some 25) _ = _
         simp only [Act.put, qsI, qs0, qsS, i64_w, i32_w]
         rfl
        refine pure_ (i := 10) (N := some 11) (v := ?_) (a' := ?_) #[true, true, true, true, true, true, true, true, true, true, true, false] rfl rfl (any_of HT_.out (by kernel_rfl)) (fun _ _ _ h => h) (Or.inl ⟨by rfl, ?_⟩) ?_ ?_
        rotate_left
        ·
         intro w'
         go_simp
         with_reducible rfl
        rotate_left
        ·
         simp only [Act.put, qsI, qs0, qsS, i64_w, i32_w]
         rfl
        exact norm_ (by first | (simp only [putAll, Act.put, qsI, qs0, qsS]; done) | (simp only [putAll, Act.put, qsI, qs0, qsS]; rfl)) (hJ2_5_8 (v196, v199, v202) _ ⟨(by (with_reducible repeat (first | apply qrA | apply qrN | apply qrD)); exact Kd.R_mono HO191.out (fun _ hk => ⟨hk.1.1, ⟨hk.1.2.1, ⟨hk.2, hk.1.2.2⟩⟩⟩)), (by (with_reducible repeat (first | apply qrA | apply qrN | apply qrD)); exact Kd.R_mono HO194.out (fun _ hk => ⟨hk.1.1, ⟨hk.1.2.1, ⟨hk.2, hk.1.2.2⟩⟩⟩)), (by (with_reducible repeat (first | apply qrA | apply qrN | apply qrD)); exact Kd.R_mono HO197.out (fun _ hk => ⟨hk.1.1, ⟨hk.1.2.1, ⟨hk.2, hk.1.2.2⟩⟩⟩)), (by (with_reducible repeat (first | apply qrA | apply qrN | apply qrD)); exact Kd.R_mono HO200.out (fun _ hk => ⟨hk.1.1.1.2, ⟨hk.1.1.2, ⟨hk.1.2, hk.2⟩⟩⟩)), (by (with_reducible repeat (first | apply qrA | apply qrN | apply qrD)); exact Kd.R_mono HO203.out (fun _ hk => ⟨hk.1.1, ⟨hk.1.2.1, ⟨hk.1.2.2, hk.2⟩⟩⟩)), (by (with_reducible repeat (first | refine qkN ?_ _ | refine qkD ?_ | refine qkA ?_ _)); exact BK187.out), (by repeat (first | (with_reducible first | exact HB.out | apply qbA | apply qbN | apply qbD | refine below_set ?_ GE187.out) | exact HB.out))⟩)
      ·
       skip
       rintro ⟨v196, v199⟩ w22 ⟨h0_, h1_, h2_, h3_, h4_, h5_⟩
       have n0_ : Aside0 (Kd.R Kd.bool 4 w22 w.heap.size (fun k_ => some k_ ≠ (v193 : Value).ownBlock ∧ some k_ ≠ (v196 : Value).ownBlock ∧ some k_ ≠ (v199 : Value).ownBlock) (.slice Ao17 t189.length co17) t189) := ⟨h0_⟩
       have n1_ : Aside0 (Kd.R Kd.bool 4 w22 w.heap.size (fun k_ => some k_ ≠ (.slice Ao17 t189.length co17 : Value).ownBlock ∧ some k_ ≠ (v196 : Value).ownBlock ∧ some k_ ≠ (v199 : Value).ownBlock) v193 t192) := ⟨h1_⟩
       have n2_ : Aside0 (Kd.R Kd.bool 4 w22 w.heap.size (fun k_ => some k_ ≠ (.slice Ao17 t189.length co17 : Value).ownBlock ∧ some k_ ≠ (v193 : Value).ownBlock ∧ some k_ ≠ (v199 : Value).ownBlock) v196 y195) := ⟨h2_⟩
       have n3_ : Aside0 (Kd.R Kd.bool 4 w22 w.heap.size (fun k_ => some k_ ≠ (.slice Ao17 t189.length co17 : Value).ownBlock ∧ some k_ ≠ (v193 : Value).ownBlock ∧ some k_ ≠ (v196 : Value).ownBlock) v199 y198) := ⟨h3_⟩
       have n4_ : Aside0 (w22.heap[gb187]? = some (.cells #[.int .i64 a0_0, .int .i64 a0_1] 95 (0, 0))) := ⟨h4_⟩
       have n5_ : Aside0 (Below w.heap.size w w22) := ⟨h5_⟩
       clear HO191
       clear HO194
       clear BK187
       clear HB
       clear h0_ h1_ h2_ h3_ h4_ h5_
       have HO191 := n0_
       have HO194 := n1_
       have HO197 := n2_
       have HO200 := n3_
       have BK187 := n4_
       have HB := n5_
       clear n0_ n1_ n2_ n3_ n4_ n5_
       have hHeld := trivial
       refine norm_ (a' := ?_) ?_ ?_
       rotate_left
       ·
        simp only [putAll, Act.put, qsI, qs0, qsS]
        rfl
       refine one_ (i := 8) (N := some 28) #[true, true, true, true, true, true, true, true, true, true, true, false] rfl rfl (one_of HT_.out (by kernel_rfl)) (by decide) (fun K hK => ?_)
       refine Kd.R_make_step Kd.bool _ 4 (by rfl) (N := 28) rfl 98 _ _ rfl (t189.length : Int) rfl rfl Try.underlying98 (.bool false) 1 info4 rfl (by decide) (by omega) false (ok := fun _ => True) (okp := fun _ => True) rfl (fun _ hk => hk) trivial (of_decide_eq_true (by first | (with_reducible assumption) | assumption)) (Nat.le_trans (Nat.mul_le_mul_right _ (of_decide_eq_true (by first | (with_reducible assumption) | assumption) : (t189.length : Int).toNat ≤ 281474976710656)) (by omega)) (Below.refl _ _) (Nat.le_refl _) ?_
       intro v202 w23 ho24 hb hg_ hnew_
       clear hg_ hnew_
       (first | rw [← Ny201.out] at ho24 | (simp only [Int.reduceToNat] at ho24; rw [← Ny201.out] at ho24))
       have n0_ := Aside0.mk (Kd.R_elder' (by (with_reducible repeat (first | apply qrA | apply qrN | apply qrD)); exact HO191.out) (Kd.R_base ho24) hb)
       have n1_ := Aside0.mk (Kd.R_elder' (by (with_reducible repeat (first | apply qrA | apply qrN | apply qrD)); exact HO194.out) (Kd.R_base ho24) hb)
       have n2_ := Aside0.mk (Kd.R_elder' (by (with_reducible repeat (first | apply qrA | apply qrN | apply qrD)); exact HO197.out) (Kd.R_base ho24) hb)
       have n3_ := Aside0.mk (Kd.R_elder' (by (with_reducible repeat (first | apply qrA | apply qrN | apply qrD)); exact HO200.out) (Kd.R_base ho24) hb)
       have n4_ := Aside0.mk (Kd.R_lower (Kd.R_new' (Kd.R_new' (Kd.R_new' (Kd.R_new' ho24 (Kd.R_lt (by (with_reducible repeat (first | apply qrA | apply qrN | apply qrD)); exact HO191.out))) (Kd.R_lt (by (with_reducible repeat (first | apply qrA | apply qrN | apply qrD)); exact HO194.out))) (Kd.R_lt (by (with_reducible repeat (first | apply qrA | apply qrN | apply qrD)); exact HO197.out))) (Kd.R_lt (by (with_reducible repeat (first | apply qrA | apply qrN | apply qrD)); exact HO200.out))) (below_size (by repeat (first | (with_reducible first | exact HB.out | apply qbA | apply qbN | apply qbD | refine below_set ?_ GE187.out) | exact HB.out))))
       have n5_ := Aside0.mk (qkB (g := gb187) (o := .cells #[.int .i64 a0_0, .int .i64 a0_1] 95 (0, 0)) (by (with_reducible repeat (first | refine qkN ?_ _ | refine qkD ?_ | refine qkA ?_ _)); exact BK187.out) hb)
       have n6_ := Aside0.mk (qbS (by repeat (first | (with_reducible first | exact HB.out | apply qbA | apply qbN | apply qbD | refine below_set ?_ GE187.out) | exact HB.out)) hb)
       clear HO191
       clear HO194
       clear HO197
       clear HO200
       clear BK187
       clear HB
       have HO191 := n0_
       have HO194 := n1_
       have HO197 := n2_
       have HO200 := n3_
       have HO203 := n4_
       have BK187 := n5_
       have HB := n6_
       clear n0_ n1_ n2_ n3_ n4_ n5_ n6_
       clear hb ho24
       refine hK.out _ _ trivial (fun hHeld => ?_)
       clear hK K
       refine norm_ (a' := ?_) ?_ ?_
       rotate_left
       ·
        show Act.put _ (some 28) _ = _
        simp only [Act.put, qsI, qs0, qsS, i64_w, i32_w]
        rfl
       exact norm_ (by first | (simp only [putAll, Act.put, qsI, qs0, qsS]; done) | (simp only [putAll, Act.put, qsI, qs0, qsS]; rfl)) (hJ2_5_8 (v196, v199, v202) _ ⟨(by (with_reducible repeat (first | apply qrA | apply qrN | apply qrD)); exact Kd.R_mono HO191.out (fun _ hk => ⟨hk.1.1, ⟨hk.1.2.1, ⟨hk.1.2.2, hk.2⟩⟩⟩)), (by (with_reducible repeat (first | apply qrA | apply qrN | apply qrD)); exact Kd.R_mono HO194.out (fun _ hk => ⟨hk.1.1, ⟨hk.1.2.1, ⟨hk.1.2.2, hk.2⟩⟩⟩)), (by (with_reducible repeat (first | apply qrA | apply qrN | apply qrD)); exact Kd.R_mono HO197.out (fun _ hk => ⟨hk.1.1, ⟨hk.1.2.1, ⟨hk.1.2.2, hk.2⟩⟩⟩)), (by (with_reducible repeat (first | apply qrA | apply qrN | apply qrD)); exact Kd.R_mono HO200.out (fun _ hk => ⟨hk.1.1, ⟨hk.1.2.1, ⟨hk.1.2.2, hk.2⟩⟩⟩)), (by (with_reducible repeat (first | apply qrA | apply qrN | apply qrD)); exact Kd.R_mono HO203.out (fun _ hk => ⟨hk.1.1.1.2, ⟨hk.1.1.2, ⟨hk.1.2, hk.2⟩⟩⟩)), (by (with_reducible repeat (first | refine qkN ?_ _ | refine qkD ?_ | refine qkA ?_ _)); exact BK187.out), (by repeat (first | (with_reducible first | exact HB.out | apply qbA | apply qbN | apply qbD | refine below_set ?_ GE187.out) | exact HB.out))⟩)
     rintro ⟨v196, v199, v202⟩ w24 ⟨h0_, h1_, h2_, h3_, h4_, h5_, h6_⟩
     have n0_ : Aside0 (Kd.R Kd.bool 4 w24 w.heap.size (fun k_ => some k_ ≠ (v193 : Value).ownBlock ∧ some k_ ≠ (v196 : Value).ownBlock ∧ some k_ ≠ (v199 : Value).ownBlock ∧ some k_ ≠ (v202 : Value).ownBlock) (.slice Ao17 t189.length co17) t189) := ⟨h0_⟩
     have n1_ : Aside0 (Kd.R Kd.bool 4 w24 w.heap.size (fun k_ => some k_ ≠ (.slice Ao17 t189.length co17 : Value).ownBlock ∧ some k_ ≠ (v196 : Value).ownBlock ∧ some k_ ≠ (v199 : Value).ownBlock ∧ some k_ ≠ (v202 : Value).ownBlock) v193 t192) := ⟨h1_⟩
     have n2_ : Aside0 (Kd.R Kd.bool 4 w24 w.heap.size (fun k_ => some k_ ≠ (.slice Ao17 t189.length co17 : Value).ownBlock ∧ some k_ ≠ (v193 : Value).ownBlock ∧ some k_ ≠ (v199 : Value).ownBlock ∧ some k_ ≠ (v202 : Value).ownBlock) v196 y195) := ⟨h2_⟩
     have n3_ : Aside0 (Kd.R Kd.bool 4 w24 w.heap.size (fun k_ => some k_ ≠ (.slice Ao17 t189.length co17 : Value).ownBlock ∧ some k_ ≠ (v193 : Value).ownBlock ∧ some k_ ≠ (v196 : Value).ownBlock ∧ some k_ ≠ (v202 : Value).ownBlock) v199 y198) := ⟨h3_⟩
     have n4_ : Aside0 (Kd.R Kd.bool 4 w24 w.heap.size (fun k_ => some k_ ≠ (.slice Ao17 t189.length co17 : Value).ownBlock ∧ some k_ ≠ (v193 : Value).ownBlock ∧ some k_ ≠ (v196 : Value).ownBlock ∧ some k_ ≠ (v199 : Value).ownBlock) v202 y201) := ⟨h4_⟩
     have n5_ : Aside0 (w24.heap[gb187]? = some (.cells #[.int .i64 a0_0, .int .i64 a0_1] 95 (0, 0))) := ⟨h5_⟩
     have n6_ : Aside0 (Below w.heap.size w w24) := ⟨h6_⟩
     clear HO191
     clear HO194
     clear BK187
     clear HB
     clear h0_ h1_ h2_ h3_ h4_ h5_ h6_
     have HO191 := n0_
     have HO194 := n1_
     have HO197 := n2_
     have HO200 := n3_
     have HO203 := n4_
     have BK187 := n5_
     have HB := n6_
     clear n0_ n1_ n2_ n3_ n4_ n5_ n6_
     have hHeld := trivial
     refine norm_ (a' := ?_) ?_ ?_
     rotate_left
     ·
      simp only [putAll, Act.put, qsI, qs0, qsS]
      rfl
     refine pure_ (i := 11) (N := some 12) (v := ?_) (a' := ?_) #[true, true, true, true, true, true, true, true, true, true, true, true] rfl rfl (any_of HT_.out (by kernel_rfl)) (fun _ _ _ h => h) (Or.inl ⟨by rfl, ?_⟩) ?_ ?_
     rotate_left
     ·
      intro w'
      go_simp
      with_reducible rfl
     rotate_left
     ·
      simp only [Act.put, qsI, qs0, qsS, i64_w, i32_w]
      rfl
     refine done_ (done_of HT_.out (by kernel_rfl)) ?_
     try go_wp2
     go_loopg [31] kj4 (fun kq v31 w' => ∃ (x10_2 : List Bool) (x11_2 : List Bool) (x12_2 : List Bool) (x31_2 : Int), v31 = .int .i64 x31_2 ∧ Aside0 (wracklaw1_SpanSets.l0 kq l1 l2 x7_4 t189 t192 x10_2 x11_2 x12_2 (t189.length : Int) x31_2 a0_0 a0_1 = some r) ∧ Aside0 (kq ≤ kj4) ∧ Aside0 (Kd.R Kd.bool 4 w' w.heap.size (fun k_ => some k_ ≠ (v193 : Value).ownBlock ∧ some k_ ≠ (v196 : Value).ownBlock ∧ some k_ ≠ (v199 : Value).ownBlock ∧ some k_ ≠ (v202 : Value).ownBlock) (.slice Ao17 t189.length co17) t189) ∧ Aside0 (Kd.R Kd.bool 4 w' w.heap.size (fun k_ => some k_ ≠ ((.slice Ao17 t189.length co17) : Value).ownBlock ∧ some k_ ≠ (v196 : Value).ownBlock ∧ some k_ ≠ (v199 : Value).ownBlock ∧ some k_ ≠ (v202 : Value).ownBlock) v193 t192) ∧ Aside0 (Kd.R Kd.bool 4 w' w.heap.size (fun k_ => some k_ ≠ ((.slice Ao17 t189.length co17) : Value).ownBlock ∧ some k_ ≠ (v193 : Value).ownBlock ∧ some k_ ≠ (v199 : Value).ownBlock ∧ some k_ ≠ (v202 : Value).ownBlock) v196 x10_2) ∧ Aside0 (Kd.R Kd.bool 4 w' w.heap.size (fun k_ => some k_ ≠ ((.slice Ao17 t189.length co17) : Value).ownBlock ∧ some k_ ≠ (v193 : Value).ownBlock ∧ some k_ ≠ (v196 : Value).ownBlock ∧ some k_ ≠ (v202 : Value).ownBlock) v199 x11_2) ∧ Aside0 (Kd.R Kd.bool 4 w' w.heap.size (fun k_ => some k_ ≠ ((.slice Ao17 t189.length co17) : Value).ownBlock ∧ some k_ ≠ (v193 : Value).ownBlock ∧ some k_ ≠ (v196 : Value).ownBlock ∧ some k_ ≠ (v199 : Value).ownBlock) v202 x12_2) ∧ Aside0 (w'.heap[gb187]? = some (.cells #[.int .i64 a0_0, .int .i64 a0_1] 95 (0, 0))) ∧ Aside0 (Below w.heap.size w w'))
     case atStart => exact ⟨(y195), (y198), (y201), (0), (by first | rfl | (simp; done) | (simp [*]; done)), H', ⟨Nat.le_refl _⟩, ⟨by (with_reducible repeat (first | apply qrA | apply qrN | apply qrD)); exact HO191.out⟩, ⟨by (with_reducible repeat (first | apply qrA | apply qrN | apply qrD)); exact HO194.out⟩, ⟨by (with_reducible repeat (first | apply qrA | apply qrN | apply qrD)); exact HO197.out⟩, ⟨by (with_reducible repeat (first | apply qrA | apply qrN | apply qrD)); exact HO200.out⟩, ⟨by (with_reducible repeat (first | apply qrA | apply qrN | apply qrD)); exact HO203.out⟩, ⟨by (with_reducible repeat (first | refine qkN ?_ _ | refine qkD ?_ | refine qkA ?_ _)); exact BK187.out⟩, ⟨by repeat (first | (with_reducible first | exact HB.out | apply qbA | apply qbN | apply qbD | refine below_set ?_ GE187.out) | exact HB.out)⟩⟩
     case round =>
      clear H'
      try clear p2
      obtain ⟨x10_2, x11_2, x12_2, x31_2, rfl, HA, HK2, HO_8, HO_9, HO_10, HO_11, HO_12, BK187, HB⟩ := hrel
      cases gk with
      | zero => exact absurd HA.out (by simp [wracklaw1_SpanSets.l0])
      | succ k2 =>
       have H := HA.out
       clear HA
       simp only [wracklaw1_SpanSets.l0] at H
       by_cases c25 : x31_2 < (t189.length : Int)
       ·
        rw [if_pos c25] at H
        have c25b0 : decide (x31_2 < (t189.length : Int)) = true := decide_eq_true c25
        clear c25
        by_cases c26 : 0 ≤ x31_2
        ·
         rw [if_pos c26] at H
         have c26b0 : decide (0 ≤ x31_2) = true := decide_eq_true c26
         clear c26
         by_cases c27 : x31_2 < (t189.length : Int)
         ·
          rw [if_pos c27] at H
          have c27b0 : decide (x31_2 < (t189.length : Int)) = true := decide_eq_true c27
          clear c27
          obtain ⟨bq28, hbq28⟩ : ∃ b_ : Bool, b_ = (rdOf false t189 x31_2) := ⟨_, rfl⟩
          replace H : (if bq28 = true then (if x31_2 < (t192.length : Int) then (if x31_2 < (x10_2.length : Int) then (if x31_2 < (x11_2.length : Int) then (if x31_2 < (x12_2.length : Int) then (wracklaw1_SpanSets.l0 k2 l1 l2 x7_4 t189 t192 (x10_2.set (x31_2 : Int).toNat true) (x11_2.set (x31_2 : Int).toNat (rdOf false t192 x31_2)) (x12_2.set (x31_2 : Int).toNat (!(rdOf false t192 x31_2))) (t189.length : Int) (wrap64 (x31_2 + 1)) a0_0 a0_1) else (none)) else (none)) else (none)) else (none)) else (if x31_2 < (t192.length : Int) then (if x31_2 < (x10_2.length : Int) then (if x31_2 < (x11_2.length : Int) then (if x31_2 < (x12_2.length : Int) then (wracklaw1_SpanSets.l0 k2 l1 l2 x7_4 t189 t192 (x10_2.set (x31_2 : Int).toNat (rdOf false t192 x31_2)) (x11_2.set (x31_2 : Int).toNat false) (x12_2.set (x31_2 : Int).toNat false) (t189.length : Int) (wrap64 (x31_2 + 1)) a0_0 a0_1) else (none)) else (none)) else (none)) else (none))) = some r := by rw [← hbq28] at H; exact H
          have Nbq28 := Aside0.mk hbq28
          clear hbq28
          by_cases c29 : bq28 = true
          ·
           subst c29
           have H1 : (if x31_2 < (t192.length : Int) then (if x31_2 < (x10_2.length : Int) then (if x31_2 < (x11_2.length : Int) then (if x31_2 < (x12_2.length : Int) then (wracklaw1_SpanSets.l0 k2 l1 l2 x7_4 t189 t192 (x10_2.set (x31_2 : Int).toNat true) (x11_2.set (x31_2 : Int).toNat (rdOf false t192 x31_2)) (x12_2.set (x31_2 : Int).toNat (!(rdOf false t192 x31_2))) (t189.length : Int) (wrap64 (x31_2 + 1)) a0_0 a0_1) else (none)) else (none)) else (none)) else (none)) = some r := by rw [if_pos rfl] at H; exact H
           clear H
           have H := H1
           clear H1
           by_cases c30 : x31_2 < (t192.length : Int)
           ·
            rw [if_pos c30] at H
            have c30b0 : decide (x31_2 < (t192.length : Int)) = true := decide_eq_true c30
            clear c30
            by_cases c31 : x31_2 < (x10_2.length : Int)
            ·
             rw [if_pos c31] at H
             have c31b0 : decide (x31_2 < (x10_2.length : Int)) = true := decide_eq_true c31
             clear c31
             obtain ⟨y209, hy209⟩ : ∃ y_ : List Bool, y_ = (x10_2.set (x31_2 : Int).toNat true) := ⟨_, rfl⟩
             replace H : (if x31_2 < (x11_2.length : Int) then (if x31_2 < (x12_2.length : Int) then (wracklaw1_SpanSets.l0 k2 l1 l2 x7_4 t189 t192 y209 (x11_2.set (x31_2 : Int).toNat (rdOf false t192 x31_2)) (x12_2.set (x31_2 : Int).toNat (!(rdOf false t192 x31_2))) (t189.length : Int) (wrap64 (x31_2 + 1)) a0_0 a0_1) else (none)) else (none)) = some r := by first | (rw [hy209]; with_reducible exact H) | (have H2_ := (Option.bind_some _ _).symm.trans H; rw [hy209]; with_reducible exact H2_) | (have H2_ := (Option.bind_some _ _).symm.trans H; with_reducible exact H2_) | with_reducible exact H | (rw [hy209]; exact H) | exact H
             have Ny209 := Aside0.mk hy209
             clear hy209
             by_cases c33 : x31_2 < (x11_2.length : Int)
             ·
              rw [if_pos c33] at H
              have c33b0 : decide (x31_2 < (x11_2.length : Int)) = true := decide_eq_true c33
              clear c33
              obtain ⟨y210, hy210⟩ : ∃ y_ : List Bool, y_ = (x11_2.set (x31_2 : Int).toNat (rdOf false t192 x31_2)) := ⟨_, rfl⟩
              replace H : (if x31_2 < (x12_2.length : Int) then (wracklaw1_SpanSets.l0 k2 l1 l2 x7_4 t189 t192 y209 y210 (x12_2.set (x31_2 : Int).toNat (!(rdOf false t192 x31_2))) (t189.length : Int) (wrap64 (x31_2 + 1)) a0_0 a0_1) else (none)) = some r := by first | (rw [hy210]; with_reducible exact H) | (have H2_ := (Option.bind_some _ _).symm.trans H; rw [hy210]; with_reducible exact H2_) | (have H2_ := (Option.bind_some _ _).symm.trans H; with_reducible exact H2_) | with_reducible exact H | (rw [hy210]; exact H) | exact H
              have Ny210 := Aside0.mk hy210
              clear hy210
              by_cases c35 : x31_2 < (x12_2.length : Int)
              ·
               rw [if_pos c35] at H
               have c35b0 : decide (x31_2 < (x12_2.length : Int)) = true := decide_eq_true c35
               clear c35
               obtain ⟨y211, hy211⟩ : ∃ y_ : List Bool, y_ = (x12_2.set (x31_2 : Int).toNat (!(rdOf false t192 x31_2))) := ⟨_, rfl⟩
               replace H : (wracklaw1_SpanSets.l0 k2 l1 l2 x7_4 t189 t192 y209 y210 y211 (t189.length : Int) (wrap64 (x31_2 + 1)) a0_0 a0_1) = some r := by first | (rw [hy211]; with_reducible exact H) | (have H2_ := (Option.bind_some _ _).symm.trans H; rw [hy211]; with_reducible exact H2_) | (have H2_ := (Option.bind_some _ _).symm.trans H; with_reducible exact H2_) | with_reducible exact H | (rw [hy211]; exact H) | exact H
               have Ny211 := Aside0.mk hy211
               clear hy211
               have H' := Aside0.mk H
               clear H
               try go_wp2
               have n0_ := Aside0.mk (qrD HO_8.out)
               have n1_ := Aside0.mk (qrD HO_9.out)
               have n2_ := Aside0.mk (qrD HO_10.out)
               have n3_ := Aside0.mk (qrD HO_11.out)
               have n4_ := Aside0.mk (qrD HO_12.out)
               have n5_ := Aside0.mk (qkD BK187.out)
               have n6_ := Aside0.mk (qbD HB.out)
               clear HO_8
               clear HO_9
               clear HO_10
               clear HO_11
               clear HO_12
               clear BK187
               clear HB
               have HO_8 := n0_
               have HO_9 := n1_
               have HO_10 := n2_
               have HO_11 := n3_
               have HO_12 := n4_
               have BK187 := n5_
               have HB := n6_
               clear n0_ n1_ n2_ n3_ n4_ n5_ n6_
               have p204 : 0 ≤ (x31_2 : Int) := of_decide_eq_true (by first | (with_reducible assumption) | assumption)
               have q204 : x31_2 < (t189.length : Int) := of_decide_eq_true (by first | (with_reducible assumption) | assumption)
               obtain ⟨ad204, e204, hx204_0⟩ := Kd.at_bool (Kd.R_reads' HO_8.out).2.2 x31_2 p204 q204
               (try rw [← Nbq28.out] at hx204_0)
               cases e204
               replace p204 := eq_true p204
               replace q204 := eq_true q204
               have p205 : 0 ≤ (x31_2 : Int) := of_decide_eq_true (by first | (with_reducible assumption) | assumption)
               have q205 : x31_2 < (t189.length : Int) := of_decide_eq_true (by first | (with_reducible assumption) | assumption)
               obtain ⟨ad205, e205, hx205_0⟩ := Kd.at_bool (Kd.R_reads' HO_8.out).2.2 x31_2 p205 q205
               (try rw [← Nbq28.out] at hx205_0)
               obtain rfl : ad204 = ad205 := (by injection e205)
               replace p205 := eq_true p205
               replace q205 := eq_true q205
               obtain ⟨Ao38, co38, eo38⟩ := Kd.R_slice HO_9.out
               (first | subst eo38 | (injection eo38 with f1_ f2_ f3_; have f4_ := f1_.symm; have f5_ := f3_.symm; clear f1_ f2_ f3_; subst f4_; subst f5_))
               have p206 : 0 ≤ (x31_2 : Int) := of_decide_eq_true (by first | (with_reducible assumption) | assumption)
               have q206 : x31_2 < (t192.length : Int) := of_decide_eq_true (by first | (with_reducible assumption) | assumption)
               obtain ⟨ad206, e206, hx206_0⟩ := Kd.at_bool (Kd.R_reads' HO_9.out).2.2 x31_2 p206 q206
               (try rw [← Nbq28.out] at hx206_0)
               cases e206
               replace p206 := eq_true p206
               replace q206 := eq_true q206
               have p207 : 0 ≤ (x31_2 : Int) := of_decide_eq_true (by first | (with_reducible assumption) | assumption)
               have q207 : x31_2 < (t189.length : Int) := of_decide_eq_true (by first | (with_reducible assumption) | assumption)
               obtain ⟨ad207, e207, hx207_0⟩ := Kd.at_bool (Kd.R_reads' HO_8.out).2.2 x31_2 p207 q207
               (try rw [← Nbq28.out] at hx207_0)
               obtain rfl : ad204 = ad207 := (by injection e207)
               replace p207 := eq_true p207
               replace q207 := eq_true q207
               have p208 : 0 ≤ (x31_2 : Int) := of_decide_eq_true (by first | (with_reducible assumption) | assumption)
               have q208 : x31_2 < (t192.length : Int) := of_decide_eq_true (by first | (with_reducible assumption) | assumption)
               obtain ⟨ad208, e208, hx208_0⟩ := Kd.at_bool (Kd.R_reads' HO_9.out).2.2 x31_2 p208 q208
               (try rw [← Nbq28.out] at hx208_0)
               obtain rfl : ad206 = ad208 := (by injection e208)
               replace p208 := eq_true p208
               replace q208 := eq_true q208
               have p32 : 0 ≤ (x31_2 : Int) := of_decide_eq_true (by first | (with_reducible assumption) | assumption)
               have q32 : (x31_2 : Int) < ((x10_2.length : Int) : Int) := of_decide_eq_true (by first | (with_reducible assumption) | assumption)
               obtain ⟨go32, co32, eo32, gb32, gl32, cl32, HG32⟩ := Kd.R_form HO_10.out (by omega)
               (first | cases eo32 | (injection eo32 with ea_ en_ ec_; (first | subst ea_ | (injection ea_ with ea_; subst ea_)); subst ec_; clear en_))
               have GB32 := Aside0.mk gb32
               have GG32 := Aside0.mk HG32
               clear gb32 gl32 HG32
               obtain ⟨hx32_0, hf32_0⟩ := Kd.R_celln false HO_10.out (x31_2 : Int) p32 q32
               replace p32 := eq_true p32
               replace q32 := eq_true q32
               have HP39 := Kd.R_putn HO_10.out (x31_2 : Int) true
               rw [← Ny209.out] at HP39
               have HQ39 := Aside0.mk HP39
               clear HP39
               have p34 : 0 ≤ (x31_2 : Int) := of_decide_eq_true (by first | (with_reducible assumption) | assumption)
               have q34 : (x31_2 : Int) < ((x11_2.length : Int) : Int) := of_decide_eq_true (by first | (with_reducible assumption) | assumption)
               obtain ⟨go34, co34, eo34, gb34, gl34, cl34, HG34⟩ := Kd.R_form HO_11.out (by omega)
               (first | cases eo34 | (injection eo34 with ea_ en_ ec_; (first | subst ea_ | (injection ea_ with ea_; subst ea_)); subst ec_; clear en_))
               have GB34 := Aside0.mk gb34
               have GG34 := Aside0.mk HG34
               clear gb34 gl34 HG34
               obtain ⟨hx34_0, hf34_0⟩ := Kd.R_celln false (Kd.R_far (p := ⟨go32, (x31_2 : Int).toNat, none⟩) (Kd.R_mono HO_11.out (fun k_ hk => (⟨hk, fun e_ => hk.2.2.1 (by rw [e_]; rfl)⟩ : _ ∧ k_ ≠ go32))) (fun _ hk => hk.2) (.bool true)) (x31_2 : Int) p34 q34
               replace p34 := eq_true p34
               replace q34 := eq_true q34
               have HP40 := Kd.R_putn (Kd.R_far (p := ⟨go32, (x31_2 : Int).toNat, none⟩) (Kd.R_mono HO_11.out (fun k_ hk => (⟨hk, fun e_ => hk.2.2.1 (by rw [e_]; rfl)⟩ : _ ∧ k_ ≠ go32))) (fun _ hk => hk.2) (.bool true)) (x31_2 : Int) (rdOf false t192 x31_2)
               rw [← Ny210.out] at HP40
               have HQ40 := Aside0.mk HP40
               clear HP40
               have p36 : 0 ≤ (x31_2 : Int) := of_decide_eq_true (by first | (with_reducible assumption) | assumption)
               have q36 : (x31_2 : Int) < ((x12_2.length : Int) : Int) := of_decide_eq_true (by first | (with_reducible assumption) | assumption)
               obtain ⟨go36, co36, eo36, gb36, gl36, cl36, HG36⟩ := Kd.R_form HO_12.out (by omega)
               (first | cases eo36 | (injection eo36 with ea_ en_ ec_; (first | subst ea_ | (injection ea_ with ea_; subst ea_)); subst ec_; clear en_))
               have GB36 := Aside0.mk gb36
               have GG36 := Aside0.mk HG36
               clear gb36 gl36 HG36
               obtain ⟨hx36_0, hf36_0⟩ := Kd.R_celln false (Kd.R_far (p := ⟨go34, (x31_2 : Int).toNat, none⟩) (Kd.R_far (p := ⟨go32, (x31_2 : Int).toNat, none⟩) (Kd.R_mono (Kd.R_mono HO_12.out (fun k_ hk => (⟨hk, fun e_ => hk.2.2.1 (by rw [e_]; rfl)⟩ : _ ∧ k_ ≠ go32))) (fun k_ hk => (⟨hk, fun e_ => hk.1.2.2.2 (by rw [e_]; rfl)⟩ : _ ∧ k_ ≠ go34))) (fun _ hk => hk.1.2) (.bool true)) (fun _ hk => hk.2) (.bool (rdOf false t192 x31_2))) (x31_2 : Int) p36 q36
               replace p36 := eq_true p36
               replace q36 := eq_true q36
               have HP41 := Kd.R_putn (Kd.R_far (p := ⟨go34, (x31_2 : Int).toNat, none⟩) (Kd.R_far (p := ⟨go32, (x31_2 : Int).toNat, none⟩) (Kd.R_mono (Kd.R_mono HO_12.out (fun k_ hk => (⟨hk, fun e_ => hk.2.2.1 (by rw [e_]; rfl)⟩ : _ ∧ k_ ≠ go32))) (fun k_ hk => (⟨hk, fun e_ => hk.1.2.2.2 (by rw [e_]; rfl)⟩ : _ ∧ k_ ≠ go34))) (fun _ hk => hk.1.2) (.bool true)) (fun _ hk => hk.2) (.bool (rdOf false t192 x31_2))) (x31_2 : Int) (!(rdOf false t192 x31_2))
               rw [← Ny211.out] at HP41
               have HQ41 := Aside0.mk HP41
               clear HP41
               refine start_ (n := 43) (S := fun w' => w'.cell? (ad204.add (x31_2).toNat) = some (.bool true) ∧ w'.cell? (ad204.add (x31_2).toNat) = some (.bool (true)) ∧ w'.cell? (ad206.add (x31_2).toNat) = some (.bool (rdOf false t192 x31_2)) ∧ w'.cell? (ad204.add (x31_2).toNat) = some (.bool (true)) ∧ w'.cell? (ad206.add (x31_2).toNat) = some (.bool (rdOf false t192 x31_2))) (ds := [38, 40, 42]) #[false, false, false, false, false, false, false, false, false, false, false, false, false, false, false, false, false, false, false, false, false, false, false, false, false, false, false, false, false, false, false, false, false, false, false, false, false, false, false, false, false, false, false] (by kernel_rfl) rfl rfl ⟨hx204_0, hx205_0, hx206_0, hx207_0, hx208_0⟩ (fun hHeld => ?_); refine with_tabW wracklaw1_SpanSets.tab9 wracklaw1_SpanSets.bits9 (fun HT_ HW_ => ?_)
               generalize wr.drew = w37 at HO_8 HO_9 HO_10 HO_11 HO_12 BK187 HB GG32 GG34 GG36 HQ39 HQ40 HQ41 hf32_0 hf34_0 hf36_0 hx204_0 hx205_0 hx206_0 hx207_0 hx208_0 hx32_0 hx34_0 hx36_0 hHeld ⊢
               refine pure_ (i := 0) (N := some 34) (v := ?_) (a' := ?_) #[true, false, false, false, false, false, false, false, false, false, false, false, false, false, false, false, false, false, false, false, false, false, false, false, false, false, false, false, false, false, false, false, false, false, false, false, false, false, false, false, false, false, false] rfl rfl (any_of HT_.out (by kernel_rfl)) (fun _ _ _ h => h) (Or.inl ⟨by rfl, ?_⟩) ?_ ?_
               rotate_left
               ·
                intro w'
                go_simp
                with_reducible rfl
               rotate_left
               ·
                simp only [Act.put, qsI, qs0, qsS, i64_w, i32_w]
                rfl
               refine pure_ (i := 1) (N := some 35) (v := ?_) (a' := ?_) #[true, true, false, false, false, false, false, false, false, false, false, false, false, false, false, false, false, false, false, false, false, false, false, false, false, false, false, false, false, false, false, false, false, false, false, false, false, false, false, false, false, false, false] rfl rfl (any_of HT_.out (by kernel_rfl)) (fun _ _ _ h => h) (Or.inl ⟨by rfl, ?_⟩) ?_ ?_
               rotate_left
               ·
                intro w'
                go_simp
                with_reducible rfl
               rotate_left
               ·
                simp only [Act.put, qsI, qs0, qsS, i64_w, i32_w]
                rfl
               refine pure_ (i := 2) (N := some 36) (v := ?_) (a' := ?_) #[true, true, true, false, false, false, false, false, false, false, false, false, false, false, false, false, false, false, false, false, false, false, false, false, false, false, false, false, false, false, false, false, false, false, false, false, false, false, false, false, false, false, false] rfl rfl (any_of HT_.out (by kernel_rfl)) (fun _ _ _ h => h) (Or.inl ⟨by rfl, ?_⟩) ?_ ?_
               rotate_left
               ·
                intro w'
                go_simp
                with_reducible rfl
               rotate_left
               ·
                simp only [Act.put, qsI, qs0, qsS, i64_w, i32_w]
                rfl
               refine pure_ (i := 3) (N := some 37) (v := ?_) (a' := ?_) #[true, true, true, true, false, false, false, false, false, false, false, false, false, false, false, false, false, false, false, false, false, false, false, false, false, false, false, false, false, false, false, false, false, false, false, false, false, false, false, false, false, false, false] rfl rfl (any_of HT_.out (by kernel_rfl)) (fun _ _ _ h => h) (Or.inl ⟨by rfl, ?_⟩) ?_ ?_
               rotate_left
               ·
                intro w'
                go_simp
                with_reducible rfl
               rotate_left
               ·
                simp only [Act.put, qsI, qs0, qsS, i64_w, i32_w]
                rfl
               refine pure_ (i := 4) (N := some 38) (v := ?_) (a' := ?_) #[true, true, true, true, true, false, false, false, false, false, false, false, false, false, false, false, false, false, false, false, false, false, false, false, false, false, false, false, false, false, false, false, false, false, false, false, false, false, false, false, false, false, false] rfl rfl (any_of HT_.out (by kernel_rfl)) (fun _ _ _ h => h) (Or.inl ⟨by rfl, ?_⟩) ?_ ?_
               rotate_left
               ·
                intro w'
                go_simp
                with_reducible rfl
               rotate_left
               ·
                simp only [Act.put, qsI, qs0, qsS, i64_w, i32_w]
                rfl
               refine pure_ (i := 5) (N := some 39) (v := ?_) (a' := ?_) #[true, true, true, true, true, true, false, false, false, false, false, false, false, false, false, false, false, false, false, false, false, false, false, false, false, false, false, false, false, false, false, false, false, false, false, false, false, false, false, false, false, false, false] rfl rfl (any_of HT_.out (by kernel_rfl)) (fun _ _ _ h => h) (Or.inl ⟨by rfl, ?_⟩) ?_ ?_
               rotate_left
               ·
                intro w'
                go_simp
                with_reducible rfl
               rotate_left
               ·
                simp only [Act.put, qsI, qs0, qsS, i64_w, i32_w]
                rfl
               refine pure_ (i := 6) (N := some 40) (v := ?_) (a' := ?_) #[true, true, true, true, true, true, true, false, false, false, false, false, false, false, false, false, false, false, false, false, false, false, false, false, false, false, false, false, false, false, false, false, false, false, false, false, false, false, false, false, false, false, false] rfl rfl (any_of HT_.out (by kernel_rfl)) (fun _ _ _ h => h) (Or.inl ⟨by rfl, ?_⟩) ?_ ?_
               rotate_left
               ·
                intro w'
                go_simp
                with_reducible rfl
               rotate_left
               ·
                simp only [Act.put, qsI, qs0, qsS, i64_w, i32_w]
                rfl
               refine pure_ (i := 7) (N := some 41) (v := ?_) (a' := ?_) #[true, true, true, true, true, true, true, true, false, false, false, false, false, false, false, false, false, false, false, false, false, false, false, false, false, false, false, false, false, false, false, false, false, false, false, false, false, false, false, false, false, false, false] rfl rfl (any_of HT_.out (by kernel_rfl)) (fun _ _ _ h => h) (Or.inl ⟨by rfl, ?_⟩) ?_ ?_
               rotate_left
               ·
                intro w'
                go_simp
                with_reducible rfl
               rotate_left
               ·
                simp only [Act.put, qsI, qs0, qsS, i64_w, i32_w]
                rfl
               refine pure_ (i := 8) (N := some 42) (v := ?_) (a' := ?_) #[true, true, true, true, true, true, true, true, true, false, false, false, false, false, false, false, false, false, false, false, false, false, false, false, false, false, false, false, false, false, false, false, false, false, false, false, false, false, false, false, false, false, false] rfl rfl (any_of HT_.out (by kernel_rfl)) (fun _ _ _ h => h) (Or.inl ⟨by rfl, ?_⟩) ?_ ?_
               rotate_left
               ·
                intro w'
                go_simp
                with_reducible rfl
               rotate_left
               ·
                simp only [Act.put, qsI, qs0, qsS, i64_w, i32_w]
                rfl
               refine pure_ (i := 16) (N := some 50) (v := ?_) (a' := ?_) #[true, true, true, true, true, true, true, true, true, false, false, false, false, false, false, false, true, false, false, false, false, false, false, false, false, false, false, false, false, false, false, false, false, false, false, false, false, false, false, false, false, false, false] rfl rfl (any_of HT_.out (by kernel_rfl)) (fun _ _ _ h => h) (Or.inl ⟨by rfl, ?_⟩) ?_ ?_
               rotate_left
               ·
                intro w'
                go_simp
                with_reducible rfl
               rotate_left
               ·
                simp only [Act.put, qsI, qs0, qsS, i64_w, i32_w]
                rfl
               refine pure_ (i := 17) (N := some 51) (v := ?_) (a' := ?_) #[true, true, true, true, true, true, true, true, true, false, false, false, false, false, false, false, true, true, false, false, false, false, false, false, false, false, false, false, false, false, false, false, false, false, false, false, false, false, false, false, false, false, false] rfl rfl (any_of HT_.out (by kernel_rfl)) (fun _ _ _ h => h) (Or.inl ⟨by rfl, ?_⟩) ?_ ?_
               rotate_left
               ·
                intro w'
                go_simp
                with_reducible rfl
               rotate_left
               ·
                simp only [Act.put, qsI, qs0, qsS, i64_w, i32_w]
                rfl
               refine pure_ (i := 18) (N := some 52) (v := ?_) (a' := ?_) #[true, true, true, true, true, true, true, true, true, false, false, false, false, false, false, false, true, true, true, false, false, false, false, false, false, false, false, false, false, false, false, false, false, false, false, false, false, false, false, false, false, false, false] rfl rfl (any_of HT_.out (by kernel_rfl)) (fun _ _ _ h => h) (Or.inl ⟨by rfl, ?_⟩) ?_ ?_
               rotate_left
               ·
                intro w'
                go_simp
                with_reducible rfl
               rotate_left
               ·
                simp only [Act.put, qsI, qs0, qsS, i64_w, i32_w]
                rfl
               refine pure_ (i := 26) (N := some 60) (v := ?_) (a' := ?_) #[true, true, true, true, true, true, true, true, true, false, false, false, false, false, false, false, true, true, true, false, false, false, false, false, false, false, true, false, false, false, false, false, false, false, false, false, false, false, false, false, false, false, false] rfl rfl (any_of HT_.out (by kernel_rfl)) (fun _ _ _ h => h) (Or.inl ⟨by rfl, ?_⟩) ?_ ?_
               rotate_left
               ·
                intro w'
                go_simp
                with_reducible rfl
               rotate_left
               ·
                simp only [Act.put, qsI, qs0, qsS, i64_w, i32_w]
                rfl
               refine pure_ (i := 27) (N := some 61) (v := ?_) (a' := ?_) #[true, true, true, true, true, true, true, true, true, false, false, false, false, false, false, false, true, true, true, false, false, false, false, false, false, false, true, true, false, false, false, false, false, false, false, false, false, false, false, false, false, false, false] rfl rfl (any_of HT_.out (by kernel_rfl)) (fun _ _ _ h => h) (Or.inl ⟨by rfl, ?_⟩) ?_ ?_
               rotate_left
               ·
                intro w'
                go_simp
                with_reducible rfl
               rotate_left
               ·
                simp only [Act.put, qsI, qs0, qsS, i64_w, i32_w]
                rfl
               refine pure_ (i := 28) (N := some 62) (v := ?_) (a' := ?_) #[true, true, true, true, true, true, true, true, true, false, false, false, false, false, false, false, true, true, true, false, false, false, false, false, false, false, true, true, true, false, false, false, false, false, false, false, false, false, false, false, false, false, false] rfl rfl (any_of HT_.out (by kernel_rfl)) (fun _ _ _ h => h) (Or.inl ⟨by rfl, ?_⟩) ?_ ?_
               rotate_left
               ·
                intro w'
                go_simp
                with_reducible rfl
               rotate_left
               ·
                simp only [Act.put, qsI, qs0, qsS, i64_w, i32_w]
                rfl
               refine take_ (i := 9) (N := some 43) (v := ?_) (a' := ?_) #[true, true, true, true, true, true, true, true, true, true, false, false, false, false, false, false, true, true, true, false, false, false, false, false, false, false, true, true, true, false, false, false, false, false, false, false, false, false, false, false, false, false, false] rfl rfl (take_ofW HT_.out HW_.out (by kernel_rfl)) (fun _ _ _ h => h) (Or.inl ⟨by rfl, ?_⟩) hHeld ?_ ?_
               rotate_left
               ·
                rintro w' ⟨s0, s1, s2, s3, s4⟩
                go_simp
                with_reducible rfl
               rotate_left
               ·
                simp only [Act.put, qsI, qs0, qsS, i64_w, i32_w]
                rfl
               refine pure_ (i := 10) (N := some 44) (v := ?_) (a' := ?_) #[true, true, true, true, true, true, true, true, true, true, true, false, false, false, false, false, true, true, true, false, false, false, false, false, false, false, true, true, true, false, false, false, false, false, false, false, false, false, false, false, false, false, false] rfl rfl (any_of HT_.out (by kernel_rfl)) (fun _ _ _ h => h) (Or.inl ⟨by rfl, ?_⟩) ?_ ?_
               rotate_left
               ·
                intro w'
                go_simp
                with_reducible rfl
               rotate_left
               ·
                simp only [Act.put, qsI, qs0, qsS, i64_w, i32_w]
                rfl
               refine pure_ (i := 11) (N := some 45) (v := undef) (a' := ?_) #[true, true, true, true, true, true, true, true, true, true, true, true, false, false, false, false, true, true, true, false, false, false, false, false, false, false, true, true, true, false, false, false, false, false, false, false, false, false, false, false, false, false, false] rfl rfl (any_of HT_.out (by kernel_rfl)) (fun _ _ _ h => h) (Or.inr ⟨by rfl, rfl⟩) ?_ ?_
               rotate_left
               ·
                simp only [Act.put, qsI, qs0, qsS, i64_w, i32_w]
                rfl
               refine pure_ (i := 12) (N := some 46) (v := undef) (a' := ?_) #[true, true, true, true, true, true, true, true, true, true, true, true, true, false, false, false, true, true, true, false, false, false, false, false, false, false, true, true, true, false, false, false, false, false, false, false, false, false, false, false, false, false, false] rfl rfl (any_of HT_.out (by kernel_rfl)) (fun _ _ _ h => h) (Or.inr ⟨by rfl, rfl⟩) ?_ ?_
               rotate_left
               ·
                simp only [Act.put, qsI, qs0, qsS, i64_w, i32_w]
                rfl
               refine pure_ (i := 13) (N := some 47) (v := undef) (a' := ?_) #[true, true, true, true, true, true, true, true, true, true, true, true, true, true, false, false, true, true, true, false, false, false, false, false, false, false, true, true, true, false, false, false, false, false, false, false, false, false, false, false, false, false, false] rfl rfl (any_of HT_.out (by kernel_rfl)) (fun _ _ _ h => h) (Or.inr ⟨by rfl, rfl⟩) ?_ ?_
               rotate_left
               ·
                simp only [Act.put, qsI, qs0, qsS, i64_w, i32_w]
                rfl
               refine pure_ (i := 14) (N := some 48) (v := undef) (a' := ?_) #[true, true, true, true, true, true, true, true, true, true, true, true, true, true, true, false, true, true, true, false, false, false, false, false, false, false, true, true, true, false, false, false, false, false, false, false, false, false, false, false, false, false, false] rfl rfl (any_of HT_.out (by kernel_rfl)) (fun _ _ _ h => h) (Or.inr ⟨by rfl, rfl⟩) ?_ ?_
               rotate_left
               ·
                simp only [Act.put, qsI, qs0, qsS, i64_w, i32_w]
                rfl
               refine pure_ (i := 15) (N := some 49) (v := ?_) (a' := ?_) #[true, true, true, true, true, true, true, true, true, true, true, true, true, true, true, true, true, true, true, false, false, false, false, false, false, false, true, true, true, false, false, false, false, false, false, false, false, false, false, false, false, false, false] rfl rfl (any_of HT_.out (by kernel_rfl)) (fun _ _ _ h => h) (Or.inl ⟨by rfl, ?_⟩) ?_ ?_
               rotate_left
               ·
                intro w'
                go_simp
                with_reducible rfl
               rotate_left
               ·
                simp only [Act.put, qsI, qs0, qsS, i64_w, i32_w]
                rfl
               refine take_ (i := 19) (N := some 53) (v := ?_) (a' := ?_) #[true, true, true, true, true, true, true, true, true, true, true, true, true, true, true, true, true, true, true, true, false, false, false, false, false, false, true, true, true, false, false, false, false, false, false, false, false, false, false, false, false, false, false] rfl rfl (take_ofW HT_.out HW_.out (by kernel_rfl)) (fun _ _ _ h => h) (Or.inl ⟨by rfl, ?_⟩) hHeld ?_ ?_
               rotate_left
               ·
                rintro w' ⟨s0, s1, s2, s3, s4⟩
                go_simp
                with_reducible rfl
               rotate_left
               ·
                simp only [Act.put, qsI, qs0, qsS, i64_w, i32_w]
                rfl
               refine pure_ (i := 20) (N := some 54) (v := ?_) (a' := ?_) #[true, true, true, true, true, true, true, true, true, true, true, true, true, true, true, true, true, true, true, true, true, false, false, false, false, false, true, true, true, false, false, false, false, false, false, false, false, false, false, false, false, false, false] rfl rfl (any_of HT_.out (by kernel_rfl)) (fun _ _ _ h => h) (Or.inl ⟨by rfl, ?_⟩) ?_ ?_
               rotate_left
               ·
                intro w'
                go_simp
                with_reducible rfl
               rotate_left
               ·
                simp only [Act.put, qsI, qs0, qsS, i64_w, i32_w]
                rfl
               refine pure_ (i := 21) (N := some 55) (v := ?_) (a' := ?_) #[true, true, true, true, true, true, true, true, true, true, true, true, true, true, true, true, true, true, true, true, true, true, false, false, false, false, true, true, true, false, false, false, false, false, false, false, false, false, false, false, false, false, false] rfl rfl (any_of HT_.out (by kernel_rfl)) (fun _ _ _ h => h) (Or.inl ⟨by rfl, ?_⟩) ?_ ?_
               rotate_left
               ·
                intro w'
                go_simp
                with_reducible rfl
               rotate_left
               ·
                simp only [Act.put, qsI, qs0, qsS, i64_w, i32_w]
                rfl
               refine pure_ (i := 22) (N := some 56) (v := ?_) (a' := ?_) #[true, true, true, true, true, true, true, true, true, true, true, true, true, true, true, true, true, true, true, true, true, true, true, false, false, false, true, true, true, false, false, false, false, false, false, false, false, false, false, false, false, false, false] rfl rfl (any_of HT_.out (by kernel_rfl)) (fun _ _ _ h => h) (Or.inl ⟨by rfl, ?_⟩) ?_ ?_
               rotate_left
               ·
                intro w'
                go_simp
                with_reducible rfl
               rotate_left
               ·
                simp only [Act.put, qsI, qs0, qsS, i64_w, i32_w]
                rfl
               refine pure_ (i := 23) (N := some 57) (v := ?_) (a' := ?_) #[true, true, true, true, true, true, true, true, true, true, true, true, true, true, true, true, true, true, true, true, true, true, true, true, false, false, true, true, true, false, false, false, false, false, false, false, false, false, false, false, false, false, false] rfl rfl (any_of HT_.out (by kernel_rfl)) (fun _ _ _ h => h) (Or.inl ⟨by rfl, ?_⟩) ?_ ?_
               rotate_left
               ·
                intro w'
                go_simp
                with_reducible rfl
               rotate_left
               ·
                simp only [Act.put, qsI, qs0, qsS, i64_w, i32_w]
                rfl
               refine take_ (i := 24) (N := some 58) (v := ?_) (a' := ?_) #[true, true, true, true, true, true, true, true, true, true, true, true, true, true, true, true, true, true, true, true, true, true, true, true, true, false, true, true, true, false, false, false, false, false, false, false, false, false, false, false, false, false, false] rfl rfl (take_ofW HT_.out HW_.out (by kernel_rfl)) (fun _ _ _ h => h) (Or.inl ⟨by rfl, ?_⟩) hHeld ?_ ?_
               rotate_left
               ·
                rintro w' ⟨s0, s1, s2, s3, s4⟩
                go_simp
                with_reducible rfl
               rotate_left
               ·
                simp only [Act.put, qsI, qs0, qsS, i64_w, i32_w]
                rfl
               refine pure_ (i := 25) (N := some 59) (v := ?_) (a' := ?_) #[true, true, true, true, true, true, true, true, true, true, true, true, true, true, true, true, true, true, true, true, true, true, true, true, true, true, true, true, true, false, false, false, false, false, false, false, false, false, false, false, false, false, false] rfl rfl (any_of HT_.out (by kernel_rfl)) (fun _ _ _ h => h) (Or.inl ⟨by rfl, ?_⟩) ?_ ?_
               rotate_left
               ·
                intro w'
                go_simp
                with_reducible rfl
               rotate_left
               ·
                simp only [Act.put, qsI, qs0, qsS, i64_w, i32_w]
                rfl
               refine take_ (i := 29) (N := some 63) (v := ?_) (a' := ?_) #[true, true, true, true, true, true, true, true, true, true, true, true, true, true, true, true, true, true, true, true, true, true, true, true, true, true, true, true, true, true, false, false, false, false, false, false, false, false, false, false, false, false, false] rfl rfl (take_ofW HT_.out HW_.out (by kernel_rfl)) (fun _ _ _ h => h) (Or.inl ⟨by rfl, ?_⟩) hHeld ?_ ?_
               rotate_left
               ·
                rintro w' ⟨s0, s1, s2, s3, s4⟩
                go_simp
                with_reducible rfl
               rotate_left
               ·
                simp only [Act.put, qsI, qs0, qsS, i64_w, i32_w]
                rfl
               refine pure_ (i := 30) (N := some 64) (v := ?_) (a' := ?_) #[true, true, true, true, true, true, true, true, true, true, true, true, true, true, true, true, true, true, true, true, true, true, true, true, true, true, true, true, true, true, true, false, false, false, false, false, false, false, false, false, false, false, false] rfl rfl (any_of HT_.out (by kernel_rfl)) (fun _ _ _ h => h) (Or.inl ⟨by rfl, ?_⟩) ?_ ?_
               rotate_left
               ·
                intro w'
                go_simp
                with_reducible rfl
               rotate_left
               ·
                simp only [Act.put, qsI, qs0, qsS, i64_w, i32_w]
                rfl
               refine pure_ (i := 31) (N := some 65) (v := ?_) (a' := ?_) #[true, true, true, true, true, true, true, true, true, true, true, true, true, true, true, true, true, true, true, true, true, true, true, true, true, true, true, true, true, true, true, true, false, false, false, false, false, false, false, false, false, false, false] rfl rfl (any_of HT_.out (by kernel_rfl)) (fun _ _ _ h => h) (Or.inl ⟨by rfl, ?_⟩) ?_ ?_
               rotate_left
               ·
                intro w'
                go_simp
                with_reducible rfl
               rotate_left
               ·
                simp only [Act.put, qsI, qs0, qsS, i64_w, i32_w]
                rfl
               refine pure_ (i := 32) (N := some 66) (v := ?_) (a' := ?_) #[true, true, true, true, true, true, true, true, true, true, true, true, true, true, true, true, true, true, true, true, true, true, true, true, true, true, true, true, true, true, true, true, true, false, false, false, false, false, false, false, false, false, false] rfl rfl (any_of HT_.out (by kernel_rfl)) (fun _ _ _ h => h) (Or.inl ⟨by rfl, ?_⟩) ?_ ?_
               rotate_left
               ·
                intro w'
                go_simp
                with_reducible rfl
               rotate_left
               ·
                simp only [Act.put, qsI, qs0, qsS, i64_w, i32_w]
                rfl
               refine pure_ (i := 33) (N := some 67) (v := ?_) (a' := ?_) #[true, true, true, true, true, true, true, true, true, true, true, true, true, true, true, true, true, true, true, true, true, true, true, true, true, true, true, true, true, true, true, true, true, true, false, false, false, false, false, false, false, false, false] rfl rfl (any_of HT_.out (by kernel_rfl)) (fun _ _ _ h => h) (Or.inl ⟨by rfl, ?_⟩) ?_ ?_
               rotate_left
               ·
                intro w'
                go_simp
                with_reducible rfl
               rotate_left
               ·
                simp only [Act.put, qsI, qs0, qsS, i64_w, i32_w]
                rfl
               refine take_ (i := 34) (N := some 68) (v := ?_) (a' := ?_) #[true, true, true, true, true, true, true, true, true, true, true, true, true, true, true, true, true, true, true, true, true, true, true, true, true, true, true, true, true, true, true, true, true, true, true, false, false, false, false, false, false, false, false] rfl rfl (take_ofW HT_.out HW_.out (by kernel_rfl)) (fun _ _ _ h => h) (Or.inl ⟨by rfl, ?_⟩) hHeld ?_ ?_
               rotate_left
               ·
                rintro w' ⟨s0, s1, s2, s3, s4⟩
                go_simp
                with_reducible rfl
               rotate_left
               ·
                simp only [Act.put, qsI, qs0, qsS, i64_w, i32_w]
                rfl
               refine pure_ (i := 35) (N := some 69) (v := ?_) (a' := ?_) #[true, true, true, true, true, true, true, true, true, true, true, true, true, true, true, true, true, true, true, true, true, true, true, true, true, true, true, true, true, true, true, true, true, true, true, true, false, false, false, false, false, false, false] rfl rfl (any_of HT_.out (by kernel_rfl)) (fun _ _ _ h => h) (Or.inl ⟨by rfl, ?_⟩) ?_ ?_
               rotate_left
               ·
                intro w'
                go_simp
                with_reducible rfl
               rotate_left
               ·
                simp only [Act.put, qsI, qs0, qsS, i64_w, i32_w]
                rfl
               refine pure_ (i := 36) (N := some 70) (v := ?_) (a' := ?_) #[true, true, true, true, true, true, true, true, true, true, true, true, true, true, true, true, true, true, true, true, true, true, true, true, true, true, true, true, true, true, true, true, true, true, true, true, true, false, false, false, false, false, false] rfl rfl (any_of HT_.out (by kernel_rfl)) (fun _ _ _ h => h) (Or.inl ⟨by rfl, ?_⟩) ?_ ?_
               rotate_left
               ·
                intro w'
                go_simp
                with_reducible rfl
               rotate_left
               ·
                simp only [Act.put, qsI, qs0, qsS, i64_w, i32_w]
                rfl
               refine pure_ (i := 37) (N := some 71) (v := ?_) (a' := ?_) #[true, true, true, true, true, true, true, true, true, true, true, true, true, true, true, true, true, true, true, true, true, true, true, true, true, true, true, true, true, true, true, true, true, true, true, true, true, true, false, false, false, false, false] rfl rfl (any_of HT_.out (by kernel_rfl)) (fun _ _ _ h => h) (Or.inl ⟨by rfl, ?_⟩) ?_ ?_
               rotate_left
               ·
                intro w'
                go_simp
                with_reducible rfl
               rotate_left
               ·
                simp only [Act.put, qsI, qs0, qsS, i64_w, i32_w]
                rfl
               refine last_ (i := 38) (N := none) #[true, true, true, true, true, true, true, true, true, true, true, true, true, true, true, true, true, true, true, true, true, true, true, true, true, true, true, true, true, true, true, true, true, true, true, true, true, true, true, false, false, false, false] rfl rfl (one_of HT_.out (by kernel_rfl)) (by decide) (fun K hK => ?_)
               refine skip_ (w1 := ?_) (by rfl) rfl ?_ ?_
               rotate_left
               ·
                go_simp
                rfl
               refine hK.out _ _ ?_
               clear hK K
               refine pure_ (i := 39) (N := some 72) (v := ?_) (a' := ?_) #[true, true, true, true, true, true, true, true, true, true, true, true, true, true, true, true, true, true, true, true, true, true, true, true, true, true, true, true, true, true, true, true, true, true, true, true, true, true, true, true, false, false, false] rfl rfl (any_of HT_.out (by kernel_rfl)) (fun _ _ _ h => h) (Or.inl ⟨by rfl, ?_⟩) ?_ ?_
               rotate_left
               ·
                intro w'
                go_simp
                with_reducible rfl
               rotate_left
               ·
                simp only [Act.put, qsI, qs0, qsS, i64_w, i32_w]
                rfl
               refine last_ (i := 40) (N := none) #[true, true, true, true, true, true, true, true, true, true, true, true, true, true, true, true, true, true, true, true, true, true, true, true, true, true, true, true, true, true, true, true, true, true, true, true, true, true, true, true, true, false, false] rfl rfl (one_of HT_.out (by kernel_rfl)) (by decide) (fun K hK => ?_)
               refine skip_ (w1 := ?_) (by rfl) rfl ?_ ?_
               rotate_left
               ·
                go_simp
                rfl
               refine hK.out _ _ ?_
               clear hK K
               refine pure_ (i := 41) (N := some 73) (v := ?_) (a' := ?_) #[true, true, true, true, true, true, true, true, true, true, true, true, true, true, true, true, true, true, true, true, true, true, true, true, true, true, true, true, true, true, true, true, true, true, true, true, true, true, true, true, true, true, false] rfl rfl (any_of HT_.out (by kernel_rfl)) (fun _ _ _ h => h) (Or.inl ⟨by rfl, ?_⟩) ?_ ?_
               rotate_left
               ·
                intro w'
                go_simp
                with_reducible rfl
               rotate_left
               ·
                simp only [Act.put, qsI, qs0, qsS, i64_w, i32_w]
                rfl
               refine last_ (i := 42) (N := none) #[true, true, true, true, true, true, true, true, true, true, true, true, true, true, true, true, true, true, true, true, true, true, true, true, true, true, true, true, true, true, true, true, true, true, true, true, true, true, true, true, true, true, true] rfl rfl (one_of HT_.out (by kernel_rfl)) (by decide) (fun K hK => ?_)
               refine skip_ (w1 := ?_) (by rfl) rfl ?_ ?_
               rotate_left
               ·
                go_simp
                rfl
               refine hK.out _ _ ?_
               clear hK K
               refine done_ (done_of HT_.out (by kernel_rfl)) ?_
               try go_wp2
               go_roundg k2
               case measure => have := HJ4.out; have := HK2.out; omega
               case rel => exact ⟨(y209), (y210), (y211), (wrap64 (x31_2 + 1)), (by first | rfl | (simp; done) | (simp [*]; done)), H', ⟨by have := HJ4.out; have := HK2.out; omega⟩, ⟨by (with_reducible repeat (first | apply qrA | apply qrN | apply qrD)); exact Kd.R_mono (Kd.R_far (p := ⟨go36, (x31_2 : Int).toNat, none⟩) (Kd.R_far (p := ⟨go34, (x31_2 : Int).toNat, none⟩) (Kd.R_far (p := ⟨go32, (x31_2 : Int).toNat, none⟩) (Kd.R_mono (Kd.R_mono (Kd.R_mono HO_8.out (fun k_ hk => (⟨hk, fun e_ => hk.2.1 (by rw [e_]; rfl)⟩ : _ ∧ k_ ≠ go32))) (fun k_ hk => (⟨hk, fun e_ => hk.1.2.2.1 (by rw [e_]; rfl)⟩ : _ ∧ k_ ≠ go34))) (fun k_ hk => (⟨hk, fun e_ => hk.1.1.2.2.2 (by rw [e_]; rfl)⟩ : _ ∧ k_ ≠ go36))) (fun _ hk => hk.1.1.2) (.bool true)) (fun _ hk => hk.1.2) (.bool (rdOf false t192 x31_2))) (fun _ hk => hk.2) (.bool (!(rdOf false t192 x31_2)))) (fun _ hk => ⟨hk.1.1.1.1, ⟨hk.1.1.1.2.1, ⟨hk.1.1.1.2.2.1, hk.1.1.1.2.2.2⟩⟩⟩)⟩, ⟨by (with_reducible repeat (first | apply qrA | apply qrN | apply qrD)); exact Kd.R_mono (Kd.R_far (p := ⟨go36, (x31_2 : Int).toNat, none⟩) (Kd.R_far (p := ⟨go34, (x31_2 : Int).toNat, none⟩) (Kd.R_far (p := ⟨go32, (x31_2 : Int).toNat, none⟩) (Kd.R_mono (Kd.R_mono (Kd.R_mono HO_9.out (fun k_ hk => (⟨hk, fun e_ => hk.2.1 (by rw [e_]; rfl)⟩ : _ ∧ k_ ≠ go32))) (fun k_ hk => (⟨hk, fun e_ => hk.1.2.2.1 (by rw [e_]; rfl)⟩ : _ ∧ k_ ≠ go34))) (fun k_ hk => (⟨hk, fun e_ => hk.1.1.2.2.2 (by rw [e_]; rfl)⟩ : _ ∧ k_ ≠ go36))) (fun _ hk => hk.1.1.2) (.bool true)) (fun _ hk => hk.1.2) (.bool (rdOf false t192 x31_2))) (fun _ hk => hk.2) (.bool (!(rdOf false t192 x31_2)))) (fun _ hk => ⟨hk.1.1.1.1, ⟨hk.1.1.1.2.1, ⟨hk.1.1.1.2.2.1, hk.1.1.1.2.2.2⟩⟩⟩)⟩, ⟨by (with_reducible repeat (first | apply qrA | apply qrN | apply qrD)); exact Kd.R_mono (Kd.R_far (p := ⟨go36, (x31_2 : Int).toNat, none⟩) (Kd.R_far (p := ⟨go34, (x31_2 : Int).toNat, none⟩) (Kd.R_mono (Kd.R_mono HQ39.out (fun k_ hk => (⟨hk, fun e_ => hk.2.2.1 (by rw [e_]; rfl)⟩ : _ ∧ k_ ≠ go34))) (fun k_ hk => (⟨hk, fun e_ => hk.1.2.2.2 (by rw [e_]; rfl)⟩ : _ ∧ k_ ≠ go36))) (fun _ hk => hk.1.2) (.bool (rdOf false t192 x31_2))) (fun _ hk => hk.2) (.bool (!(rdOf false t192 x31_2)))) (fun _ hk => ⟨hk.1.1.1, ⟨hk.1.1.2.1, ⟨hk.1.1.2.2.1, hk.1.1.2.2.2⟩⟩⟩)⟩, ⟨by (with_reducible repeat (first | apply qrA | apply qrN | apply qrD)); exact Kd.R_mono (Kd.R_far (p := ⟨go36, (x31_2 : Int).toNat, none⟩) (Kd.R_mono HQ40.out (fun k_ hk => (⟨hk, fun e_ => hk.1.2.2.2 (by rw [e_]; rfl)⟩ : _ ∧ k_ ≠ go36))) (fun _ hk => hk.2) (.bool (!(rdOf false t192 x31_2)))) (fun _ hk => ⟨hk.1.1.1, ⟨hk.1.1.2.1, ⟨hk.1.1.2.2.1, hk.1.1.2.2.2⟩⟩⟩)⟩, ⟨by (with_reducible repeat (first | apply qrA | apply qrN | apply qrD)); exact Kd.R_mono HQ41.out (fun _ hk => ⟨hk.1.1.1, ⟨hk.1.1.2.1, ⟨hk.1.1.2.2.1, hk.1.1.2.2.2⟩⟩⟩)⟩, ⟨by (with_reducible repeat (first | refine qkN ?_ _ | refine qkD ?_ | refine qkA ?_ _)); refine blk_far ?_ (by have h_ := Kd.R_ne HO_12.out BK187.out (by decide); intro e_; exact h_ (by rw [e_]; rfl)) _; (with_reducible repeat (first | refine qkN ?_ _ | refine qkD ?_ | refine qkA ?_ _)); refine blk_far ?_ (by have h_ := Kd.R_ne HO_11.out BK187.out (by decide); intro e_; exact h_ (by rw [e_]; rfl)) _; (with_reducible repeat (first | refine qkN ?_ _ | refine qkD ?_ | refine qkA ?_ _)); refine blk_far ?_ (by have h_ := Kd.R_ne HO_10.out BK187.out (by decide); intro e_; exact h_ (by rw [e_]; rfl)) _; (with_reducible repeat (first | refine qkN ?_ _ | refine qkD ?_ | refine qkA ?_ _)); exact BK187.out⟩, ⟨by repeat (first | (with_reducible first | exact HB.out | apply qbA | apply qbN | apply qbD | refine below_set ?_ GB32.out | refine below_set ?_ GB34.out | refine below_set ?_ GB36.out | refine below_set ?_ GE187.out) | exact HB.out)⟩⟩
              ·
               rw [if_neg c35] at H
               exact absurd H (by simp)
             ·
              rw [if_neg c33] at H
              exact absurd H (by simp)
            ·
             rw [if_neg c31] at H
             exact absurd H (by simp)
           ·
            rw [if_neg c30] at H
            exact absurd H (by simp)
          ·
           replace c29 := Bool.eq_false_iff.mpr c29
           subst c29
           have H1 : (if x31_2 < (t192.length : Int) then (if x31_2 < (x10_2.length : Int) then (if x31_2 < (x11_2.length : Int) then (if x31_2 < (x12_2.length : Int) then (wracklaw1_SpanSets.l0 k2 l1 l2 x7_4 t189 t192 (x10_2.set (x31_2 : Int).toNat (rdOf false t192 x31_2)) (x11_2.set (x31_2 : Int).toNat false) (x12_2.set (x31_2 : Int).toNat false) (t189.length : Int) (wrap64 (x31_2 + 1)) a0_0 a0_1) else (none)) else (none)) else (none)) else (none)) = some r := by rw [if_neg (show ¬ (false = true) by decide)] at H; exact H
           clear H
           have H := H1
           clear H1
           by_cases c42 : x31_2 < (t192.length : Int)
           ·
            rw [if_pos c42] at H
            have c42b0 : decide (x31_2 < (t192.length : Int)) = true := decide_eq_true c42
            clear c42
            by_cases c43 : x31_2 < (x10_2.length : Int)
            ·
             rw [if_pos c43] at H
             have c43b0 : decide (x31_2 < (x10_2.length : Int)) = true := decide_eq_true c43
             clear c43
             obtain ⟨y215, hy215⟩ : ∃ y_ : List Bool, y_ = (x10_2.set (x31_2 : Int).toNat (rdOf false t192 x31_2)) := ⟨_, rfl⟩
             replace H : (if x31_2 < (x11_2.length : Int) then (if x31_2 < (x12_2.length : Int) then (wracklaw1_SpanSets.l0 k2 l1 l2 x7_4 t189 t192 y215 (x11_2.set (x31_2 : Int).toNat false) (x12_2.set (x31_2 : Int).toNat false) (t189.length : Int) (wrap64 (x31_2 + 1)) a0_0 a0_1) else (none)) else (none)) = some r := by first | (rw [hy215]; with_reducible exact H) | (have H2_ := (Option.bind_some _ _).symm.trans H; rw [hy215]; with_reducible exact H2_) | (have H2_ := (Option.bind_some _ _).symm.trans H; with_reducible exact H2_) | with_reducible exact H | (rw [hy215]; exact H) | exact H
             have Ny215 := Aside0.mk hy215
             clear hy215
             by_cases c45 : x31_2 < (x11_2.length : Int)
             ·
              rw [if_pos c45] at H
              have c45b0 : decide (x31_2 < (x11_2.length : Int)) = true := decide_eq_true c45
              clear c45
              obtain ⟨y216, hy216⟩ : ∃ y_ : List Bool, y_ = (x11_2.set (x31_2 : Int).toNat false) := ⟨_, rfl⟩
              replace H : (if x31_2 < (x12_2.length : Int) then (wracklaw1_SpanSets.l0 k2 l1 l2 x7_4 t189 t192 y215 y216 (x12_2.set (x31_2 : Int).toNat false) (t189.length : Int) (wrap64 (x31_2 + 1)) a0_0 a0_1) else (none)) = some r := by first | (rw [hy216]; with_reducible exact H) | (have H2_ := (Option.bind_some _ _).symm.trans H; rw [hy216]; with_reducible exact H2_) | (have H2_ := (Option.bind_some _ _).symm.trans H; with_reducible exact H2_) | with_reducible exact H | (rw [hy216]; exact H) | exact H
              have Ny216 := Aside0.mk hy216
              clear hy216
              by_cases c47 : x31_2 < (x12_2.length : Int)
              ·
               rw [if_pos c47] at H
               have c47b0 : decide (x31_2 < (x12_2.length : Int)) = true := decide_eq_true c47
               clear c47
               obtain ⟨y217, hy217⟩ : ∃ y_ : List Bool, y_ = (x12_2.set (x31_2 : Int).toNat false) := ⟨_, rfl⟩
               replace H : (wracklaw1_SpanSets.l0 k2 l1 l2 x7_4 t189 t192 y215 y216 y217 (t189.length : Int) (wrap64 (x31_2 + 1)) a0_0 a0_1) = some r := by first | (rw [hy217]; with_reducible exact H) | (have H2_ := (Option.bind_some _ _).symm.trans H; rw [hy217]; with_reducible exact H2_) | (have H2_ := (Option.bind_some _ _).symm.trans H; with_reducible exact H2_) | with_reducible exact H | (rw [hy217]; exact H) | exact H
               have Ny217 := Aside0.mk hy217
               clear hy217
               have H' := Aside0.mk H
               clear H
               try go_wp2
               have n0_ := Aside0.mk (qrD HO_8.out)
               have n1_ := Aside0.mk (qrD HO_9.out)
               have n2_ := Aside0.mk (qrD HO_10.out)
               have n3_ := Aside0.mk (qrD HO_11.out)
               have n4_ := Aside0.mk (qrD HO_12.out)
               have n5_ := Aside0.mk (qkD BK187.out)
               have n6_ := Aside0.mk (qbD HB.out)
               clear HO_8
               clear HO_9
               clear HO_10
               clear HO_11
               clear HO_12
               clear BK187
               clear HB
               have HO_8 := n0_
               have HO_9 := n1_
               have HO_10 := n2_
               have HO_11 := n3_
               have HO_12 := n4_
               have BK187 := n5_
               have HB := n6_
               clear n0_ n1_ n2_ n3_ n4_ n5_ n6_
               have p204 : 0 ≤ (x31_2 : Int) := of_decide_eq_true (by first | (with_reducible assumption) | assumption)
               have q204 : x31_2 < (t189.length : Int) := of_decide_eq_true (by first | (with_reducible assumption) | assumption)
               obtain ⟨ad204, e204, hx204_0⟩ := Kd.at_bool (Kd.R_reads' HO_8.out).2.2 x31_2 p204 q204
               (try rw [← Nbq28.out] at hx204_0)
               cases e204
               replace p204 := eq_true p204
               replace q204 := eq_true q204
               obtain ⟨Ao50, co50, eo50⟩ := Kd.R_slice HO_9.out
               (first | subst eo50 | (injection eo50 with f1_ f2_ f3_; have f4_ := f1_.symm; have f5_ := f3_.symm; clear f1_ f2_ f3_; subst f4_; subst f5_))
               have p212 : 0 ≤ (x31_2 : Int) := of_decide_eq_true (by first | (with_reducible assumption) | assumption)
               have q212 : x31_2 < (t192.length : Int) := of_decide_eq_true (by first | (with_reducible assumption) | assumption)
               obtain ⟨ad212, e212, hx212_0⟩ := Kd.at_bool (Kd.R_reads' HO_9.out).2.2 x31_2 p212 q212
               (try rw [← Nbq28.out] at hx212_0)
               cases e212
               replace p212 := eq_true p212
               replace q212 := eq_true q212
               have p213 : 0 ≤ (x31_2 : Int) := of_decide_eq_true (by first | (with_reducible assumption) | assumption)
               have q213 : x31_2 < (t189.length : Int) := of_decide_eq_true (by first | (with_reducible assumption) | assumption)
               obtain ⟨ad213, e213, hx213_0⟩ := Kd.at_bool (Kd.R_reads' HO_8.out).2.2 x31_2 p213 q213
               (try rw [← Nbq28.out] at hx213_0)
               obtain rfl : ad204 = ad213 := (by injection e213)
               replace p213 := eq_true p213
               replace q213 := eq_true q213
               have p214 : 0 ≤ (x31_2 : Int) := of_decide_eq_true (by first | (with_reducible assumption) | assumption)
               have q214 : x31_2 < (t189.length : Int) := of_decide_eq_true (by first | (with_reducible assumption) | assumption)
               obtain ⟨ad214, e214, hx214_0⟩ := Kd.at_bool (Kd.R_reads' HO_8.out).2.2 x31_2 p214 q214
               (try rw [← Nbq28.out] at hx214_0)
               obtain rfl : ad204 = ad214 := (by injection e214)
               replace p214 := eq_true p214
               replace q214 := eq_true q214
               have p44 : 0 ≤ (x31_2 : Int) := of_decide_eq_true (by first | (with_reducible assumption) | assumption)
               have q44 : (x31_2 : Int) < ((x10_2.length : Int) : Int) := of_decide_eq_true (by first | (with_reducible assumption) | assumption)
               obtain ⟨go44, co44, eo44, gb44, gl44, cl44, HG44⟩ := Kd.R_form HO_10.out (by omega)
               (first | cases eo44 | (injection eo44 with ea_ en_ ec_; (first | subst ea_ | (injection ea_ with ea_; subst ea_)); subst ec_; clear en_))
               have GB44 := Aside0.mk gb44
               have GG44 := Aside0.mk HG44
               clear gb44 gl44 HG44
               obtain ⟨hx44_0, hf44_0⟩ := Kd.R_celln false HO_10.out (x31_2 : Int) p44 q44
               replace p44 := eq_true p44
               replace q44 := eq_true q44
               have HP51 := Kd.R_putn HO_10.out (x31_2 : Int) (rdOf false t192 x31_2)
               rw [← Ny215.out] at HP51
               have HQ51 := Aside0.mk HP51
               clear HP51
               have p46 : 0 ≤ (x31_2 : Int) := of_decide_eq_true (by first | (with_reducible assumption) | assumption)
               have q46 : (x31_2 : Int) < ((x11_2.length : Int) : Int) := of_decide_eq_true (by first | (with_reducible assumption) | assumption)
               obtain ⟨go46, co46, eo46, gb46, gl46, cl46, HG46⟩ := Kd.R_form HO_11.out (by omega)
               (first | cases eo46 | (injection eo46 with ea_ en_ ec_; (first | subst ea_ | (injection ea_ with ea_; subst ea_)); subst ec_; clear en_))
               have GB46 := Aside0.mk gb46
               have GG46 := Aside0.mk HG46
               clear gb46 gl46 HG46
               obtain ⟨hx46_0, hf46_0⟩ := Kd.R_celln false (Kd.R_far (p := ⟨go44, (x31_2 : Int).toNat, none⟩) (Kd.R_mono HO_11.out (fun k_ hk => (⟨hk, fun e_ => hk.2.2.1 (by rw [e_]; rfl)⟩ : _ ∧ k_ ≠ go44))) (fun _ hk => hk.2) (.bool (rdOf false t192 x31_2))) (x31_2 : Int) p46 q46
               replace p46 := eq_true p46
               replace q46 := eq_true q46
               have HP52 := Kd.R_putn (Kd.R_far (p := ⟨go44, (x31_2 : Int).toNat, none⟩) (Kd.R_mono HO_11.out (fun k_ hk => (⟨hk, fun e_ => hk.2.2.1 (by rw [e_]; rfl)⟩ : _ ∧ k_ ≠ go44))) (fun _ hk => hk.2) (.bool (rdOf false t192 x31_2))) (x31_2 : Int) false
               rw [← Ny216.out] at HP52
               have HQ52 := Aside0.mk HP52
               clear HP52
               have p48 : 0 ≤ (x31_2 : Int) := of_decide_eq_true (by first | (with_reducible assumption) | assumption)
               have q48 : (x31_2 : Int) < ((x12_2.length : Int) : Int) := of_decide_eq_true (by first | (with_reducible assumption) | assumption)
               obtain ⟨go48, co48, eo48, gb48, gl48, cl48, HG48⟩ := Kd.R_form HO_12.out (by omega)
               (first | cases eo48 | (injection eo48 with ea_ en_ ec_; (first | subst ea_ | (injection ea_ with ea_; subst ea_)); subst ec_; clear en_))
               have GB48 := Aside0.mk gb48
               have GG48 := Aside0.mk HG48
               clear gb48 gl48 HG48
               obtain ⟨hx48_0, hf48_0⟩ := Kd.R_celln false (Kd.R_far (p := ⟨go46, (x31_2 : Int).toNat, none⟩) (Kd.R_far (p := ⟨go44, (x31_2 : Int).toNat, none⟩) (Kd.R_mono (Kd.R_mono HO_12.out (fun k_ hk => (⟨hk, fun e_ => hk.2.2.1 (by rw [e_]; rfl)⟩ : _ ∧ k_ ≠ go44))) (fun k_ hk => (⟨hk, fun e_ => hk.1.2.2.2 (by rw [e_]; rfl)⟩ : _ ∧ k_ ≠ go46))) (fun _ hk => hk.1.2) (.bool (rdOf false t192 x31_2))) (fun _ hk => hk.2) (.bool false)) (x31_2 : Int) p48 q48
               replace p48 := eq_true p48
               replace q48 := eq_true q48
               have HP53 := Kd.R_putn (Kd.R_far (p := ⟨go46, (x31_2 : Int).toNat, none⟩) (Kd.R_far (p := ⟨go44, (x31_2 : Int).toNat, none⟩) (Kd.R_mono (Kd.R_mono HO_12.out (fun k_ hk => (⟨hk, fun e_ => hk.2.2.1 (by rw [e_]; rfl)⟩ : _ ∧ k_ ≠ go44))) (fun k_ hk => (⟨hk, fun e_ => hk.1.2.2.2 (by rw [e_]; rfl)⟩ : _ ∧ k_ ≠ go46))) (fun _ hk => hk.1.2) (.bool (rdOf false t192 x31_2))) (fun _ hk => hk.2) (.bool false)) (x31_2 : Int) false
               rw [← Ny217.out] at HP53
               have HQ53 := Aside0.mk HP53
               clear HP53
               refine start_ (n := 43) (S := fun w' => w'.cell? (ad204.add (x31_2).toNat) = some (.bool false) ∧ w'.cell? (ad212.add (x31_2).toNat) = some (.bool (rdOf false t192 x31_2)) ∧ w'.cell? (ad204.add (x31_2).toNat) = some (.bool (false)) ∧ w'.cell? (ad204.add (x31_2).toNat) = some (.bool (false))) (ds := [38, 40, 42]) #[false, false, false, false, false, false, false, false, false, false, false, false, false, false, false, false, false, false, false, false, false, false, false, false, false, false, false, false, false, false, false, false, false, false, false, false, false, false, false, false, false, false, false] (by kernel_rfl) rfl rfl ⟨hx204_0, hx212_0, hx213_0, hx214_0⟩ (fun hHeld => ?_); refine with_tabW wracklaw1_SpanSets.tab9 wracklaw1_SpanSets.bits9 (fun HT_ HW_ => ?_)
               generalize wr.drew = w49 at HO_8 HO_9 HO_10 HO_11 HO_12 BK187 HB GG44 GG46 GG48 HQ51 HQ52 HQ53 hf44_0 hf46_0 hf48_0 hx204_0 hx212_0 hx213_0 hx214_0 hx44_0 hx46_0 hx48_0 hHeld ⊢
               refine pure_ (i := 0) (N := some 34) (v := ?_) (a' := ?_) #[true, false, false, false, false, false, false, false, false, false, false, false, false, false, false, false, false, false, false, false, false, false, false, false, false, false, false, false, false, false, false, false, false, false, false, false, false, false, false, false, false, false, false] rfl rfl (any_of HT_.out (by kernel_rfl)) (fun _ _ _ h => h) (Or.inl ⟨by rfl, ?_⟩) ?_ ?_
               rotate_left
               ·
                intro w'
                go_simp
                with_reducible rfl
               rotate_left
               ·
                simp only [Act.put, qsI, qs0, qsS, i64_w, i32_w]
                rfl
               refine pure_ (i := 1) (N := some 35) (v := ?_) (a' := ?_) #[true, true, false, false, false, false, false, false, false, false, false, false, false, false, false, false, false, false, false, false, false, false, false, false, false, false, false, false, false, false, false, false, false, false, false, false, false, false, false, false, false, false, false] rfl rfl (any_of HT_.out (by kernel_rfl)) (fun _ _ _ h => h) (Or.inl ⟨by rfl, ?_⟩) ?_ ?_
               rotate_left
               ·
                intro w'
                go_simp
                with_reducible rfl
               rotate_left
               ·
                simp only [Act.put, qsI, qs0, qsS, i64_w, i32_w]
                rfl
               refine pure_ (i := 2) (N := some 36) (v := ?_) (a' := ?_) #[true, true, true, false, false, false, false, false, false, false, false, false, false, false, false, false, false, false, false, false, false, false, false, false, false, false, false, false, false, false, false, false, false, false, false, false, false, false, false, false, false, false, false] rfl rfl (any_of HT_.out (by kernel_rfl)) (fun _ _ _ h => h) (Or.inl ⟨by rfl, ?_⟩) ?_ ?_
               rotate_left
               ·
                intro w'
                go_simp
                with_reducible rfl
               rotate_left
               ·
                simp only [Act.put, qsI, qs0, qsS, i64_w, i32_w]
                rfl
               refine pure_ (i := 3) (N := some 37) (v := ?_) (a' := ?_) #[true, true, true, true, false, false, false, false, false, false, false, false, false, false, false, false, false, false, false, false, false, false, false, false, false, false, false, false, false, false, false, false, false, false, false, false, false, false, false, false, false, false, false] rfl rfl (any_of HT_.out (by kernel_rfl)) (fun _ _ _ h => h) (Or.inl ⟨by rfl, ?_⟩) ?_ ?_
               rotate_left
               ·
                intro w'
                go_simp
                with_reducible rfl
               rotate_left
               ·
                simp only [Act.put, qsI, qs0, qsS, i64_w, i32_w]
                rfl
               refine pure_ (i := 4) (N := some 38) (v := ?_) (a' := ?_) #[true, true, true, true, true, false, false, false, false, false, false, false, false, false, false, false, false, false, false, false, false, false, false, false, false, false, false, false, false, false, false, false, false, false, false, false, false, false, false, false, false, false, false] rfl rfl (any_of HT_.out (by kernel_rfl)) (fun _ _ _ h => h) (Or.inl ⟨by rfl, ?_⟩) ?_ ?_
               rotate_left
               ·
                intro w'
                go_simp
                with_reducible rfl
               rotate_left
               ·
                simp only [Act.put, qsI, qs0, qsS, i64_w, i32_w]
                rfl
               refine pure_ (i := 5) (N := some 39) (v := ?_) (a' := ?_) #[true, true, true, true, true, true, false, false, false, false, false, false, false, false, false, false, false, false, false, false, false, false, false, false, false, false, false, false, false, false, false, false, false, false, false, false, false, false, false, false, false, false, false] rfl rfl (any_of HT_.out (by kernel_rfl)) (fun _ _ _ h => h) (Or.inl ⟨by rfl, ?_⟩) ?_ ?_
               rotate_left
               ·
                intro w'
                go_simp
                with_reducible rfl
               rotate_left
               ·
                simp only [Act.put, qsI, qs0, qsS, i64_w, i32_w]
                rfl
               refine pure_ (i := 6) (N := some 40) (v := ?_) (a' := ?_) #[true, true, true, true, true, true, true, false, false, false, false, false, false, false, false, false, false, false, false, false, false, false, false, false, false, false, false, false, false, false, false, false, false, false, false, false, false, false, false, false, false, false, false] rfl rfl (any_of HT_.out (by kernel_rfl)) (fun _ _ _ h => h) (Or.inl ⟨by rfl, ?_⟩) ?_ ?_
               rotate_left
               ·
                intro w'
                go_simp
                with_reducible rfl
               rotate_left
               ·
                simp only [Act.put, qsI, qs0, qsS, i64_w, i32_w]
                rfl
               refine pure_ (i := 7) (N := some 41) (v := ?_) (a' := ?_) #[true, true, true, true, true, true, true, true, false, false, false, false, false, false, false, false, false, false, false, false, false, false, false, false, false, false, false, false, false, false, false, false, false, false, false, false, false, false, false, false, false, false, false] rfl rfl (any_of HT_.out (by kernel_rfl)) (fun _ _ _ h => h) (Or.inl ⟨by rfl, ?_⟩) ?_ ?_
               rotate_left
               ·
                intro w'
                go_simp
                with_reducible rfl
               rotate_left
               ·
                simp only [Act.put, qsI, qs0, qsS, i64_w, i32_w]
                rfl
               refine pure_ (i := 8) (N := some 42) (v := ?_) (a' := ?_) #[true, true, true, true, true, true, true, true, true, false, false, false, false, false, false, false, false, false, false, false, false, false, false, false, false, false, false, false, false, false, false, false, false, false, false, false, false, false, false, false, false, false, false] rfl rfl (any_of HT_.out (by kernel_rfl)) (fun _ _ _ h => h) (Or.inl ⟨by rfl, ?_⟩) ?_ ?_
               rotate_left
               ·
                intro w'
                go_simp
                with_reducible rfl
               rotate_left
               ·
                simp only [Act.put, qsI, qs0, qsS, i64_w, i32_w]
                rfl
               refine pure_ (i := 16) (N := some 50) (v := ?_) (a' := ?_) #[true, true, true, true, true, true, true, true, true, false, false, false, false, false, false, false, true, false, false, false, false, false, false, false, false, false, false, false, false, false, false, false, false, false, false, false, false, false, false, false, false, false, false] rfl rfl (any_of HT_.out (by kernel_rfl)) (fun _ _ _ h => h) (Or.inl ⟨by rfl, ?_⟩) ?_ ?_
               rotate_left
               ·
                intro w'
                go_simp
                with_reducible rfl
               rotate_left
               ·
                simp only [Act.put, qsI, qs0, qsS, i64_w, i32_w]
                rfl
               refine pure_ (i := 17) (N := some 51) (v := ?_) (a' := ?_) #[true, true, true, true, true, true, true, true, true, false, false, false, false, false, false, false, true, true, false, false, false, false, false, false, false, false, false, false, false, false, false, false, false, false, false, false, false, false, false, false, false, false, false] rfl rfl (any_of HT_.out (by kernel_rfl)) (fun _ _ _ h => h) (Or.inl ⟨by rfl, ?_⟩) ?_ ?_
               rotate_left
               ·
                intro w'
                go_simp
                with_reducible rfl
               rotate_left
               ·
                simp only [Act.put, qsI, qs0, qsS, i64_w, i32_w]
                rfl
               refine pure_ (i := 18) (N := some 52) (v := ?_) (a' := ?_) #[true, true, true, true, true, true, true, true, true, false, false, false, false, false, false, false, true, true, true, false, false, false, false, false, false, false, false, false, false, false, false, false, false, false, false, false, false, false, false, false, false, false, false] rfl rfl (any_of HT_.out (by kernel_rfl)) (fun _ _ _ h => h) (Or.inl ⟨by rfl, ?_⟩) ?_ ?_
               rotate_left
               ·
                intro w'
                go_simp
                with_reducible rfl
               rotate_left
               ·
                simp only [Act.put, qsI, qs0, qsS, i64_w, i32_w]
                rfl
               refine pure_ (i := 26) (N := some 60) (v := ?_) (a' := ?_) #[true, true, true, true, true, true, true, true, true, false, false, false, false, false, false, false, true, true, true, false, false, false, false, false, false, false, true, false, false, false, false, false, false, false, false, false, false, false, false, false, false, false, false] rfl rfl (any_of HT_.out (by kernel_rfl)) (fun _ _ _ h => h) (Or.inl ⟨by rfl, ?_⟩) ?_ ?_
               rotate_left
               ·
                intro w'
                go_simp
                with_reducible rfl
               rotate_left
               ·
                simp only [Act.put, qsI, qs0, qsS, i64_w, i32_w]
                rfl
               refine pure_ (i := 27) (N := some 61) (v := ?_) (a' := ?_) #[true, true, true, true, true, true, true, true, true, false, false, false, false, false, false, false, true, true, true, false, false, false, false, false, false, false, true, true, false, false, false, false, false, false, false, false, false, false, false, false, false, false, false] rfl rfl (any_of HT_.out (by kernel_rfl)) (fun _ _ _ h => h) (Or.inl ⟨by rfl, ?_⟩) ?_ ?_
               rotate_left
               ·
                intro w'
                go_simp
                with_reducible rfl
               rotate_left
               ·
                simp only [Act.put, qsI, qs0, qsS, i64_w, i32_w]
                rfl
               refine pure_ (i := 28) (N := some 62) (v := ?_) (a' := ?_) #[true, true, true, true, true, true, true, true, true, false, false, false, false, false, false, false, true, true, true, false, false, false, false, false, false, false, true, true, true, false, false, false, false, false, false, false, false, false, false, false, false, false, false] rfl rfl (any_of HT_.out (by kernel_rfl)) (fun _ _ _ h => h) (Or.inl ⟨by rfl, ?_⟩) ?_ ?_
               rotate_left
               ·
                intro w'
                go_simp
                with_reducible rfl
               rotate_left
               ·
                simp only [Act.put, qsI, qs0, qsS, i64_w, i32_w]
                rfl
               refine take_ (i := 9) (N := some 43) (v := ?_) (a' := ?_) #[true, true, true, true, true, true, true, true, true, true, false, false, false, false, false, false, true, true, true, false, false, false, false, false, false, false, true, true, true, false, false, false, false, false, false, false, false, false, false, false, false, false, false] rfl rfl (take_ofW HT_.out HW_.out (by kernel_rfl)) (fun _ _ _ h => h) (Or.inl ⟨by rfl, ?_⟩) hHeld ?_ ?_
               rotate_left
               ·
                rintro w' ⟨s0, s1, s2, s3⟩
                go_simp
                with_reducible rfl
               rotate_left
               ·
                simp only [Act.put, qsI, qs0, qsS, i64_w, i32_w]
                rfl
               refine pure_ (i := 10) (N := some 44) (v := ?_) (a' := ?_) #[true, true, true, true, true, true, true, true, true, true, true, false, false, false, false, false, true, true, true, false, false, false, false, false, false, false, true, true, true, false, false, false, false, false, false, false, false, false, false, false, false, false, false] rfl rfl (any_of HT_.out (by kernel_rfl)) (fun _ _ _ h => h) (Or.inl ⟨by rfl, ?_⟩) ?_ ?_
               rotate_left
               ·
                intro w'
                go_simp
                with_reducible rfl
               rotate_left
               ·
                simp only [Act.put, qsI, qs0, qsS, i64_w, i32_w]
                rfl
               refine pure_ (i := 11) (N := some 45) (v := ?_) (a' := ?_) #[true, true, true, true, true, true, true, true, true, true, true, true, false, false, false, false, true, true, true, false, false, false, false, false, false, false, true, true, true, false, false, false, false, false, false, false, false, false, false, false, false, false, false] rfl rfl (any_of HT_.out (by kernel_rfl)) (fun _ _ _ h => h) (Or.inl ⟨by rfl, ?_⟩) ?_ ?_
               rotate_left
               ·
                intro w'
                go_simp
                with_reducible rfl
               rotate_left
               ·
                simp only [Act.put, qsI, qs0, qsS, i64_w, i32_w]
                rfl
               refine pure_ (i := 12) (N := some 46) (v := ?_) (a' := ?_) #[true, true, true, true, true, true, true, true, true, true, true, true, true, false, false, false, true, true, true, false, false, false, false, false, false, false, true, true, true, false, false, false, false, false, false, false, false, false, false, false, false, false, false] rfl rfl (any_of HT_.out (by kernel_rfl)) (fun _ _ _ h => h) (Or.inl ⟨by rfl, ?_⟩) ?_ ?_
               rotate_left
               ·
                intro w'
                go_simp
                with_reducible rfl
               rotate_left
               ·
                simp only [Act.put, qsI, qs0, qsS, i64_w, i32_w]
                rfl
               refine pure_ (i := 13) (N := some 47) (v := ?_) (a' := ?_) #[true, true, true, true, true, true, true, true, true, true, true, true, true, true, false, false, true, true, true, false, false, false, false, false, false, false, true, true, true, false, false, false, false, false, false, false, false, false, false, false, false, false, false] rfl rfl (any_of HT_.out (by kernel_rfl)) (fun _ _ _ h => h) (Or.inl ⟨by rfl, ?_⟩) ?_ ?_
               rotate_left
               ·
                intro w'
                go_simp
                with_reducible rfl
               rotate_left
               ·
                simp only [Act.put, qsI, qs0, qsS, i64_w, i32_w]
                rfl
               refine take_ (i := 14) (N := some 48) (v := ?_) (a' := ?_) #[true, true, true, true, true, true, true, true, true, true, true, true, true, true, true, false, true, true, true, false, false, false, false, false, false, false, true, true, true, false, false, false, false, false, false, false, false, false, false, false, false, false, false] rfl rfl (take_ofW HT_.out HW_.out (by kernel_rfl)) (fun _ _ _ h => h) (Or.inl ⟨by rfl, ?_⟩) hHeld ?_ ?_
               rotate_left
               ·
                rintro w' ⟨s0, s1, s2, s3⟩
                go_simp
                with_reducible rfl
               rotate_left
               ·
                simp only [Act.put, qsI, qs0, qsS, i64_w, i32_w]
                rfl
               refine pure_ (i := 15) (N := some 49) (v := ?_) (a' := ?_) #[true, true, true, true, true, true, true, true, true, true, true, true, true, true, true, true, true, true, true, false, false, false, false, false, false, false, true, true, true, false, false, false, false, false, false, false, false, false, false, false, false, false, false] rfl rfl (any_of HT_.out (by kernel_rfl)) (fun _ _ _ h => h) (Or.inl ⟨by rfl, ?_⟩) ?_ ?_
               rotate_left
               ·
                intro w'
                go_simp
                with_reducible rfl
               rotate_left
               ·
                simp only [Act.put, qsI, qs0, qsS, i64_w, i32_w]
                rfl
               refine take_ (i := 19) (N := some 53) (v := ?_) (a' := ?_) #[true, true, true, true, true, true, true, true, true, true, true, true, true, true, true, true, true, true, true, true, false, false, false, false, false, false, true, true, true, false, false, false, false, false, false, false, false, false, false, false, false, false, false] rfl rfl (take_ofW HT_.out HW_.out (by kernel_rfl)) (fun _ _ _ h => h) (Or.inl ⟨by rfl, ?_⟩) hHeld ?_ ?_
               rotate_left
               ·
                rintro w' ⟨s0, s1, s2, s3⟩
                go_simp
                with_reducible rfl
               rotate_left
               ·
                simp only [Act.put, qsI, qs0, qsS, i64_w, i32_w]
                rfl
               refine pure_ (i := 20) (N := some 54) (v := ?_) (a' := ?_) #[true, true, true, true, true, true, true, true, true, true, true, true, true, true, true, true, true, true, true, true, true, false, false, false, false, false, true, true, true, false, false, false, false, false, false, false, false, false, false, false, false, false, false] rfl rfl (any_of HT_.out (by kernel_rfl)) (fun _ _ _ h => h) (Or.inl ⟨by rfl, ?_⟩) ?_ ?_
               rotate_left
               ·
                intro w'
                go_simp
                with_reducible rfl
               rotate_left
               ·
                simp only [Act.put, qsI, qs0, qsS, i64_w, i32_w]
                rfl
               refine pure_ (i := 21) (N := some 55) (v := undef) (a' := ?_) #[true, true, true, true, true, true, true, true, true, true, true, true, true, true, true, true, true, true, true, true, true, true, false, false, false, false, true, true, true, false, false, false, false, false, false, false, false, false, false, false, false, false, false] rfl rfl (any_of HT_.out (by kernel_rfl)) (fun _ _ _ h => h) (Or.inr ⟨by rfl, rfl⟩) ?_ ?_
               rotate_left
               ·
                simp only [Act.put, qsI, qs0, qsS, i64_w, i32_w]
                rfl
               refine pure_ (i := 22) (N := some 56) (v := undef) (a' := ?_) #[true, true, true, true, true, true, true, true, true, true, true, true, true, true, true, true, true, true, true, true, true, true, true, false, false, false, true, true, true, false, false, false, false, false, false, false, false, false, false, false, false, false, false] rfl rfl (any_of HT_.out (by kernel_rfl)) (fun _ _ _ h => h) (Or.inr ⟨by rfl, rfl⟩) ?_ ?_
               rotate_left
               ·
                simp only [Act.put, qsI, qs0, qsS, i64_w, i32_w]
                rfl
               refine pure_ (i := 23) (N := some 57) (v := undef) (a' := ?_) #[true, true, true, true, true, true, true, true, true, true, true, true, true, true, true, true, true, true, true, true, true, true, true, true, false, false, true, true, true, false, false, false, false, false, false, false, false, false, false, false, false, false, false] rfl rfl (any_of HT_.out (by kernel_rfl)) (fun _ _ _ h => h) (Or.inr ⟨by rfl, rfl⟩) ?_ ?_
               rotate_left
               ·
                simp only [Act.put, qsI, qs0, qsS, i64_w, i32_w]
                rfl
               refine pure_ (i := 24) (N := some 58) (v := undef) (a' := ?_) #[true, true, true, true, true, true, true, true, true, true, true, true, true, true, true, true, true, true, true, true, true, true, true, true, true, false, true, true, true, false, false, false, false, false, false, false, false, false, false, false, false, false, false] rfl rfl (any_of HT_.out (by kernel_rfl)) (fun _ _ _ h => h) (Or.inr ⟨by rfl, rfl⟩) ?_ ?_
               rotate_left
               ·
                simp only [Act.put, qsI, qs0, qsS, i64_w, i32_w]
                rfl
               refine pure_ (i := 25) (N := some 59) (v := ?_) (a' := ?_) #[true, true, true, true, true, true, true, true, true, true, true, true, true, true, true, true, true, true, true, true, true, true, true, true, true, true, true, true, true, false, false, false, false, false, false, false, false, false, false, false, false, false, false] rfl rfl (any_of HT_.out (by kernel_rfl)) (fun _ _ _ h => h) (Or.inl ⟨by rfl, ?_⟩) ?_ ?_
               rotate_left
               ·
                intro w'
                go_simp
                with_reducible rfl
               rotate_left
               ·
                simp only [Act.put, qsI, qs0, qsS, i64_w, i32_w]
                rfl
               refine take_ (i := 29) (N := some 63) (v := ?_) (a' := ?_) #[true, true, true, true, true, true, true, true, true, true, true, true, true, true, true, true, true, true, true, true, true, true, true, true, true, true, true, true, true, true, false, false, false, false, false, false, false, false, false, false, false, false, false] rfl rfl (take_ofW HT_.out HW_.out (by kernel_rfl)) (fun _ _ _ h => h) (Or.inl ⟨by rfl, ?_⟩) hHeld ?_ ?_
               rotate_left
               ·
                rintro w' ⟨s0, s1, s2, s3⟩
                go_simp
                with_reducible rfl
               rotate_left
               ·
                simp only [Act.put, qsI, qs0, qsS, i64_w, i32_w]
                rfl
               refine pure_ (i := 30) (N := some 64) (v := ?_) (a' := ?_) #[true, true, true, true, true, true, true, true, true, true, true, true, true, true, true, true, true, true, true, true, true, true, true, true, true, true, true, true, true, true, true, false, false, false, false, false, false, false, false, false, false, false, false] rfl rfl (any_of HT_.out (by kernel_rfl)) (fun _ _ _ h => h) (Or.inl ⟨by rfl, ?_⟩) ?_ ?_
               rotate_left
               ·
                intro w'
                go_simp
                with_reducible rfl
               rotate_left
               ·
                simp only [Act.put, qsI, qs0, qsS, i64_w, i32_w]
                rfl
               refine pure_ (i := 31) (N := some 65) (v := undef) (a' := ?_) #[true, true, true, true, true, true, true, true, true, true, true, true, true, true, true, true, true, true, true, true, true, true, true, true, true, true, true, true, true, true, true, true, false, false, false, false, false, false, false, false, false, false, false] rfl rfl (any_of HT_.out (by kernel_rfl)) (fun _ _ _ h => h) (Or.inr ⟨by rfl, rfl⟩) ?_ ?_
               rotate_left
               ·
                simp only [Act.put, qsI, qs0, qsS, i64_w, i32_w]
                rfl
               refine pure_ (i := 32) (N := some 66) (v := undef) (a' := ?_) #[true, true, true, true, true, true, true, true, true, true, true, true, true, true, true, true, true, true, true, true, true, true, true, true, true, true, true, true, true, true, true, true, true, false, false, false, false, false, false, false, false, false, false] rfl rfl (any_of HT_.out (by kernel_rfl)) (fun _ _ _ h => h) (Or.inr ⟨by rfl, rfl⟩) ?_ ?_
               rotate_left
               ·
                simp only [Act.put, qsI, qs0, qsS, i64_w, i32_w]
                rfl
               refine pure_ (i := 33) (N := some 67) (v := undef) (a' := ?_) #[true, true, true, true, true, true, true, true, true, true, true, true, true, true, true, true, true, true, true, true, true, true, true, true, true, true, true, true, true, true, true, true, true, true, false, false, false, false, false, false, false, false, false] rfl rfl (any_of HT_.out (by kernel_rfl)) (fun _ _ _ h => h) (Or.inr ⟨by rfl, rfl⟩) ?_ ?_
               rotate_left
               ·
                simp only [Act.put, qsI, qs0, qsS, i64_w, i32_w]
                rfl
               refine pure_ (i := 34) (N := some 68) (v := undef) (a' := ?_) #[true, true, true, true, true, true, true, true, true, true, true, true, true, true, true, true, true, true, true, true, true, true, true, true, true, true, true, true, true, true, true, true, true, true, true, false, false, false, false, false, false, false, false] rfl rfl (any_of HT_.out (by kernel_rfl)) (fun _ _ _ h => h) (Or.inr ⟨by rfl, rfl⟩) ?_ ?_
               rotate_left
               ·
                simp only [Act.put, qsI, qs0, qsS, i64_w, i32_w]
                rfl
               refine pure_ (i := 35) (N := some 69) (v := undef) (a' := ?_) #[true, true, true, true, true, true, true, true, true, true, true, true, true, true, true, true, true, true, true, true, true, true, true, true, true, true, true, true, true, true, true, true, true, true, true, true, false, false, false, false, false, false, false] rfl rfl (any_of HT_.out (by kernel_rfl)) (fun _ _ _ h => h) (Or.inr ⟨by rfl, rfl⟩) ?_ ?_
               rotate_left
               ·
                simp only [Act.put, qsI, qs0, qsS, i64_w, i32_w]
                rfl
               refine pure_ (i := 36) (N := some 70) (v := ?_) (a' := ?_) #[true, true, true, true, true, true, true, true, true, true, true, true, true, true, true, true, true, true, true, true, true, true, true, true, true, true, true, true, true, true, true, true, true, true, true, true, true, false, false, false, false, false, false] rfl rfl (any_of HT_.out (by kernel_rfl)) (fun _ _ _ h => h) (Or.inl ⟨by rfl, ?_⟩) ?_ ?_
               rotate_left
               ·
                intro w'
                go_simp
                with_reducible rfl
               rotate_left
               ·
                simp only [Act.put, qsI, qs0, qsS, i64_w, i32_w]
                rfl
               refine pure_ (i := 37) (N := some 71) (v := ?_) (a' := ?_) #[true, true, true, true, true, true, true, true, true, true, true, true, true, true, true, true, true, true, true, true, true, true, true, true, true, true, true, true, true, true, true, true, true, true, true, true, true, true, false, false, false, false, false] rfl rfl (any_of HT_.out (by kernel_rfl)) (fun _ _ _ h => h) (Or.inl ⟨by rfl, ?_⟩) ?_ ?_
               rotate_left
               ·
                intro w'
                go_simp
                with_reducible rfl
               rotate_left
               ·
                simp only [Act.put, qsI, qs0, qsS, i64_w, i32_w]
                rfl
               refine last_ (i := 38) (N := none) #[true, true, true, true, true, true, true, true, true, true, true, true, true, true, true, true, true, true, true, true, true, true, true, true, true, true, true, true, true, true, true, true, true, true, true, true, true, true, true, false, false, false, false] rfl rfl (one_of HT_.out (by kernel_rfl)) (by decide) (fun K hK => ?_)
               refine skip_ (w1 := ?_) (by rfl) rfl ?_ ?_
               rotate_left
               ·
                go_simp
                rfl
               refine hK.out _ _ ?_
               clear hK K
               refine pure_ (i := 39) (N := some 72) (v := ?_) (a' := ?_) #[true, true, true, true, true, true, true, true, true, true, true, true, true, true, true, true, true, true, true, true, true, true, true, true, true, true, true, true, true, true, true, true, true, true, true, true, true, true, true, true, false, false, false] rfl rfl (any_of HT_.out (by kernel_rfl)) (fun _ _ _ h => h) (Or.inl ⟨by rfl, ?_⟩) ?_ ?_
               rotate_left
               ·
                intro w'
                go_simp
                with_reducible rfl
               rotate_left
               ·
                simp only [Act.put, qsI, qs0, qsS, i64_w, i32_w]
                rfl
               refine last_ (i := 40) (N := none) #[true, true, true, true, true, true, true, true, true, true, true, true, true, true, true, true, true, true, true, true, true, true, true, true, true, true, true, true, true, true, true, true, true, true, true, true, true, true, true, true, true, false, false] rfl rfl (one_of HT_.out (by kernel_rfl)) (by decide) (fun K hK => ?_)
               refine skip_ (w1 := ?_) (by rfl) rfl ?_ ?_
               rotate_left
               ·
                go_simp
                rfl
               refine hK.out _ _ ?_
               clear hK K
               refine pure_ (i := 41) (N := some 73) (v := ?_) (a' := ?_) #[true, true, true, true, true, true, true, true, true, true, true, true, true, true, true, true, true, true, true, true, true, true, true, true, true, true, true, true, true, true, true, true, true, true, true, true, true, true, true, true, true, true, false] rfl rfl (any_of HT_.out (by kernel_rfl)) (fun _ _ _ h => h) (Or.inl ⟨by rfl, ?_⟩) ?_ ?_
               rotate_left
               ·
                intro w'
                go_simp
                with_reducible rfl
               rotate_left
               ·
                simp only [Act.put, qsI, qs0, qsS, i64_w, i32_w]
                rfl
               refine last_ (i := 42) (N := none) #[true, true, true, true, true, true, true, true, true, true, true, true, true, true, true, true, true, true, true, true, true, true, true, true, true, true, true, true, true, true, true, true, true, true, true, true, true, true, true, true, true, true, true] rfl rfl (one_of HT_.out (by kernel_rfl)) (by decide) (fun K hK => ?_)
               refine skip_ (w1 := ?_) (by rfl) rfl ?_ ?_
               rotate_left
               ·
                go_simp
                rfl
               refine hK.out _ _ ?_
               clear hK K
               refine done_ (done_of HT_.out (by kernel_rfl)) ?_
               try go_wp2
               go_roundg k2
               case measure => have := HJ4.out; have := HK2.out; omega
               case rel => exact ⟨(y215), (y216), (y217), (wrap64 (x31_2 + 1)), (by first | rfl | (simp; done) | (simp [*]; done)), H', ⟨by have := HJ4.out; have := HK2.out; omega⟩, ⟨by (with_reducible repeat (first | apply qrA | apply qrN | apply qrD)); exact Kd.R_mono (Kd.R_far (p := ⟨go48, (x31_2 : Int).toNat, none⟩) (Kd.R_far (p := ⟨go46, (x31_2 : Int).toNat, none⟩) (Kd.R_far (p := ⟨go44, (x31_2 : Int).toNat, none⟩) (Kd.R_mono (Kd.R_mono (Kd.R_mono HO_8.out (fun k_ hk => (⟨hk, fun e_ => hk.2.1 (by rw [e_]; rfl)⟩ : _ ∧ k_ ≠ go44))) (fun k_ hk => (⟨hk, fun e_ => hk.1.2.2.1 (by rw [e_]; rfl)⟩ : _ ∧ k_ ≠ go46))) (fun k_ hk => (⟨hk, fun e_ => hk.1.1.2.2.2 (by rw [e_]; rfl)⟩ : _ ∧ k_ ≠ go48))) (fun _ hk => hk.1.1.2) (.bool (rdOf false t192 x31_2))) (fun _ hk => hk.1.2) (.bool false)) (fun _ hk => hk.2) (.bool false)) (fun _ hk => ⟨hk.1.1.1.1, ⟨hk.1.1.1.2.1, ⟨hk.1.1.1.2.2.1, hk.1.1.1.2.2.2⟩⟩⟩)⟩, ⟨by (with_reducible repeat (first | apply qrA | apply qrN | apply qrD)); exact Kd.R_mono (Kd.R_far (p := ⟨go48, (x31_2 : Int).toNat, none⟩) (Kd.R_far (p := ⟨go46, (x31_2 : Int).toNat, none⟩) (Kd.R_far (p := ⟨go44, (x31_2 : Int).toNat, none⟩) (Kd.R_mono (Kd.R_mono (Kd.R_mono HO_9.out (fun k_ hk => (⟨hk, fun e_ => hk.2.1 (by rw [e_]; rfl)⟩ : _ ∧ k_ ≠ go44))) (fun k_ hk => (⟨hk, fun e_ => hk.1.2.2.1 (by rw [e_]; rfl)⟩ : _ ∧ k_ ≠ go46))) (fun k_ hk => (⟨hk, fun e_ => hk.1.1.2.2.2 (by rw [e_]; rfl)⟩ : _ ∧ k_ ≠ go48))) (fun _ hk => hk.1.1.2) (.bool (rdOf false t192 x31_2))) (fun _ hk => hk.1.2) (.bool false)) (fun _ hk => hk.2) (.bool false)) (fun _ hk => ⟨hk.1.1.1.1, ⟨hk.1.1.1.2.1, ⟨hk.1.1.1.2.2.1, hk.1.1.1.2.2.2⟩⟩⟩)⟩, ⟨by (with_reducible repeat (first | apply qrA | apply qrN | apply qrD)); exact Kd.R_mono (Kd.R_far (p := ⟨go48, (x31_2 : Int).toNat, none⟩) (Kd.R_far (p := ⟨go46, (x31_2 : Int).toNat, none⟩) (Kd.R_mono (Kd.R_mono HQ51.out (fun k_ hk => (⟨hk, fun e_ => hk.2.2.1 (by rw [e_]; rfl)⟩ : _ ∧ k_ ≠ go46))) (fun k_ hk => (⟨hk, fun e_ => hk.1.2.2.2 (by rw [e_]; rfl)⟩ : _ ∧ k_ ≠ go48))) (fun _ hk => hk.1.2) (.bool false)) (fun _ hk => hk.2) (.bool false)) (fun _ hk => ⟨hk.1.1.1, ⟨hk.1.1.2.1, ⟨hk.1.1.2.2.1, hk.1.1.2.2.2⟩⟩⟩)⟩, ⟨by (with_reducible repeat (first | apply qrA | apply qrN | apply qrD)); exact Kd.R_mono (Kd.R_far (p := ⟨go48, (x31_2 : Int).toNat, none⟩) (Kd.R_mono HQ52.out (fun k_ hk => (⟨hk, fun e_ => hk.1.2.2.2 (by rw [e_]; rfl)⟩ : _ ∧ k_ ≠ go48))) (fun _ hk => hk.2) (.bool false)) (fun _ hk => ⟨hk.1.1.1, ⟨hk.1.1.2.1, ⟨hk.1.1.2.2.1, hk.1.1.2.2.2⟩⟩⟩)⟩, ⟨by (with_reducible repeat (first | apply qrA | apply qrN | apply qrD)); exact Kd.R_mono HQ53.out (fun _ hk => ⟨hk.1.1.1, ⟨hk.1.1.2.1, ⟨hk.1.1.2.2.1, hk.1.1.2.2.2⟩⟩⟩)⟩, ⟨by (with_reducible repeat (first | refine qkN ?_ _ | refine qkD ?_ | refine qkA ?_ _)); refine blk_far ?_ (by have h_ := Kd.R_ne HO_12.out BK187.out (by decide); intro e_; exact h_ (by rw [e_]; rfl)) _; (with_reducible repeat (first | refine qkN ?_ _ | refine qkD ?_ | refine qkA ?_ _)); refine blk_far ?_ (by have h_ := Kd.R_ne HO_11.out BK187.out (by decide); intro e_; exact h_ (by rw [e_]; rfl)) _; (with_reducible repeat (first | refine qkN ?_ _ | refine qkD ?_ | refine qkA ?_ _)); refine blk_far ?_ (by have h_ := Kd.R_ne HO_10.out BK187.out (by decide); intro e_; exact h_ (by rw [e_]; rfl)) _; (with_reducible repeat (first | refine qkN ?_ _ | refine qkD ?_ | refine qkA ?_ _)); exact BK187.out⟩, ⟨by repeat (first | (with_reducible first | exact HB.out | apply qbA | apply qbN | apply qbD | refine below_set ?_ GB44.out | refine below_set ?_ GB46.out | refine below_set ?_ GB48.out | refine below_set ?_ GE187.out) | exact HB.out)⟩⟩
              ·
               rw [if_neg c47] at H
               exact absurd H (by simp)
             ·
              rw [if_neg c45] at H
              exact absurd H (by simp)
            ·
             rw [if_neg c43] at H
             exact absurd H (by simp)
           ·
            rw [if_neg c42] at H
            exact absurd H (by simp)
         ·
          rw [if_neg c27] at H
          exact absurd H (by simp)
        ·
         rw [if_neg c26] at H
         exact absurd H (by simp)
       ·
        rw [if_neg c25] at H
        have c25b0 : decide (x31_2 < (t189.length : Int)) = false := decide_eq_false c25
        clear c25
        replace H := Option.bind_eq_some_iff.mp H
        obtain ⟨t218, A540, H⟩ := H
        replace H : (if t218 = true then ((span_Check.f a0_0 a0_1).bind fun t219 => (if t219 = x7_4 then ((span_Norm.f k2 l1).bind fun t220 => ((wrackref1_Set.f k2 t189).bind fun t223 => ((wrackref1_SameSpans.f k2 t220 t223).bind fun t226 => (if t226 = true then ((span_Join.f k2 l1 l2).bind fun t227 => ((wrackref1_Set.f k2 x10_2).bind fun t230 => ((wrackref1_SameSpans.f k2 t227 t230).bind fun t233 => (if t233 = true then ((span_Meet.f k2 l1 l2).bind fun t234 => ((wrackref1_Set.f k2 x11_2).bind fun t237 => ((wrackref1_SameSpans.f k2 t234 t237).bind fun t240 => (if t240 = true then ((span_Less.f k2 l1 l2).bind fun t241 => ((wrackref1_Set.f k2 x12_2).bind fun t244 => ((wrackref1_SameSpans.f k2 t241 t244).bind fun t247 => (some t247)))) else (some false))))) else (some false))))) else (some false))))) else (some false))) else (some false)) = some r := H
        have A54 := Aside0.mk A540
        clear A540
        by_cases c55 : t218 = true
        ·
         subst c55
         have H1 : ((span_Check.f a0_0 a0_1).bind fun t219 => (if t219 = x7_4 then ((span_Norm.f k2 l1).bind fun t220 => ((wrackref1_Set.f k2 t189).bind fun t223 => ((wrackref1_SameSpans.f k2 t220 t223).bind fun t226 => (if t226 = true then ((span_Join.f k2 l1 l2).bind fun t227 => ((wrackref1_Set.f k2 x10_2).bind fun t230 => ((wrackref1_SameSpans.f k2 t227 t230).bind fun t233 => (if t233 = true then ((span_Meet.f k2 l1 l2).bind fun t234 => ((wrackref1_Set.f k2 x11_2).bind fun t237 => ((wrackref1_SameSpans.f k2 t234 t237).bind fun t240 => (if t240 = true then ((span_Less.f k2 l1 l2).bind fun t241 => ((wrackref1_Set.f k2 x12_2).bind fun t244 => ((wrackref1_SameSpans.f k2 t241 t244).bind fun t247 => (some t247)))) else (some false))))) else (some false))))) else (some false))))) else (some false))) = some r := by rw [if_pos rfl] at H; exact H
         clear H
         have H := H1
         clear H1
         replace H := Option.bind_eq_some_iff.mp H
         obtain ⟨t219, A560, H⟩ := H
         replace H : (if t219 = x7_4 then ((span_Norm.f k2 l1).bind fun t220 => ((wrackref1_Set.f k2 t189).bind fun t223 => ((wrackref1_SameSpans.f k2 t220 t223).bind fun t226 => (if t226 = true then ((span_Join.f k2 l1 l2).bind fun t227 => ((wrackref1_Set.f k2 x10_2).bind fun t230 => ((wrackref1_SameSpans.f k2 t227 t230).bind fun t233 => (if t233 = true then ((span_Meet.f k2 l1 l2).bind fun t234 => ((wrackref1_Set.f k2 x11_2).bind fun t237 => ((wrackref1_SameSpans.f k2 t234 t237).bind fun t240 => (if t240 = true then ((span_Less.f k2 l1 l2).bind fun t241 => ((wrackref1_Set.f k2 x12_2).bind fun t244 => ((wrackref1_SameSpans.f k2 t241 t244).bind fun t247 => (some t247)))) else (some false))))) else (some false))))) else (some false))))) else (some false)) = some r := H
         have A56 := Aside0.mk A560
         clear A560
         by_cases c57 : t219 = x7_4
         ·
          rw [if_pos c57] at H
          have c57b0 : (t219 == x7_4) = true := beq_iff_eq.mpr c57
          have c57b1 : (t219 != x7_4) = false := bne_eq_false_iff_eq.mpr c57
          clear c57
          replace H := Option.bind_eq_some_iff.mp H
          obtain ⟨t220, A580, H⟩ := H
          replace H : ((wrackref1_Set.f k2 t189).bind fun t223 => ((wrackref1_SameSpans.f k2 t220 t223).bind fun t226 => (if t226 = true then ((span_Join.f k2 l1 l2).bind fun t227 => ((wrackref1_Set.f k2 x10_2).bind fun t230 => ((wrackref1_SameSpans.f k2 t227 t230).bind fun t233 => (if t233 = true then ((span_Meet.f k2 l1 l2).bind fun t234 => ((wrackref1_Set.f k2 x11_2).bind fun t237 => ((wrackref1_SameSpans.f k2 t234 t237).bind fun t240 => (if t240 = true then ((span_Less.f k2 l1 l2).bind fun t241 => ((wrackref1_Set.f k2 x12_2).bind fun t244 => ((wrackref1_SameSpans.f k2 t241 t244).bind fun t247 => (some t247)))) else (some false))))) else (some false))))) else (some false)))) = some r := H
          have A58 := Aside0.mk A580
          clear A580
          replace H := Option.bind_eq_some_iff.mp H
          obtain ⟨t223, A590, H⟩ := H
          replace H : ((wrackref1_SameSpans.f k2 t220 t223).bind fun t226 => (if t226 = true then ((span_Join.f k2 l1 l2).bind fun t227 => ((wrackref1_Set.f k2 x10_2).bind fun t230 => ((wrackref1_SameSpans.f k2 t227 t230).bind fun t233 => (if t233 = true then ((span_Meet.f k2 l1 l2).bind fun t234 => ((wrackref1_Set.f k2 x11_2).bind fun t237 => ((wrackref1_SameSpans.f k2 t234 t237).bind fun t240 => (if t240 = true then ((span_Less.f k2 l1 l2).bind fun t241 => ((wrackref1_Set.f k2 x12_2).bind fun t244 => ((wrackref1_SameSpans.f k2 t241 t244).bind fun t247 => (some t247)))) else (some false))))) else (some false))))) else (some false))) = some r := H
          have A59 := Aside0.mk A590
          clear A590
          replace H := Option.bind_eq_some_iff.mp H
          obtain ⟨t226, A600, H⟩ := H
          replace H : (if t226 = true then ((span_Join.f k2 l1 l2).bind fun t227 => ((wrackref1_Set.f k2 x10_2).bind fun t230 => ((wrackref1_SameSpans.f k2 t227 t230).bind fun t233 => (if t233 = true then ((span_Meet.f k2 l1 l2).bind fun t234 => ((wrackref1_Set.f k2 x11_2).bind fun t237 => ((wrackref1_SameSpans.f k2 t234 t237).bind fun t240 => (if t240 = true then ((span_Less.f k2 l1 l2).bind fun t241 => ((wrackref1_Set.f k2 x12_2).bind fun t244 => ((wrackref1_SameSpans.f k2 t241 t244).bind fun t247 => (some t247)))) else (some false))))) else (some false))))) else (some false)) = some r := H
          have A60 := Aside0.mk A600
          clear A600
          by_cases c61 : t226 = true
          ·
           subst c61
           have H1 : ((span_Join.f k2 l1 l2).bind fun t227 => ((wrackref1_Set.f k2 x10_2).bind fun t230 => ((wrackref1_SameSpans.f k2 t227 t230).bind fun t233 => (if t233 = true then ((span_Meet.f k2 l1 l2).bind fun t234 => ((wrackref1_Set.f k2 x11_2).bind fun t237 => ((wrackref1_SameSpans.f k2 t234 t237).bind fun t240 => (if t240 = true then ((span_Less.f k2 l1 l2).bind fun t241 => ((wrackref1_Set.f k2 x12_2).bind fun t244 => ((wrackref1_SameSpans.f k2 t241 t244).bind fun t247 => (some t247)))) else (some false))))) else (some false))))) = some r := by rw [if_pos rfl] at H; exact H
           clear H
           have H := H1
           clear H1
           replace H := Option.bind_eq_some_iff.mp H
           obtain ⟨t227, A620, H⟩ := H
           replace H : ((wrackref1_Set.f k2 x10_2).bind fun t230 => ((wrackref1_SameSpans.f k2 t227 t230).bind fun t233 => (if t233 = true then ((span_Meet.f k2 l1 l2).bind fun t234 => ((wrackref1_Set.f k2 x11_2).bind fun t237 => ((wrackref1_SameSpans.f k2 t234 t237).bind fun t240 => (if t240 = true then ((span_Less.f k2 l1 l2).bind fun t241 => ((wrackref1_Set.f k2 x12_2).bind fun t244 => ((wrackref1_SameSpans.f k2 t241 t244).bind fun t247 => (some t247)))) else (some false))))) else (some false)))) = some r := H
           have A62 := Aside0.mk A620
           clear A620
           replace H := Option.bind_eq_some_iff.mp H
           obtain ⟨t230, A630, H⟩ := H
           replace H : ((wrackref1_SameSpans.f k2 t227 t230).bind fun t233 => (if t233 = true then ((span_Meet.f k2 l1 l2).bind fun t234 => ((wrackref1_Set.f k2 x11_2).bind fun t237 => ((wrackref1_SameSpans.f k2 t234 t237).bind fun t240 => (if t240 = true then ((span_Less.f k2 l1 l2).bind fun t241 => ((wrackref1_Set.f k2 x12_2).bind fun t244 => ((wrackref1_SameSpans.f k2 t241 t244).bind fun t247 => (some t247)))) else (some false))))) else (some false))) = some r := H
           have A63 := Aside0.mk A630
           clear A630
           replace H := Option.bind_eq_some_iff.mp H
           obtain ⟨t233, A640, H⟩ := H
           replace H : (if t233 = true then ((span_Meet.f k2 l1 l2).bind fun t234 => ((wrackref1_Set.f k2 x11_2).bind fun t237 => ((wrackref1_SameSpans.f k2 t234 t237).bind fun t240 => (if t240 = true then ((span_Less.f k2 l1 l2).bind fun t241 => ((wrackref1_Set.f k2 x12_2).bind fun t244 => ((wrackref1_SameSpans.f k2 t241 t244).bind fun t247 => (some t247)))) else (some false))))) else (some false)) = some r := H
           have A64 := Aside0.mk A640
           clear A640
           by_cases c65 : t233 = true
           ·
            subst c65
            have H1 : ((span_Meet.f k2 l1 l2).bind fun t234 => ((wrackref1_Set.f k2 x11_2).bind fun t237 => ((wrackref1_SameSpans.f k2 t234 t237).bind fun t240 => (if t240 = true then ((span_Less.f k2 l1 l2).bind fun t241 => ((wrackref1_Set.f k2 x12_2).bind fun t244 => ((wrackref1_SameSpans.f k2 t241 t244).bind fun t247 => (some t247)))) else (some false))))) = some r := by rw [if_pos rfl] at H; exact H
            clear H
            have H := H1
            clear H1
            replace H := Option.bind_eq_some_iff.mp H
            obtain ⟨t234, A660, H⟩ := H
            replace H : ((wrackref1_Set.f k2 x11_2).bind fun t237 => ((wrackref1_SameSpans.f k2 t234 t237).bind fun t240 => (if t240 = true then ((span_Less.f k2 l1 l2).bind fun t241 => ((wrackref1_Set.f k2 x12_2).bind fun t244 => ((wrackref1_SameSpans.f k2 t241 t244).bind fun t247 => (some t247)))) else (some false)))) = some r := H
            have A66 := Aside0.mk A660
            clear A660
            replace H := Option.bind_eq_some_iff.mp H
            obtain ⟨t237, A670, H⟩ := H
            replace H : ((wrackref1_SameSpans.f k2 t234 t237).bind fun t240 => (if t240 = true then ((span_Less.f k2 l1 l2).bind fun t241 => ((wrackref1_Set.f k2 x12_2).bind fun t244 => ((wrackref1_SameSpans.f k2 t241 t244).bind fun t247 => (some t247)))) else (some false))) = some r := H
            have A67 := Aside0.mk A670
            clear A670
            replace H := Option.bind_eq_some_iff.mp H
            obtain ⟨t240, A680, H⟩ := H
            replace H : (if t240 = true then ((span_Less.f k2 l1 l2).bind fun t241 => ((wrackref1_Set.f k2 x12_2).bind fun t244 => ((wrackref1_SameSpans.f k2 t241 t244).bind fun t247 => (some t247)))) else (some false)) = some r := H
            have A68 := Aside0.mk A680
            clear A680
            by_cases c69 : t240 = true
            ·
             subst c69
             have H1 : ((span_Less.f k2 l1 l2).bind fun t241 => ((wrackref1_Set.f k2 x12_2).bind fun t244 => ((wrackref1_SameSpans.f k2 t241 t244).bind fun t247 => (some t247)))) = some r := by rw [if_pos rfl] at H; exact H
             clear H
             have H := H1
             clear H1
             replace H := Option.bind_eq_some_iff.mp H
             obtain ⟨t241, A700, H⟩ := H
             replace H : ((wrackref1_Set.f k2 x12_2).bind fun t244 => ((wrackref1_SameSpans.f k2 t241 t244).bind fun t247 => (some t247))) = some r := H
             have A70 := Aside0.mk A700
             clear A700
             replace H := Option.bind_eq_some_iff.mp H
             obtain ⟨t244, A710, H⟩ := H
             replace H : ((wrackref1_SameSpans.f k2 t241 t244).bind fun t247 => (some t247)) = some r := H
             have A71 := Aside0.mk A710
             clear A710
             replace H := Option.bind_eq_some_iff.mp H
             obtain ⟨t247, A720, H⟩ := H
             replace H : (some t247) = some r := H
             have A72 := Aside0.mk A720
             clear A720
             obtain rfl := Option.some.inj H
             go_wp2_with (first | ((with_reducible refine gate_callee (f := 60) rfl ?_); refine goesL_ (some 75) rfl rfl Try.func60 (by kernel_rfl) rfl #[] rfl (by (try simp only [qmT, qmC, qmN]); first | done | rfl | (simp only [List.length_drop, List.length_take]; rfl)) ?_; (with_reducible refine (wracklaw1_spans.calls  true _ A54.out).mono ?_); rintro e w73 ⟨rfl, hb⟩; refine ⟨_, rfl, ?_⟩; have n0_ := Aside0.mk (qrB (by (with_reducible repeat (first | apply qrA | apply qrN | apply qrD)); exact HO_8.out) hb); have n1_ := Aside0.mk (qrB (by (with_reducible repeat (first | apply qrA | apply qrN | apply qrD)); exact HO_9.out) hb); have n2_ := Aside0.mk (qrB (by (with_reducible repeat (first | apply qrA | apply qrN | apply qrD)); exact HO_10.out) hb); have n3_ := Aside0.mk (qrB (by (with_reducible repeat (first | apply qrA | apply qrN | apply qrD)); exact HO_11.out) hb); have n4_ := Aside0.mk (qrB (by (with_reducible repeat (first | apply qrA | apply qrN | apply qrD)); exact HO_12.out) hb); have n5_ := Aside0.mk (qkB (g := gb187) (o := .cells #[.int .i64 a0_0, .int .i64 a0_1] 95 (0, 0)) (by (with_reducible repeat (first | refine qkN ?_ _ | refine qkD ?_ | refine qkA ?_ _)); exact BK187.out) hb); have n6_ := Aside0.mk (qbS (by repeat (first | (with_reducible first | exact HB.out | apply qbA | apply qbN | apply qbD | refine below_set ?_ GE187.out) | exact HB.out)) hb); clear HO_8 HO_9 HO_10 HO_11 HO_12 BK187 HB; have HO_8 := n0_; have HO_9 := n1_; have HO_10 := n2_; have HO_11 := n3_; have HO_12 := n4_; have BK187 := n5_; have HB := n6_; clear n0_ n1_ n2_ n3_ n4_ n5_ n6_; (try clear hb); (try clear hb2); (try clear hk); (try clear hi); have hcz74_0 : w73.cell? ⟨gb187, 0, none⟩ = some (.int .i64 a0_0) := (blk_cell BK187.out 0).trans rfl; have hcz74_1 : w73.cell? ⟨gb187, 1, none⟩ = some (.int .i64 a0_1) := (blk_cell BK187.out 1).trans rfl; have hfz74_0 := blk_frozen BK187.out 0; have hfz74_1 := blk_frozen BK187.out 1) | (go_at_call 63; (with_reducible refine (span_Check.calls a0_0 a0_1 t219 _ A56.out).mono ?_); rintro e w75 ⟨rfl, hb⟩; have n0_ := Aside0.mk (qrB (by (with_reducible repeat (first | apply qrA | apply qrN | apply qrD)); exact HO_8.out) hb); have n1_ := Aside0.mk (qrB (by (with_reducible repeat (first | apply qrA | apply qrN | apply qrD)); exact HO_9.out) hb); have n2_ := Aside0.mk (qrB (by (with_reducible repeat (first | apply qrA | apply qrN | apply qrD)); exact HO_10.out) hb); have n3_ := Aside0.mk (qrB (by (with_reducible repeat (first | apply qrA | apply qrN | apply qrD)); exact HO_11.out) hb); have n4_ := Aside0.mk (qrB (by (with_reducible repeat (first | apply qrA | apply qrN | apply qrD)); exact HO_12.out) hb); have n5_ := Aside0.mk (qkB (g := gb187) (o := .cells #[.int .i64 a0_0, .int .i64 a0_1] 95 (0, 0)) (by (with_reducible repeat (first | refine qkN ?_ _ | refine qkD ?_ | refine qkA ?_ _)); exact BK187.out) hb); have n6_ := Aside0.mk (qbS (by repeat (first | (with_reducible first | exact HB.out | apply qbA | apply qbN | apply qbD | refine below_set ?_ GE187.out) | exact HB.out)) hb); clear HO_8 HO_9 HO_10 HO_11 HO_12 BK187 HB; have HO_8 := n0_; have HO_9 := n1_; have HO_10 := n2_; have HO_11 := n3_; have HO_12 := n4_; have BK187 := n5_; have HB := n6_; clear n0_ n1_ n2_ n3_ n4_ n5_ n6_; (try clear hb); (try clear hb2); (try clear hk); (try clear hi)) | (go_at_call 65; (with_reducible refine (span_Norm.calls k2 _ _ l1 t220 _ ?side1 ?side2 A58.out).mono ?_); (case side1 => repeat (first | exact (qcB HR1.out HB.out) | (with_reducible refine qcA ?_ _) | (with_reducible refine qcN ?_ _) | (with_reducible refine qcD ?_))); (case side2 => exact HC1.out); rintro e w76 ⟨v221, rfl, ho0, hb⟩; have n0_ := Aside0.mk (qrB (by (with_reducible repeat (first | apply qrA | apply qrN | apply qrD)); exact HO_8.out) hb); have n1_ := Aside0.mk (qrB (by (with_reducible repeat (first | apply qrA | apply qrN | apply qrD)); exact HO_9.out) hb); have n2_ := Aside0.mk (qrB (by (with_reducible repeat (first | apply qrA | apply qrN | apply qrD)); exact HO_10.out) hb); have n3_ := Aside0.mk (qrB (by (with_reducible repeat (first | apply qrA | apply qrN | apply qrD)); exact HO_11.out) hb); have n4_ := Aside0.mk (qrB (by (with_reducible repeat (first | apply qrA | apply qrN | apply qrD)); exact HO_12.out) hb); have n5_ := Aside0.mk (Kd.R_lower (Kd.R_newB ho0 (g := gb187) (o := .cells #[.int .i64 a0_0, .int .i64 a0_1] 95 (0, 0)) (by (with_reducible repeat (first | refine qkN ?_ _ | refine qkD ?_ | refine qkA ?_ _)); exact BK187.out)) (below_size (by repeat (first | (with_reducible first | exact HB.out | apply qbA | apply qbN | apply qbD | refine below_set ?_ GE187.out) | exact HB.out)))); have n6_ := Aside0.mk (qkB (g := gb187) (o := .cells #[.int .i64 a0_0, .int .i64 a0_1] 95 (0, 0)) (by (with_reducible repeat (first | refine qkN ?_ _ | refine qkD ?_ | refine qkA ?_ _)); exact BK187.out) hb); have n7_ := Aside0.mk (qbS (by repeat (first | (with_reducible first | exact HB.out | apply qbA | apply qbN | apply qbD | refine below_set ?_ GE187.out) | exact HB.out)) hb); clear HO_8 HO_9 HO_10 HO_11 HO_12 BK187 HB; have HO_8 := n0_; have HO_9 := n1_; have HO_10 := n2_; have HO_11 := n3_; have HO_12 := n4_; have HO222 := n5_; have BK187 := n6_; have HB := n7_; clear n0_ n1_ n2_ n3_ n4_ n5_ n6_ n7_; (try clear hb); (try clear hb2); (try clear hk); (try clear hi); (try clear ho0)) | (go_at_call 66; (with_reducible refine (wrackref1_Set.calls k2 _ _ t189 t223 _ ?side1 ?side2 A59.out).mono ?_); (case side1 => repeat (first | exact (Kd.R_reads' HO_8.out).2.2 | (with_reducible refine qcA ?_ _) | (with_reducible refine qcN ?_ _) | (with_reducible refine qcD ?_))); (case side2 => exact (Kd.R_reads' HO_8.out).2.1); rintro e w77 ⟨v224, rfl, ho0, hb⟩; have n0_ := Aside0.mk (qrB (by (with_reducible repeat (first | apply qrA | apply qrN | apply qrD)); exact HO_8.out) hb); have n1_ := Aside0.mk (qrB (by (with_reducible repeat (first | apply qrA | apply qrN | apply qrD)); exact HO_9.out) hb); have n2_ := Aside0.mk (qrB (by (with_reducible repeat (first | apply qrA | apply qrN | apply qrD)); exact HO_10.out) hb); have n3_ := Aside0.mk (qrB (by (with_reducible repeat (first | apply qrA | apply qrN | apply qrD)); exact HO_11.out) hb); have n4_ := Aside0.mk (qrB (by (with_reducible repeat (first | apply qrA | apply qrN | apply qrD)); exact HO_12.out) hb); have n5_ := Aside0.mk (Kd.R_elder' (by (with_reducible repeat (first | apply qrA | apply qrN | apply qrD)); exact HO222.out) (Kd.R_base ho0) hb); have n6_ := Aside0.mk (Kd.R_lower (Kd.R_newB (Kd.R_new' ho0 (Kd.R_lt (by (with_reducible repeat (first | apply qrA | apply qrN | apply qrD)); exact HO222.out))) (g := gb187) (o := .cells #[.int .i64 a0_0, .int .i64 a0_1] 95 (0, 0)) (by (with_reducible repeat (first | refine qkN ?_ _ | refine qkD ?_ | refine qkA ?_ _)); exact BK187.out)) (below_size (by repeat (first | (with_reducible first | exact HB.out | apply qbA | apply qbN | apply qbD | refine below_set ?_ GE187.out) | exact HB.out)))); have n7_ := Aside0.mk (qkB (g := gb187) (o := .cells #[.int .i64 a0_0, .int .i64 a0_1] 95 (0, 0)) (by (with_reducible repeat (first | refine qkN ?_ _ | refine qkD ?_ | refine qkA ?_ _)); exact BK187.out) hb); have n8_ := Aside0.mk (qbS (by repeat (first | (with_reducible first | exact HB.out | apply qbA | apply qbN | apply qbD | refine below_set ?_ GE187.out) | exact HB.out)) hb); clear HO_8 HO_9 HO_10 HO_11 HO_12 HO222 BK187 HB; have HO_8 := n0_; have HO_9 := n1_; have HO_10 := n2_; have HO_11 := n3_; have HO_12 := n4_; have HO222 := n5_; have HO225 := n6_; have BK187 := n7_; have HB := n8_; clear n0_ n1_ n2_ n3_ n4_ n5_ n6_ n7_ n8_; (try clear hb); (try clear hb2); (try clear hk); (try clear hi); (try clear ho0); obtain ⟨Ao78, co78, eo78⟩ := Kd.R_slice HO222.out; subst eo78; obtain ⟨Ao79, co79, eo79⟩ := Kd.R_slice HO225.out; subst eo79) | (go_at_call 64; (with_reducible refine (wrackref1_SameSpans.calls k2 _ _ t220 _ _ t223 true _ ?side1 ?side2 ?side3 ?side4 A60.out).mono ?_); (case side1 => repeat (first | exact (Kd.R_reads' HO222.out).2.2 | (with_reducible refine qcA ?_ _) | (with_reducible refine qcN ?_ _) | (with_reducible refine qcD ?_))); (case side2 => exact (Kd.R_reads' HO222.out).2.1); (case side3 => repeat (first | exact (Kd.R_reads' HO225.out).2.2 | (with_reducible refine qcA ?_ _) | (with_reducible refine qcN ?_ _) | (with_reducible refine qcD ?_))); (case side4 => exact (Kd.R_reads' HO225.out).2.1); rintro e w' ⟨rfl, ⟨nd, rfl⟩⟩) | (go_at_call 67; (with_reducible refine (span_Join.calls k2 (fun k_ => k_ < w.heap.size) _ _ l1 (fun k_ => k_ < w.heap.size) _ _ l2 t227 _ ?side1 ?side2 A62.out).mono ?_); (case side1 => exact Kd.V_mk HC1.out (Kd.F_below (Kd.C_F k95_heap HR1.out) (by repeat (first | (with_reducible first | exact HB.out | apply qbA | apply qbN | apply qbD | refine below_set ?_ GE187.out) | exact HB.out)))); (case side2 => exact Kd.V_mk HC2.out (Kd.F_below (Kd.C_F k95_heap HR2.out) (by repeat (first | (with_reducible first | exact HB.out | apply qbA | apply qbN | apply qbD | refine below_set ?_ GE187.out) | exact HB.out)))); rintro e w80 ⟨v228, rfl, ho0, hb⟩; have n0_ := Aside0.mk (qrB (by (with_reducible repeat (first | apply qrA | apply qrN | apply qrD)); exact HO_8.out) hb); have n1_ := Aside0.mk (qrB (by (with_reducible repeat (first | apply qrA | apply qrN | apply qrD)); exact HO_9.out) hb); have n2_ := Aside0.mk (qrB (by (with_reducible repeat (first | apply qrA | apply qrN | apply qrD)); exact HO_10.out) hb); have n3_ := Aside0.mk (qrB (by (with_reducible repeat (first | apply qrA | apply qrN | apply qrD)); exact HO_11.out) hb); have n4_ := Aside0.mk (qrB (by (with_reducible repeat (first | apply qrA | apply qrN | apply qrD)); exact HO_12.out) hb); have n5_ := Aside0.mk (Kd.R_elder' (by (with_reducible repeat (first | apply qrA | apply qrN | apply qrD)); exact HO222.out) (Kd.R_base ho0) hb); have n6_ := Aside0.mk (Kd.R_elder' (by (with_reducible repeat (first | apply qrA | apply qrN | apply qrD)); exact HO225.out) (Kd.R_base ho0) hb); have n7_ := Aside0.mk (Kd.R_lower (Kd.R_newB (Kd.R_new' (Kd.R_new' (Kd.R_mono (ok' := fun k_ => True) ho0 (fun _ hk_ => trivial)) (Kd.R_lt (by (with_reducible repeat (first | apply qrA | apply qrN | apply qrD)); exact HO222.out))) (Kd.R_lt (by (with_reducible repeat (first | apply qrA | apply qrN | apply qrD)); exact HO225.out))) (g := gb187) (o := .cells #[.int .i64 a0_0, .int .i64 a0_1] 95 (0, 0)) (by (with_reducible repeat (first | refine qkN ?_ _ | refine qkD ?_ | refine qkA ?_ _)); exact BK187.out)) (below_size (by repeat (first | (with_reducible first | exact HB.out | apply qbA | apply qbN | apply qbD | refine below_set ?_ GE187.out) | exact HB.out)))); have n8_ := Aside0.mk (qkB (g := gb187) (o := .cells #[.int .i64 a0_0, .int .i64 a0_1] 95 (0, 0)) (by (with_reducible repeat (first | refine qkN ?_ _ | refine qkD ?_ | refine qkA ?_ _)); exact BK187.out) hb); have n9_ := Aside0.mk (qbS (by repeat (first | (with_reducible first | exact HB.out | apply qbA | apply qbN | apply qbD | refine below_set ?_ GE187.out) | exact HB.out)) hb); clear HO_8 HO_9 HO_10 HO_11 HO_12 HO222 HO225 BK187 HB; have HO_8 := n0_; have HO_9 := n1_; have HO_10 := n2_; have HO_11 := n3_; have HO_12 := n4_; have HO222 := n5_; have HO225 := n6_; have HO229 := n7_; have BK187 := n8_; have HB := n9_; clear n0_ n1_ n2_ n3_ n4_ n5_ n6_ n7_ n8_ n9_; (try clear hb); (try clear hb2); (try clear hk); (try clear hi); (try clear ho0); obtain ⟨Ao81, co81, eo81⟩ := Kd.R_slice HO_10.out; subst eo81) | (go_at_call 66; (with_reducible refine (wrackref1_Set.calls k2 _ _ x10_2 t230 _ ?side1 ?side2 A63.out).mono ?_); (case side1 => repeat (first | exact (Kd.R_reads' HO_10.out).2.2 | (with_reducible refine qcA ?_ _) | (with_reducible refine qcN ?_ _) | (with_reducible refine qcD ?_))); (case side2 => exact (Kd.R_reads' HO_10.out).2.1); rintro e w82 ⟨v231, rfl, ho0, hb⟩; have n0_ := Aside0.mk (qrB (by (with_reducible repeat (first | apply qrA | apply qrN | apply qrD)); exact HO_8.out) hb); have n1_ := Aside0.mk (qrB (by (with_reducible repeat (first | apply qrA | apply qrN | apply qrD)); exact HO_9.out) hb); have n2_ := Aside0.mk (qrB (by (with_reducible repeat (first | apply qrA | apply qrN | apply qrD)); exact HO_10.out) hb); have n3_ := Aside0.mk (qrB (by (with_reducible repeat (first | apply qrA | apply qrN | apply qrD)); exact HO_11.out) hb); have n4_ := Aside0.mk (qrB (by (with_reducible repeat (first | apply qrA | apply qrN | apply qrD)); exact HO_12.out) hb); have n5_ := Aside0.mk (Kd.R_elder' (by (with_reducible repeat (first | apply qrA | apply qrN | apply qrD)); exact HO222.out) (Kd.R_base ho0) hb); have n6_ := Aside0.mk (Kd.R_elder' (by (with_reducible repeat (first | apply qrA | apply qrN | apply qrD)); exact HO225.out) (Kd.R_base ho0) hb); have n7_ := Aside0.mk (Kd.R_elder' (by (with_reducible repeat (first | apply qrA | apply qrN | apply qrD)); exact HO229.out) (Kd.R_base ho0) hb); have n8_ := Aside0.mk (Kd.R_lower (Kd.R_newB (Kd.R_new' (Kd.R_new' (Kd.R_new' ho0 (Kd.R_lt (by (with_reducible repeat (first | apply qrA | apply qrN | apply qrD)); exact HO222.out))) (Kd.R_lt (by (with_reducible repeat (first | apply qrA | apply qrN | apply qrD)); exact HO225.out))) (Kd.R_lt (by (with_reducible repeat (first | apply qrA | apply qrN | apply qrD)); exact HO229.out))) (g := gb187) (o := .cells #[.int .i64 a0_0, .int .i64 a0_1] 95 (0, 0)) (by (with_reducible repeat (first | refine qkN ?_ _ | refine qkD ?_ | refine qkA ?_ _)); exact BK187.out)) (below_size (by repeat (first | (with_reducible first | exact HB.out | apply qbA | apply qbN | apply qbD | refine below_set ?_ GE187.out) | exact HB.out)))); have n9_ := Aside0.mk (qkB (g := gb187) (o := .cells #[.int .i64 a0_0, .int .i64 a0_1] 95 (0, 0)) (by (with_reducible repeat (first | refine qkN ?_ _ | refine qkD ?_ | refine qkA ?_ _)); exact BK187.out) hb); have n10_ := Aside0.mk (qbS (by repeat (first | (with_reducible first | exact HB.out | apply qbA | apply qbN | apply qbD | refine below_set ?_ GE187.out) | exact HB.out)) hb); clear HO_8 HO_9 HO_10 HO_11 HO_12 HO222 HO225 HO229 BK187 HB; have HO_8 := n0_; have HO_9 := n1_; have HO_10 := n2_; have HO_11 := n3_; have HO_12 := n4_; have HO222 := n5_; have HO225 := n6_; have HO229 := n7_; have HO232 := n8_; have BK187 := n9_; have HB := n10_; clear n0_ n1_ n2_ n3_ n4_ n5_ n6_ n7_ n8_ n9_ n10_; (try clear hb); (try clear hb2); (try clear hk); (try clear hi); (try clear ho0); obtain ⟨Ao83, co83, eo83⟩ := Kd.R_slice HO229.out; subst eo83; obtain ⟨Ao84, co84, eo84⟩ := Kd.R_slice HO232.out; subst eo84) | (go_at_call 64; (with_reducible refine (wrackref1_SameSpans.calls k2 _ _ t227 _ _ t230 true _ ?side1 ?side2 ?side3 ?side4 A64.out).mono ?_); (case side1 => repeat (first | exact (Kd.R_reads' HO229.out).2.2 | (with_reducible refine qcA ?_ _) | (with_reducible refine qcN ?_ _) | (with_reducible refine qcD ?_))); (case side2 => exact (Kd.R_reads' HO229.out).2.1); (case side3 => repeat (first | exact (Kd.R_reads' HO232.out).2.2 | (with_reducible refine qcA ?_ _) | (with_reducible refine qcN ?_ _) | (with_reducible refine qcD ?_))); (case side4 => exact (Kd.R_reads' HO232.out).2.1); rintro e w' ⟨rfl, ⟨nd, rfl⟩⟩) | (go_at_call 68; (with_reducible refine (span_Meet.calls k2 _ _ l1 _ _ l2 t234 _ ?side1 ?side2 ?side3 ?side4 A66.out).mono ?_); (case side1 => repeat (first | exact (qcB HR1.out (by repeat (first | (with_reducible first | exact HB.out | apply qbA | apply qbN | apply qbD | refine below_set ?_ GE187.out) | exact HB.out))) | (with_reducible refine qcA ?_ _) | (with_reducible refine qcN ?_ _) | (with_reducible refine qcD ?_))); (case side2 => exact HC1.out); (case side3 => repeat (first | exact (qcB HR2.out (by repeat (first | (with_reducible first | exact HB.out | apply qbA | apply qbN | apply qbD | refine below_set ?_ GE187.out) | exact HB.out))) | (with_reducible refine qcA ?_ _) | (with_reducible refine qcN ?_ _) | (with_reducible refine qcD ?_))); (case side4 => exact HC2.out); rintro e w85 ⟨v235, rfl, ho0, hb⟩; have n0_ := Aside0.mk (qrB (by (with_reducible repeat (first | apply qrA | apply qrN | apply qrD)); exact HO_8.out) hb); have n1_ := Aside0.mk (qrB (by (with_reducible repeat (first | apply qrA | apply qrN | apply qrD)); exact HO_9.out) hb); have n2_ := Aside0.mk (qrB (by (with_reducible repeat (first | apply qrA | apply qrN | apply qrD)); exact HO_10.out) hb); have n3_ := Aside0.mk (qrB (by (with_reducible repeat (first | apply qrA | apply qrN | apply qrD)); exact HO_11.out) hb); have n4_ := Aside0.mk (qrB (by (with_reducible repeat (first | apply qrA | apply qrN | apply qrD)); exact HO_12.out) hb); have n5_ := Aside0.mk (Kd.R_elder' (by (with_reducible repeat (first | apply qrA | apply qrN | apply qrD)); exact HO222.out) (Kd.R_base ho0) hb); have n6_ := Aside0.mk (Kd.R_elder' (by (with_reducible repeat (first | apply qrA | apply qrN | apply qrD)); exact HO225.out) (Kd.R_base ho0) hb); have n7_ := Aside0.mk (Kd.R_elder' (by (with_reducible repeat (first | apply qrA | apply qrN | apply qrD)); exact HO229.out) (Kd.R_base ho0) hb); have n8_ := Aside0.mk (Kd.R_elder' (by (with_reducible repeat (first | apply qrA | apply qrN | apply qrD)); exact HO232.out) (Kd.R_base ho0) hb); have n9_ := Aside0.mk (Kd.R_lower (Kd.R_newB (Kd.R_new' (Kd.R_new' (Kd.R_new' (Kd.R_new' ho0 (Kd.R_lt (by (with_reducible repeat (first | apply qrA | apply qrN | apply qrD)); exact HO222.out))) (Kd.R_lt (by (with_reducible repeat (first | apply qrA | apply qrN | apply qrD)); exact HO225.out))) (Kd.R_lt (by (with_reducible repeat (first | apply qrA | apply qrN | apply qrD)); exact HO229.out))) (Kd.R_lt (by (with_reducible repeat (first | apply qrA | apply qrN | apply qrD)); exact HO232.out))) (g := gb187) (o := .cells #[.int .i64 a0_0, .int .i64 a0_1] 95 (0, 0)) (by (with_reducible repeat (first | refine qkN ?_ _ | refine qkD ?_ | refine qkA ?_ _)); exact BK187.out)) (below_size (by repeat (first | (with_reducible first | exact HB.out | apply qbA | apply qbN | apply qbD | refine below_set ?_ GE187.out) | exact HB.out)))); have n10_ := Aside0.mk (qkB (g := gb187) (o := .cells #[.int .i64 a0_0, .int .i64 a0_1] 95 (0, 0)) (by (with_reducible repeat (first | refine qkN ?_ _ | refine qkD ?_ | refine qkA ?_ _)); exact BK187.out) hb); have n11_ := Aside0.mk (qbS (by repeat (first | (with_reducible first | exact HB.out | apply qbA | apply qbN | apply qbD | refine below_set ?_ GE187.out) | exact HB.out)) hb); clear HO_8 HO_9 HO_10 HO_11 HO_12 HO222 HO225 HO229 HO232 BK187 HB; have HO_8 := n0_; have HO_9 := n1_; have HO_10 := n2_; have HO_11 := n3_; have HO_12 := n4_; have HO222 := n5_; have HO225 := n6_; have HO229 := n7_; have HO232 := n8_; have HO236 := n9_; have BK187 := n10_; have HB := n11_; clear n0_ n1_ n2_ n3_ n4_ n5_ n6_ n7_ n8_ n9_ n10_ n11_; (try clear hb); (try clear hb2); (try clear hk); (try clear hi); (try clear ho0); obtain ⟨Ao86, co86, eo86⟩ := Kd.R_slice HO_11.out; subst eo86) | (go_at_call 66; (with_reducible refine (wrackref1_Set.calls k2 _ _ x11_2 t237 _ ?side1 ?side2 A67.out).mono ?_); (case side1 => repeat (first | exact (Kd.R_reads' HO_11.out).2.2 | (with_reducible refine qcA ?_ _) | (with_reducible refine qcN ?_ _) | (with_reducible refine qcD ?_))); (case side2 => exact (Kd.R_reads' HO_11.out).2.1); rintro e w87 ⟨v238, rfl, ho0, hb⟩; have n0_ := Aside0.mk (qrB (by (with_reducible repeat (first | apply qrA | apply qrN | apply qrD)); exact HO_8.out) hb); have n1_ := Aside0.mk (qrB (by (with_reducible repeat (first | apply qrA | apply qrN | apply qrD)); exact HO_9.out) hb); have n2_ := Aside0.mk (qrB (by (with_reducible repeat (first | apply qrA | apply qrN | apply qrD)); exact HO_10.out) hb); have n3_ := Aside0.mk (qrB (by (with_reducible repeat (first | apply qrA | apply qrN | apply qrD)); exact HO_11.out) hb); have n4_ := Aside0.mk (qrB (by (with_reducible repeat (first | apply qrA | apply qrN | apply qrD)); exact HO_12.out) hb); have n5_ := Aside0.mk (Kd.R_elder' (by (with_reducible repeat (first | apply qrA | apply qrN | apply qrD)); exact HO222.out) (Kd.R_base ho0) hb); have n6_ := Aside0.mk (Kd.R_elder' (by (with_reducible repeat (first | apply qrA | apply qrN | apply qrD)); exact HO225.out) (Kd.R_base ho0) hb); have n7_ := Aside0.mk (Kd.R_elder' (by (with_reducible repeat (first | apply qrA | apply qrN | apply qrD)); exact HO229.out) (Kd.R_base ho0) hb); have n8_ := Aside0.mk (Kd.R_elder' (by (with_reducible repeat (first | apply qrA | apply qrN | apply qrD)); exact HO232.out) (Kd.R_base ho0) hb); have n9_ := Aside0.mk (Kd.R_elder' (by (with_reducible repeat (first | apply qrA | apply qrN | apply qrD)); exact HO236.out) (Kd.R_base ho0) hb); have n10_ := Aside0.mk (Kd.R_lower (Kd.R_newB (Kd.R_new' (Kd.R_new' (Kd.R_new' (Kd.R_new' (Kd.R_new' ho0 (Kd.R_lt (by (with_reducible repeat (first | apply qrA | apply qrN | apply qrD)); exact HO222.out))) (Kd.R_lt (by (with_reducible repeat (first | apply qrA | apply qrN | apply qrD)); exact HO225.out))) (Kd.R_lt (by (with_reducible repeat (first | apply qrA | apply qrN | apply qrD)); exact HO229.out))) (Kd.R_lt (by (with_reducible repeat (first | apply qrA | apply qrN | apply qrD)); exact HO232.out))) (Kd.R_lt (by (with_reducible repeat (first | apply qrA | apply qrN | apply qrD)); exact HO236.out))) (g := gb187) (o := .cells #[.int .i64 a0_0, .int .i64 a0_1] 95 (0, 0)) (by (with_reducible repeat (first | refine qkN ?_ _ | refine qkD ?_ | refine qkA ?_ _)); exact BK187.out)) (below_size (by repeat (first | (with_reducible first | exact HB.out | apply qbA | apply qbN | apply qbD | refine below_set ?_ GE187.out) | exact HB.out)))); have n11_ := Aside0.mk (qkB (g := gb187) (o := .cells #[.int .i64 a0_0, .int .i64 a0_1] 95 (0, 0)) (by (with_reducible repeat (first | refine qkN ?_ _ | refine qkD ?_ | refine qkA ?_ _)); exact BK187.out) hb); have n12_ := Aside0.mk (qbS (by repeat (first | (with_reducible first | exact HB.out | apply qbA | apply qbN | apply qbD | refine below_set ?_ GE187.out) | exact HB.out)) hb); clear HO_8 HO_9 HO_10 HO_11 HO_12 HO222 HO225 HO229 HO232 HO236 BK187 HB; have HO_8 := n0_; have HO_9 := n1_; have HO_10 := n2_; have HO_11 := n3_; have HO_12 := n4_; have HO222 := n5_; have HO225 := n6_; have HO229 := n7_; have HO232 := n8_; have HO236 := n9_; have HO239 := n10_; have BK187 := n11_; have HB := n12_; clear n0_ n1_ n2_ n3_ n4_ n5_ n6_ n7_ n8_ n9_ n10_ n11_ n12_; (try clear hb); (try clear hb2); (try clear hk); (try clear hi); (try clear ho0); obtain ⟨Ao88, co88, eo88⟩ := Kd.R_slice HO236.out; subst eo88; obtain ⟨Ao89, co89, eo89⟩ := Kd.R_slice HO239.out; subst eo89) | (go_at_call 64; (with_reducible refine (wrackref1_SameSpans.calls k2 _ _ t234 _ _ t237 true _ ?side1 ?side2 ?side3 ?side4 A68.out).mono ?_); (case side1 => repeat (first | exact (Kd.R_reads' HO236.out).2.2 | (with_reducible refine qcA ?_ _) | (with_reducible refine qcN ?_ _) | (with_reducible refine qcD ?_))); (case side2 => exact (Kd.R_reads' HO236.out).2.1); (case side3 => repeat (first | exact (Kd.R_reads' HO239.out).2.2 | (with_reducible refine qcA ?_ _) | (with_reducible refine qcN ?_ _) | (with_reducible refine qcD ?_))); (case side4 => exact (Kd.R_reads' HO239.out).2.1); rintro e w' ⟨rfl, ⟨nd, rfl⟩⟩) | (go_at_call 69; (with_reducible refine (span_Less.calls k2 _ _ l1 _ _ l2 t241 _ ?side1 ?side2 ?side3 ?side4 A70.out).mono ?_); (case side1 => repeat (first | exact (qcB HR1.out (by repeat (first | (with_reducible first | exact HB.out | apply qbA | apply qbN | apply qbD | refine below_set ?_ GE187.out) | exact HB.out))) | (with_reducible refine qcA ?_ _) | (with_reducible refine qcN ?_ _) | (with_reducible refine qcD ?_))); (case side2 => exact HC1.out); (case side3 => repeat (first | exact (qcB HR2.out (by repeat (first | (with_reducible first | exact HB.out | apply qbA | apply qbN | apply qbD | refine below_set ?_ GE187.out) | exact HB.out))) | (with_reducible refine qcA ?_ _) | (with_reducible refine qcN ?_ _) | (with_reducible refine qcD ?_))); (case side4 => exact HC2.out); rintro e w90 ⟨v242, rfl, ho0, hb⟩; have n0_ := Aside0.mk (qrB (by (with_reducible repeat (first | apply qrA | apply qrN | apply qrD)); exact HO_8.out) hb); have n1_ := Aside0.mk (qrB (by (with_reducible repeat (first | apply qrA | apply qrN | apply qrD)); exact HO_9.out) hb); have n2_ := Aside0.mk (qrB (by (with_reducible repeat (first | apply qrA | apply qrN | apply qrD)); exact HO_10.out) hb); have n3_ := Aside0.mk (qrB (by (with_reducible repeat (first | apply qrA | apply qrN | apply qrD)); exact HO_11.out) hb); have n4_ := Aside0.mk (qrB (by (with_reducible repeat (first | apply qrA | apply qrN | apply qrD)); exact HO_12.out) hb); have n5_ := Aside0.mk (Kd.R_elder' (by (with_reducible repeat (first | apply qrA | apply qrN | apply qrD)); exact HO222.out) (Kd.R_base ho0) hb); have n6_ := Aside0.mk (Kd.R_elder' (by (with_reducible repeat (first | apply qrA | apply qrN | apply qrD)); exact HO225.out) (Kd.R_base ho0) hb); have n7_ := Aside0.mk (Kd.R_elder' (by (with_reducible repeat (first | apply qrA | apply qrN | apply qrD)); exact HO229.out) (Kd.R_base ho0) hb); have n8_ := Aside0.mk (Kd.R_elder' (by (with_reducible repeat (first | apply qrA | apply qrN | apply qrD)); exact HO232.out) (Kd.R_base ho0) hb); have n9_ := Aside0.mk (Kd.R_elder' (by (with_reducible repeat (first | apply qrA | apply qrN | apply qrD)); exact HO236.out) (Kd.R_base ho0) hb); have n10_ := Aside0.mk (Kd.R_elder' (by (with_reducible repeat (first | apply qrA | apply qrN | apply qrD)); exact HO239.out) (Kd.R_base ho0) hb); have n11_ := Aside0.mk (Kd.R_lower (Kd.R_newB (Kd.R_new' (Kd.R_new' (Kd.R_new' (Kd.R_new' (Kd.R_new' (Kd.R_new' ho0 (Kd.R_lt (by (with_reducible repeat (first | apply qrA | apply qrN | apply qrD)); exact HO222.out))) (Kd.R_lt (by (with_reducible repeat (first | apply qrA | apply qrN | apply qrD)); exact HO225.out))) (Kd.R_lt (by (with_reducible repeat (first | apply qrA | apply qrN | apply qrD)); exact HO229.out))) (Kd.R_lt (by (with_reducible repeat (first | apply qrA | apply qrN | apply qrD)); exact HO232.out))) (Kd.R_lt (by (with_reducible repeat (first | apply qrA | apply qrN | apply qrD)); exact HO236.out))) (Kd.R_lt (by (with_reducible repeat (first | apply qrA | apply qrN | apply qrD)); exact HO239.out))) (g := gb187) (o := .cells #[.int .i64 a0_0, .int .i64 a0_1] 95 (0, 0)) (by (with_reducible repeat (first | refine qkN ?_ _ | refine qkD ?_ | refine qkA ?_ _)); exact BK187.out)) (below_size (by repeat (first | (with_reducible first | exact HB.out | apply qbA | apply qbN | apply qbD | refine below_set ?_ GE187.out) | exact HB.out)))); have n12_ := Aside0.mk (qkB (g := gb187) (o := .cells #[.int .i64 a0_0, .int .i64 a0_1] 95 (0, 0)) (by (with_reducible repeat (first | refine qkN ?_ _ | refine qkD ?_ | refine qkA ?_ _)); exact BK187.out) hb); have n13_ := Aside0.mk (qbS (by repeat (first | (with_reducible first | exact HB.out | apply qbA | apply qbN | apply qbD | refine below_set ?_ GE187.out) | exact HB.out)) hb); clear HO_8 HO_9 HO_10 HO_11 HO_12 HO222 HO225 HO229 HO232 HO236 HO239 BK187 HB; have HO_8 := n0_; have HO_9 := n1_; have HO_10 := n2_; have HO_11 := n3_; have HO_12 := n4_; have HO222 := n5_; have HO225 := n6_; have HO229 := n7_; have HO232 := n8_; have HO236 := n9_; have HO239 := n10_; have HO243 := n11_; have BK187 := n12_; have HB := n13_; clear n0_ n1_ n2_ n3_ n4_ n5_ n6_ n7_ n8_ n9_ n10_ n11_ n12_ n13_; (try clear hb); (try clear hb2); (try clear hk); (try clear hi); (try clear ho0); obtain ⟨Ao91, co91, eo91⟩ := Kd.R_slice HO_12.out; subst eo91) | (go_at_call 66; (with_reducible refine (wrackref1_Set.calls k2 _ _ x12_2 t244 _ ?side1 ?side2 A71.out).mono ?_); (case side1 => repeat (first | exact (Kd.R_reads' HO_12.out).2.2 | (with_reducible refine qcA ?_ _) | (with_reducible refine qcN ?_ _) | (with_reducible refine qcD ?_))); (case side2 => exact (Kd.R_reads' HO_12.out).2.1); rintro e w92 ⟨v245, rfl, ho0, hb⟩; have n0_ := Aside0.mk (qrB (by (with_reducible repeat (first | apply qrA | apply qrN | apply qrD)); exact HO_8.out) hb); have n1_ := Aside0.mk (qrB (by (with_reducible repeat (first | apply qrA | apply qrN | apply qrD)); exact HO_9.out) hb); have n2_ := Aside0.mk (qrB (by (with_reducible repeat (first | apply qrA | apply qrN | apply qrD)); exact HO_10.out) hb); have n3_ := Aside0.mk (qrB (by (with_reducible repeat (first | apply qrA | apply qrN | apply qrD)); exact HO_11.out) hb); have n4_ := Aside0.mk (qrB (by (with_reducible repeat (first | apply qrA | apply qrN | apply qrD)); exact HO_12.out) hb); have n5_ := Aside0.mk (Kd.R_elder' (by (with_reducible repeat (first | apply qrA | apply qrN | apply qrD)); exact HO222.out) (Kd.R_base ho0) hb); have n6_ := Aside0.mk (Kd.R_elder' (by (with_reducible repeat (first | apply qrA | apply qrN | apply qrD)); exact HO225.out) (Kd.R_base ho0) hb); have n7_ := Aside0.mk (Kd.R_elder' (by (with_reducible repeat (first | apply qrA | apply qrN | apply qrD)); exact HO229.out) (Kd.R_base ho0) hb); have n8_ := Aside0.mk (Kd.R_elder' (by (with_reducible repeat (first | apply qrA | apply qrN | apply qrD)); exact HO232.out) (Kd.R_base ho0) hb); have n9_ := Aside0.mk (Kd.R_elder' (by (with_reducible repeat (first | apply qrA | apply qrN | apply qrD)); exact HO236.out) (Kd.R_base ho0) hb); have n10_ := Aside0.mk (Kd.R_elder' (by (with_reducible repeat (first | apply qrA | apply qrN | apply qrD)); exact HO239.out) (Kd.R_base ho0) hb); have n11_ := Aside0.mk (Kd.R_elder' (by (with_reducible repeat (first | apply qrA | apply qrN | apply qrD)); exact HO243.out) (Kd.R_base ho0) hb); have n12_ := Aside0.mk (Kd.R_lower (Kd.R_newB (Kd.R_new' (Kd.R_new' (Kd.R_new' (Kd.R_new' (Kd.R_new' (Kd.R_new' (Kd.R_new' ho0 (Kd.R_lt (by (with_reducible repeat (first | apply qrA | apply qrN | apply qrD)); exact HO222.out))) (Kd.R_lt (by (with_reducible repeat (first | apply qrA | apply qrN | apply qrD)); exact HO225.out))) (Kd.R_lt (by (with_reducible repeat (first | apply qrA | apply qrN | apply qrD)); exact HO229.out))) (Kd.R_lt (by (with_reducible repeat (first | apply qrA | apply qrN | apply qrD)); exact HO232.out))) (Kd.R_lt (by (with_reducible repeat (first | apply qrA | apply qrN | apply qrD)); exact HO236.out))) (Kd.R_lt (by (with_reducible repeat (first | apply qrA | apply qrN | apply qrD)); exact HO239.out))) (Kd.R_lt (by (with_reducible repeat (first | apply qrA | apply qrN | apply qrD)); exact HO243.out))) (g := gb187) (o := .cells #[.int .i64 a0_0, .int .i64 a0_1] 95 (0, 0)) (by (with_reducible repeat (first | refine qkN ?_ _ | refine qkD ?_ | refine qkA ?_ _)); exact BK187.out)) (below_size (by repeat (first | (with_reducible first | exact HB.out | apply qbA | apply qbN | apply qbD | refine below_set ?_ GE187.out) | exact HB.out)))); have n13_ := Aside0.mk (qkB (g := gb187) (o := .cells #[.int .i64 a0_0, .int .i64 a0_1] 95 (0, 0)) (by (with_reducible repeat (first | refine qkN ?_ _ | refine qkD ?_ | refine qkA ?_ _)); exact BK187.out) hb); have n14_ := Aside0.mk (qbS (by repeat (first | (with_reducible first | exact HB.out | apply qbA | apply qbN | apply qbD | refine below_set ?_ GE187.out) | exact HB.out)) hb); clear HO_8 HO_9 HO_10 HO_11 HO_12 HO222 HO225 HO229 HO232 HO236 HO239 HO243 BK187 HB; have HO_8 := n0_; have HO_9 := n1_; have HO_10 := n2_; have HO_11 := n3_; have HO_12 := n4_; have HO222 := n5_; have HO225 := n6_; have HO229 := n7_; have HO232 := n8_; have HO236 := n9_; have HO239 := n10_; have HO243 := n11_; have HO246 := n12_; have BK187 := n13_; have HB := n14_; clear n0_ n1_ n2_ n3_ n4_ n5_ n6_ n7_ n8_ n9_ n10_ n11_ n12_ n13_ n14_; (try clear hb); (try clear hb2); (try clear hk); (try clear hi); (try clear ho0); obtain ⟨Ao93, co93, eo93⟩ := Kd.R_slice HO243.out; subst eo93; obtain ⟨Ao94, co94, eo94⟩ := Kd.R_slice HO246.out; subst eo94) | (go_at_call 64; (with_reducible refine (wrackref1_SameSpans.calls k2 _ _ t241 _ _ t244 t247 _ ?side1 ?side2 ?side3 ?side4 A72.out).mono ?_); (case side1 => repeat (first | exact (Kd.R_reads' HO243.out).2.2 | (with_reducible refine qcA ?_ _) | (with_reducible refine qcN ?_ _) | (with_reducible refine qcD ?_))); (case side2 => exact (Kd.R_reads' HO243.out).2.1); (case side3 => repeat (first | exact (Kd.R_reads' HO246.out).2.2 | (with_reducible refine qcA ?_ _) | (with_reducible refine qcN ?_ _) | (with_reducible refine qcD ?_))); (case side4 => exact (Kd.R_reads' HO246.out).2.1); rintro e w' ⟨rfl, ⟨nd, rfl⟩⟩))
             go_ret
             exact ⟨by first | rfl | (simp [errW_none, errW_some] <;> rfl) | (simp [*, errW_none, errW_some] <;> rfl), by repeat (first | (with_reducible first | exact HB.out | apply qbA | apply qbN | apply qbD | refine below_set ?_ GE187.out) | exact HB.out)⟩
            ·
             replace c69 := Bool.eq_false_iff.mpr c69
             subst c69
             have H1 : (some false) = some r := by rw [if_neg (show ¬ (false = true) by decide)] at H; exact H
             clear H
             have H := H1
             clear H1
             obtain rfl := Option.some.inj H
             go_wp2_with (first | ((with_reducible refine gate_callee (f := 60) rfl ?_); refine goesL_ (some 75) rfl rfl Try.func60 (by kernel_rfl) rfl #[] rfl (by (try simp only [qmT, qmC, qmN]); first | done | rfl | (simp only [List.length_drop, List.length_take]; rfl)) ?_; (with_reducible refine (wracklaw1_spans.calls  true _ A54.out).mono ?_); rintro e w95 ⟨rfl, hb⟩; refine ⟨_, rfl, ?_⟩; have n0_ := Aside0.mk (qrB (by (with_reducible repeat (first | apply qrA | apply qrN | apply qrD)); exact HO_8.out) hb); have n1_ := Aside0.mk (qrB (by (with_reducible repeat (first | apply qrA | apply qrN | apply qrD)); exact HO_9.out) hb); have n2_ := Aside0.mk (qrB (by (with_reducible repeat (first | apply qrA | apply qrN | apply qrD)); exact HO_10.out) hb); have n3_ := Aside0.mk (qrB (by (with_reducible repeat (first | apply qrA | apply qrN | apply qrD)); exact HO_11.out) hb); have n4_ := Aside0.mk (qrB (by (with_reducible repeat (first | apply qrA | apply qrN | apply qrD)); exact HO_12.out) hb); have n5_ := Aside0.mk (qkB (g := gb187) (o := .cells #[.int .i64 a0_0, .int .i64 a0_1] 95 (0, 0)) (by (with_reducible repeat (first | refine qkN ?_ _ | refine qkD ?_ | refine qkA ?_ _)); exact BK187.out) hb); have n6_ := Aside0.mk (qbS (by repeat (first | (with_reducible first | exact HB.out | apply qbA | apply qbN | apply qbD | refine below_set ?_ GE187.out) | exact HB.out)) hb); clear HO_8 HO_9 HO_10 HO_11 HO_12 BK187 HB; have HO_8 := n0_; have HO_9 := n1_; have HO_10 := n2_; have HO_11 := n3_; have HO_12 := n4_; have BK187 := n5_; have HB := n6_; clear n0_ n1_ n2_ n3_ n4_ n5_ n6_; (try clear hb); (try clear hb2); (try clear hk); (try clear hi); have hcz96_0 : w95.cell? ⟨gb187, 0, none⟩ = some (.int .i64 a0_0) := (blk_cell BK187.out 0).trans rfl; have hcz96_1 : w95.cell? ⟨gb187, 1, none⟩ = some (.int .i64 a0_1) := (blk_cell BK187.out 1).trans rfl; have hfz96_0 := blk_frozen BK187.out 0; have hfz96_1 := blk_frozen BK187.out 1) | (go_at_call 63; (with_reducible refine (span_Check.calls a0_0 a0_1 t219 _ A56.out).mono ?_); rintro e w97 ⟨rfl, hb⟩; have n0_ := Aside0.mk (qrB (by (with_reducible repeat (first | apply qrA | apply qrN | apply qrD)); exact HO_8.out) hb); have n1_ := Aside0.mk (qrB (by (with_reducible repeat (first | apply qrA | apply qrN | apply qrD)); exact HO_9.out) hb); have n2_ := Aside0.mk (qrB (by (with_reducible repeat (first | apply qrA | apply qrN | apply qrD)); exact HO_10.out) hb); have n3_ := Aside0.mk (qrB (by (with_reducible repeat (first | apply qrA | apply qrN | apply qrD)); exact HO_11.out) hb); have n4_ := Aside0.mk (qrB (by (with_reducible repeat (first | apply qrA | apply qrN | apply qrD)); exact HO_12.out) hb); have n5_ := Aside0.mk (qkB (g := gb187) (o := .cells #[.int .i64 a0_0, .int .i64 a0_1] 95 (0, 0)) (by (with_reducible repeat (first | refine qkN ?_ _ | refine qkD ?_ | refine qkA ?_ _)); exact BK187.out) hb); have n6_ := Aside0.mk (qbS (by repeat (first | (with_reducible first | exact HB.out | apply qbA | apply qbN | apply qbD | refine below_set ?_ GE187.out) | exact HB.out)) hb); clear HO_8 HO_9 HO_10 HO_11 HO_12 BK187 HB; have HO_8 := n0_; have HO_9 := n1_; have HO_10 := n2_; have HO_11 := n3_; have HO_12 := n4_; have BK187 := n5_; have HB := n6_; clear n0_ n1_ n2_ n3_ n4_ n5_ n6_; (try clear hb); (try clear hb2); (try clear hk); (try clear hi)) | (go_at_call 65; (with_reducible refine (span_Norm.calls k2 _ _ l1 t220 _ ?side1 ?side2 A58.out).mono ?_); (case side1 => repeat (first | exact (qcB HR1.out HB.out) | (with_reducible refine qcA ?_ _) | (with_reducible refine qcN ?_ _) | (with_reducible refine qcD ?_))); (case side2 => exact HC1.out); rintro e w98 ⟨v221, rfl, ho0, hb⟩; have n0_ := Aside0.mk (qrB (by (with_reducible repeat (first | apply qrA | apply qrN | apply qrD)); exact HO_8.out) hb); have n1_ := Aside0.mk (qrB (by (with_reducible repeat (first | apply qrA | apply qrN | apply qrD)); exact HO_9.out) hb); have n2_ := Aside0.mk (qrB (by (with_reducible repeat (first | apply qrA | apply qrN | apply qrD)); exact HO_10.out) hb); have n3_ := Aside0.mk (qrB (by (with_reducible repeat (first | apply qrA | apply qrN | apply qrD)); exact HO_11.out) hb); have n4_ := Aside0.mk (qrB (by (with_reducible repeat (first | apply qrA | apply qrN | apply qrD)); exact HO_12.out) hb); have n5_ := Aside0.mk (Kd.R_lower (Kd.R_newB ho0 (g := gb187) (o := .cells #[.int .i64 a0_0, .int .i64 a0_1] 95 (0, 0)) (by (with_reducible repeat (first | refine qkN ?_ _ | refine qkD ?_ | refine qkA ?_ _)); exact BK187.out)) (below_size (by repeat (first | (with_reducible first | exact HB.out | apply qbA | apply qbN | apply qbD | refine below_set ?_ GE187.out) | exact HB.out)))); have n6_ := Aside0.mk (qkB (g := gb187) (o := .cells #[.int .i64 a0_0, .int .i64 a0_1] 95 (0, 0)) (by (with_reducible repeat (first | refine qkN ?_ _ | refine qkD ?_ | refine qkA ?_ _)); exact BK187.out) hb); have n7_ := Aside0.mk (qbS (by repeat (first | (with_reducible first | exact HB.out | apply qbA | apply qbN | apply qbD | refine below_set ?_ GE187.out) | exact HB.out)) hb); clear HO_8 HO_9 HO_10 HO_11 HO_12 BK187 HB; have HO_8 := n0_; have HO_9 := n1_; have HO_10 := n2_; have HO_11 := n3_; have HO_12 := n4_; have HO222 := n5_; have BK187 := n6_; have HB := n7_; clear n0_ n1_ n2_ n3_ n4_ n5_ n6_ n7_; (try clear hb); (try clear hb2); (try clear hk); (try clear hi); (try clear ho0)) | (go_at_call 66; (with_reducible refine (wrackref1_Set.calls k2 _ _ t189 t223 _ ?side1 ?side2 A59.out).mono ?_); (case side1 => repeat (first | exact (Kd.R_reads' HO_8.out).2.2 | (with_reducible refine qcA ?_ _) | (with_reducible refine qcN ?_ _) | (with_reducible refine qcD ?_))); (case side2 => exact (Kd.R_reads' HO_8.out).2.1); rintro e w99 ⟨v224, rfl, ho0, hb⟩; have n0_ := Aside0.mk (qrB (by (with_reducible repeat (first | apply qrA | apply qrN | apply qrD)); exact HO_8.out) hb); have n1_ := Aside0.mk (qrB (by (with_reducible repeat (first | apply qrA | apply qrN | apply qrD)); exact HO_9.out) hb); have n2_ := Aside0.mk (qrB (by (with_reducible repeat (first | apply qrA | apply qrN | apply qrD)); exact HO_10.out) hb); have n3_ := Aside0.mk (qrB (by (with_reducible repeat (first | apply qrA | apply qrN | apply qrD)); exact HO_11.out) hb); have n4_ := Aside0.mk (qrB (by (with_reducible repeat (first | apply qrA | apply qrN | apply qrD)); exact HO_12.out) hb); have n5_ := Aside0.mk (Kd.R_elder' (by (with_reducible repeat (first | apply qrA | apply qrN | apply qrD)); exact HO222.out) (Kd.R_base ho0) hb); have n6_ := Aside0.mk (Kd.R_lower (Kd.R_newB (Kd.R_new' ho0 (Kd.R_lt (by (with_reducible repeat (first | apply qrA | apply qrN | apply qrD)); exact HO222.out))) (g := gb187) (o := .cells #[.int .i64 a0_0, .int .i64 a0_1] 95 (0, 0)) (by (with_reducible repeat (first | refine qkN ?_ _ | refine qkD ?_ | refine qkA ?_ _)); exact BK187.out)) (below_size (by repeat (first | (with_reducible first | exact HB.out | apply qbA | apply qbN | apply qbD | refine below_set ?_ GE187.out) | exact HB.out)))); have n7_ := Aside0.mk (qkB (g := gb187) (o := .cells #[.int .i64 a0_0, .int .i64 a0_1] 95 (0, 0)) (by (with_reducible repeat (first | refine qkN ?_ _ | refine qkD ?_ | refine qkA ?_ _)); exact BK187.out) hb); have n8_ := Aside0.mk (qbS (by repeat (first | (with_reducible first | exact HB.out | apply qbA | apply qbN | apply qbD | refine below_set ?_ GE187.out) | exact HB.out)) hb); clear HO_8 HO_9 HO_10 HO_11 HO_12 HO222 BK187 HB; have HO_8 := n0_; have HO_9 := n1_; have HO_10 := n2_; have HO_11 := n3_; have HO_12 := n4_; have HO222 := n5_; have HO225 := n6_; have BK187 := n7_; have HB := n8_; clear n0_ n1_ n2_ n3_ n4_ n5_ n6_ n7_ n8_; (try clear hb); (try clear hb2); (try clear hk); (try clear hi); (try clear ho0); obtain ⟨Ao100, co100, eo100⟩ := Kd.R_slice HO222.out; subst eo100; obtain ⟨Ao101, co101, eo101⟩ := Kd.R_slice HO225.out; subst eo101) | (go_at_call 64; (with_reducible refine (wrackref1_SameSpans.calls k2 _ _ t220 _ _ t223 true _ ?side1 ?side2 ?side3 ?side4 A60.out).mono ?_); (case side1 => repeat (first | exact (Kd.R_reads' HO222.out).2.2 | (with_reducible refine qcA ?_ _) | (with_reducible refine qcN ?_ _) | (with_reducible refine qcD ?_))); (case side2 => exact (Kd.R_reads' HO222.out).2.1); (case side3 => repeat (first | exact (Kd.R_reads' HO225.out).2.2 | (with_reducible refine qcA ?_ _) | (with_reducible refine qcN ?_ _) | (with_reducible refine qcD ?_))); (case side4 => exact (Kd.R_reads' HO225.out).2.1); rintro e w' ⟨rfl, ⟨nd, rfl⟩⟩) | (go_at_call 67; (with_reducible refine (span_Join.calls k2 (fun k_ => k_ < w.heap.size) _ _ l1 (fun k_ => k_ < w.heap.size) _ _ l2 t227 _ ?side1 ?side2 A62.out).mono ?_); (case side1 => exact Kd.V_mk HC1.out (Kd.F_below (Kd.C_F k95_heap HR1.out) (by repeat (first | (with_reducible first | exact HB.out | apply qbA | apply qbN | apply qbD | refine below_set ?_ GE187.out) | exact HB.out)))); (case side2 => exact Kd.V_mk HC2.out (Kd.F_below (Kd.C_F k95_heap HR2.out) (by repeat (first | (with_reducible first | exact HB.out | apply qbA | apply qbN | apply qbD | refine below_set ?_ GE187.out) | exact HB.out)))); rintro e w102 ⟨v228, rfl, ho0, hb⟩; have n0_ := Aside0.mk (qrB (by (with_reducible repeat (first | apply qrA | apply qrN | apply qrD)); exact HO_8.out) hb); have n1_ := Aside0.mk (qrB (by (with_reducible repeat (first | apply qrA | apply qrN | apply qrD)); exact HO_9.out) hb); have n2_ := Aside0.mk (qrB (by (with_reducible repeat (first | apply qrA | apply qrN | apply qrD)); exact HO_10.out) hb); have n3_ := Aside0.mk (qrB (by (with_reducible repeat (first | apply qrA | apply qrN | apply qrD)); exact HO_11.out) hb); have n4_ := Aside0.mk (qrB (by (with_reducible repeat (first | apply qrA | apply qrN | apply qrD)); exact HO_12.out) hb); have n5_ := Aside0.mk (Kd.R_elder' (by (with_reducible repeat (first | apply qrA | apply qrN | apply qrD)); exact HO222.out) (Kd.R_base ho0) hb); have n6_ := Aside0.mk (Kd.R_elder' (by (with_reducible repeat (first | apply qrA | apply qrN | apply qrD)); exact HO225.out) (Kd.R_base ho0) hb); have n7_ := Aside0.mk (Kd.R_lower (Kd.R_newB (Kd.R_new' (Kd.R_new' (Kd.R_mono (ok' := fun k_ => True) ho0 (fun _ hk_ => trivial)) (Kd.R_lt (by (with_reducible repeat (first | apply qrA | apply qrN | apply qrD)); exact HO222.out))) (Kd.R_lt (by (with_reducible repeat (first | apply qrA | apply qrN | apply qrD)); exact HO225.out))) (g := gb187) (o := .cells #[.int .i64 a0_0, .int .i64 a0_1] 95 (0, 0)) (by (with_reducible repeat (first | refine qkN ?_ _ | refine qkD ?_ | refine qkA ?_ _)); exact BK187.out)) (below_size (by repeat (first | (with_reducible first | exact HB.out | apply qbA | apply qbN | apply qbD | refine below_set ?_ GE187.out) | exact HB.out)))); have n8_ := Aside0.mk (qkB (g := gb187) (o := .cells #[.int .i64 a0_0, .int .i64 a0_1] 95 (0, 0)) (by (with_reducible repeat (first | refine qkN ?_ _ | refine qkD ?_ | refine qkA ?_ _)); exact BK187.out) hb); have n9_ := Aside0.mk (qbS (by repeat (first | (with_reducible first | exact HB.out | apply qbA | apply qbN | apply qbD | refine below_set ?_ GE187.out) | exact HB.out)) hb); clear HO_8 HO_9 HO_10 HO_11 HO_12 HO222 HO225 BK187 HB; have HO_8 := n0_; have HO_9 := n1_; have HO_10 := n2_; have HO_11 := n3_; have HO_12 := n4_; have HO222 := n5_; have HO225 := n6_; have HO229 := n7_; have BK187 := n8_; have HB := n9_; clear n0_ n1_ n2_ n3_ n4_ n5_ n6_ n7_ n8_ n9_; (try clear hb); (try clear hb2); (try clear hk); (try clear hi); (try clear ho0); obtain ⟨Ao103, co103, eo103⟩ := Kd.R_slice HO_10.out; subst eo103) | (go_at_call 66; (with_reducible refine (wrackref1_Set.calls k2 _ _ x10_2 t230 _ ?side1 ?side2 A63.out).mono ?_); (case side1 => repeat (first | exact (Kd.R_reads' HO_10.out).2.2 | (with_reducible refine qcA ?_ _) | (with_reducible refine qcN ?_ _) | (with_reducible refine qcD ?_))); (case side2 => exact (Kd.R_reads' HO_10.out).2.1); rintro e w104 ⟨v231, rfl, ho0, hb⟩; have n0_ := Aside0.mk (qrB (by (with_reducible repeat (first | apply qrA | apply qrN | apply qrD)); exact HO_8.out) hb); have n1_ := Aside0.mk (qrB (by (with_reducible repeat (first | apply qrA | apply qrN | apply qrD)); exact HO_9.out) hb); have n2_ := Aside0.mk (qrB (by (with_reducible repeat (first | apply qrA | apply qrN | apply qrD)); exact HO_10.out) hb); have n3_ := Aside0.mk (qrB (by (with_reducible repeat (first | apply qrA | apply qrN | apply qrD)); exact HO_11.out) hb); have n4_ := Aside0.mk (qrB (by (with_reducible repeat (first | apply qrA | apply qrN | apply qrD)); exact HO_12.out) hb); have n5_ := Aside0.mk (Kd.R_elder' (by (with_reducible repeat (first | apply qrA | apply qrN | apply qrD)); exact HO222.out) (Kd.R_base ho0) hb); have n6_ := Aside0.mk (Kd.R_elder' (by (with_reducible repeat (first | apply qrA | apply qrN | apply qrD)); exact HO225.out) (Kd.R_base ho0) hb); have n7_ := Aside0.mk (Kd.R_elder' (by (with_reducible repeat (first | apply qrA | apply qrN | apply qrD)); exact HO229.out) (Kd.R_base ho0) hb); have n8_ := Aside0.mk (Kd.R_lower (Kd.R_newB (Kd.R_new' (Kd.R_new' (Kd.R_new' ho0 (Kd.R_lt (by (with_reducible repeat (first | apply qrA | apply qrN | apply qrD)); exact HO222.out))) (Kd.R_lt (by (with_reducible repeat (first | apply qrA | apply qrN | apply qrD)); exact HO225.out))) (Kd.R_lt (by (with_reducible repeat (first | apply qrA | apply qrN | apply qrD)); exact HO229.out))) (g := gb187) (o := .cells #[.int .i64 a0_0, .int .i64 a0_1] 95 (0, 0)) (by (with_reducible repeat (first | refine qkN ?_ _ | refine qkD ?_ | refine qkA ?_ _)); exact BK187.out)) (below_size (by repeat (first | (with_reducible first | exact HB.out | apply qbA | apply qbN | apply qbD | refine below_set ?_ GE187.out) | exact HB.out)))); have n9_ := Aside0.mk (qkB (g := gb187) (o := .cells #[.int .i64 a0_0, .int .i64 a0_1] 95 (0, 0)) (by (with_reducible repeat (first | refine qkN ?_ _ | refine qkD ?_ | refine qkA ?_ _)); exact BK187.out) hb); have n10_ := Aside0.mk (qbS (by repeat (first | (with_reducible first | exact HB.out | apply qbA | apply qbN | apply qbD | refine below_set ?_ GE187.out) | exact HB.out)) hb); clear HO_8 HO_9 HO_10 HO_11 HO_12 HO222 HO225 HO229 BK187 HB; have HO_8 := n0_; have HO_9 := n1_; have HO_10 := n2_; have HO_11 := n3_; have HO_12 := n4_; have HO222 := n5_; have HO225 := n6_; have HO229 := n7_; have HO232 := n8_; have BK187 := n9_; have HB := n10_; clear n0_ n1_ n2_ n3_ n4_ n5_ n6_ n7_ n8_ n9_ n10_; (try clear hb); (try clear hb2); (try clear hk); (try clear hi); (try clear ho0); obtain ⟨Ao105, co105, eo105⟩ := Kd.R_slice HO229.out; subst eo105; obtain ⟨Ao106, co106, eo106⟩ := Kd.R_slice HO232.out; subst eo106) | (go_at_call 64; (with_reducible refine (wrackref1_SameSpans.calls k2 _ _ t227 _ _ t230 true _ ?side1 ?side2 ?side3 ?side4 A64.out).mono ?_); (case side1 => repeat (first | exact (Kd.R_reads' HO229.out).2.2 | (with_reducible refine qcA ?_ _) | (with_reducible refine qcN ?_ _) | (with_reducible refine qcD ?_))); (case side2 => exact (Kd.R_reads' HO229.out).2.1); (case side3 => repeat (first | exact (Kd.R_reads' HO232.out).2.2 | (with_reducible refine qcA ?_ _) | (with_reducible refine qcN ?_ _) | (with_reducible refine qcD ?_))); (case side4 => exact (Kd.R_reads' HO232.out).2.1); rintro e w' ⟨rfl, ⟨nd, rfl⟩⟩) | (go_at_call 68; (with_reducible refine (span_Meet.calls k2 _ _ l1 _ _ l2 t234 _ ?side1 ?side2 ?side3 ?side4 A66.out).mono ?_); (case side1 => repeat (first | exact (qcB HR1.out (by repeat (first | (with_reducible first | exact HB.out | apply qbA | apply qbN | apply qbD | refine below_set ?_ GE187.out) | exact HB.out))) | (with_reducible refine qcA ?_ _) | (with_reducible refine qcN ?_ _) | (with_reducible refine qcD ?_))); (case side2 => exact HC1.out); (case side3 => repeat (first | exact (qcB HR2.out (by repeat (first | (with_reducible first | exact HB.out | apply qbA | apply qbN | apply qbD | refine below_set ?_ GE187.out) | exact HB.out))) | (with_reducible refine qcA ?_ _) | (with_reducible refine qcN ?_ _) | (with_reducible refine qcD ?_))); (case side4 => exact HC2.out); rintro e w107 ⟨v235, rfl, ho0, hb⟩; have n0_ := Aside0.mk (qrB (by (with_reducible repeat (first | apply qrA | apply qrN | apply qrD)); exact HO_8.out) hb); have n1_ := Aside0.mk (qrB (by (with_reducible repeat (first | apply qrA | apply qrN | apply qrD)); exact HO_9.out) hb); have n2_ := Aside0.mk (qrB (by (with_reducible repeat (first | apply qrA | apply qrN | apply qrD)); exact HO_10.out) hb); have n3_ := Aside0.mk (qrB (by (with_reducible repeat (first | apply qrA | apply qrN | apply qrD)); exact HO_11.out) hb); have n4_ := Aside0.mk (qrB (by (with_reducible repeat (first | apply qrA | apply qrN | apply qrD)); exact HO_12.out) hb); have n5_ := Aside0.mk (Kd.R_elder' (by (with_reducible repeat (first | apply qrA | apply qrN | apply qrD)); exact HO222.out) (Kd.R_base ho0) hb); have n6_ := Aside0.mk (Kd.R_elder' (by (with_reducible repeat (first | apply qrA | apply qrN | apply qrD)); exact HO225.out) (Kd.R_base ho0) hb); have n7_ := Aside0.mk (Kd.R_elder' (by (with_reducible repeat (first | apply qrA | apply qrN | apply qrD)); exact HO229.out) (Kd.R_base ho0) hb); have n8_ := Aside0.mk (Kd.R_elder' (by (with_reducible repeat (first | apply qrA | apply qrN | apply qrD)); exact HO232.out) (Kd.R_base ho0) hb); have n9_ := Aside0.mk (Kd.R_lower (Kd.R_newB (Kd.R_new' (Kd.R_new' (Kd.R_new' (Kd.R_new' ho0 (Kd.R_lt (by (with_reducible repeat (first | apply qrA | apply qrN | apply qrD)); exact HO222.out))) (Kd.R_lt (by (with_reducible repeat (first | apply qrA | apply qrN | apply qrD)); exact HO225.out))) (Kd.R_lt (by (with_reducible repeat (first | apply qrA | apply qrN | apply qrD)); exact HO229.out))) (Kd.R_lt (by (with_reducible repeat (first | apply qrA | apply qrN | apply qrD)); exact HO232.out))) (g := gb187) (o := .cells #[.int .i64 a0_0, .int .i64 a0_1] 95 (0, 0)) (by (with_reducible repeat (first | refine qkN ?_ _ | refine qkD ?_ | refine qkA ?_ _)); exact BK187.out)) (below_size (by repeat (first | (with_reducible first | exact HB.out | apply qbA | apply qbN | apply qbD | refine below_set ?_ GE187.out) | exact HB.out)))); have n10_ := Aside0.mk (qkB (g := gb187) (o := .cells #[.int .i64 a0_0, .int .i64 a0_1] 95 (0, 0)) (by (with_reducible repeat (first | refine qkN ?_ _ | refine qkD ?_ | refine qkA ?_ _)); exact BK187.out) hb); have n11_ := Aside0.mk (qbS (by repeat (first | (with_reducible first | exact HB.out | apply qbA | apply qbN | apply qbD | refine below_set ?_ GE187.out) | exact HB.out)) hb); clear HO_8 HO_9 HO_10 HO_11 HO_12 HO222 HO225 HO229 HO232 BK187 HB; have HO_8 := n0_; have HO_9 := n1_; have HO_10 := n2_; have HO_11 := n3_; have HO_12 := n4_; have HO222 := n5_; have HO225 := n6_; have HO229 := n7_; have HO232 := n8_; have HO236 := n9_; have BK187 := n10_; have HB := n11_; clear n0_ n1_ n2_ n3_ n4_ n5_ n6_ n7_ n8_ n9_ n10_ n11_; (try clear hb); (try clear hb2); (try clear hk); (try clear hi); (try clear ho0); obtain ⟨Ao108, co108, eo108⟩ := Kd.R_slice HO_11.out; subst eo108) | (go_at_call 66; (with_reducible refine (wrackref1_Set.calls k2 _ _ x11_2 t237 _ ?side1 ?side2 A67.out).mono ?_); (case side1 => repeat (first | exact (Kd.R_reads' HO_11.out).2.2 | (with_reducible refine qcA ?_ _) | (with_reducible refine qcN ?_ _) | (with_reducible refine qcD ?_))); (case side2 => exact (Kd.R_reads' HO_11.out).2.1); rintro e w109 ⟨v238, rfl, ho0, hb⟩; have n0_ := Aside0.mk (qrB (by (with_reducible repeat (first | apply qrA | apply qrN | apply qrD)); exact HO_8.out) hb); have n1_ := Aside0.mk (qrB (by (with_reducible repeat (first | apply qrA | apply qrN | apply qrD)); exact HO_9.out) hb); have n2_ := Aside0.mk (qrB (by (with_reducible repeat (first | apply qrA | apply qrN | apply qrD)); exact HO_10.out) hb); have n3_ := Aside0.mk (qrB (by (with_reducible repeat (first | apply qrA | apply qrN | apply qrD)); exact HO_11.out) hb); have n4_ := Aside0.mk (qrB (by (with_reducible repeat (first | apply qrA | apply qrN | apply qrD)); exact HO_12.out) hb); have n5_ := Aside0.mk (Kd.R_elder' (by (with_reducible repeat (first | apply qrA | apply qrN | apply qrD)); exact HO222.out) (Kd.R_base ho0) hb); have n6_ := Aside0.mk (Kd.R_elder' (by (with_reducible repeat (first | apply qrA | apply qrN | apply qrD)); exact HO225.out) (Kd.R_base ho0) hb); have n7_ := Aside0.mk (Kd.R_elder' (by (with_reducible repeat (first | apply qrA | apply qrN | apply qrD)); exact HO229.out) (Kd.R_base ho0) hb); have n8_ := Aside0.mk (Kd.R_elder' (by (with_reducible repeat (first | apply qrA | apply qrN | apply qrD)); exact HO232.out) (Kd.R_base ho0) hb); have n9_ := Aside0.mk (Kd.R_elder' (by (with_reducible repeat (first | apply qrA | apply qrN | apply qrD)); exact HO236.out) (Kd.R_base ho0) hb); have n10_ := Aside0.mk (Kd.R_lower (Kd.R_newB (Kd.R_new' (Kd.R_new' (Kd.R_new' (Kd.R_new' (Kd.R_new' ho0 (Kd.R_lt (by (with_reducible repeat (first | apply qrA | apply qrN | apply qrD)); exact HO222.out))) (Kd.R_lt (by (with_reducible repeat (first | apply qrA | apply qrN | apply qrD)); exact HO225.out))) (Kd.R_lt (by (with_reducible repeat (first | apply qrA | apply qrN | apply qrD)); exact HO229.out))) (Kd.R_lt (by (with_reducible repeat (first | apply qrA | apply qrN | apply qrD)); exact HO232.out))) (Kd.R_lt (by (with_reducible repeat (first | apply qrA | apply qrN | apply qrD)); exact HO236.out))) (g := gb187) (o := .cells #[.int .i64 a0_0, .int .i64 a0_1] 95 (0, 0)) (by (with_reducible repeat (first | refine qkN ?_ _ | refine qkD ?_ | refine qkA ?_ _)); exact BK187.out)) (below_size (by repeat (first | (with_reducible first | exact HB.out | apply qbA | apply qbN | apply qbD | refine below_set ?_ GE187.out) | exact HB.out)))); have n11_ := Aside0.mk (qkB (g := gb187) (o := .cells #[.int .i64 a0_0, .int .i64 a0_1] 95 (0, 0)) (by (with_reducible repeat (first | refine qkN ?_ _ | refine qkD ?_ | refine qkA ?_ _)); exact BK187.out) hb); have n12_ := Aside0.mk (qbS (by repeat (first | (with_reducible first | exact HB.out | apply qbA | apply qbN | apply qbD | refine below_set ?_ GE187.out) | exact HB.out)) hb); clear HO_8 HO_9 HO_10 HO_11 HO_12 HO222 HO225 HO229 HO232 HO236 BK187 HB; have HO_8 := n0_; have HO_9 := n1_; have HO_10 := n2_; have HO_11 := n3_; have HO_12 := n4_; have HO222 := n5_; have HO225 := n6_; have HO229 := n7_; have HO232 := n8_; have HO236 := n9_; have HO239 := n10_; have BK187 := n11_; have HB := n12_; clear n0_ n1_ n2_ n3_ n4_ n5_ n6_ n7_ n8_ n9_ n10_ n11_ n12_; (try clear hb); (try clear hb2); (try clear hk); (try clear hi); (try clear ho0); obtain ⟨Ao110, co110, eo110⟩ := Kd.R_slice HO236.out; subst eo110; obtain ⟨Ao111, co111, eo111⟩ := Kd.R_slice HO239.out; subst eo111) | (go_at_call 64; (with_reducible refine (wrackref1_SameSpans.calls k2 _ _ t234 _ _ t237 false _ ?side1 ?side2 ?side3 ?side4 A68.out).mono ?_); (case side1 => repeat (first | exact (Kd.R_reads' HO236.out).2.2 | (with_reducible refine qcA ?_ _) | (with_reducible refine qcN ?_ _) | (with_reducible refine qcD ?_))); (case side2 => exact (Kd.R_reads' HO236.out).2.1); (case side3 => repeat (first | exact (Kd.R_reads' HO239.out).2.2 | (with_reducible refine qcA ?_ _) | (with_reducible refine qcN ?_ _) | (with_reducible refine qcD ?_))); (case side4 => exact (Kd.R_reads' HO239.out).2.1); rintro e w' ⟨rfl, ⟨nd, rfl⟩⟩))
             go_ret
             exact ⟨by first | rfl | (simp [errW_none, errW_some] <;> rfl) | (simp [*, errW_none, errW_some] <;> rfl), by repeat (first | (with_reducible first | exact HB.out | apply qbA | apply qbN | apply qbD | refine below_set ?_ GE187.out) | exact HB.out)⟩
           ·
            replace c65 := Bool.eq_false_iff.mpr c65
            subst c65
            have H1 : (some false) = some r := by rw [if_neg (show ¬ (false = true) by decide)] at H; exact H
            clear H
            have H := H1
            clear H1
            obtain rfl := Option.some.inj H
            go_wp2_with (first | ((with_reducible refine gate_callee (f := 60) rfl ?_); refine goesL_ (some 75) rfl rfl Try.func60 (by kernel_rfl) rfl #[] rfl (by (try simp only [qmT, qmC, qmN]); first | done | rfl | (simp only [List.length_drop, List.length_take]; rfl)) ?_; (with_reducible refine (wracklaw1_spans.calls  true _ A54.out).mono ?_); rintro e w112 ⟨rfl, hb⟩; refine ⟨_, rfl, ?_⟩; have n0_ := Aside0.mk (qrB (by (with_reducible repeat (first | apply qrA | apply qrN | apply qrD)); exact HO_8.out) hb); have n1_ := Aside0.mk (qrB (by (with_reducible repeat (first | apply qrA | apply qrN | apply qrD)); exact HO_9.out) hb); have n2_ := Aside0.mk (qrB (by (with_reducible repeat (first | apply qrA | apply qrN | apply qrD)); exact HO_10.out) hb); have n3_ := Aside0.mk (qrB (by (with_reducible repeat (first | apply qrA | apply qrN | apply qrD)); exact HO_11.out) hb); have n4_ := Aside0.mk (qrB (by (with_reducible repeat (first | apply qrA | apply qrN | apply qrD)); exact HO_12.out) hb); have n5_ := Aside0.mk (qkB (g := gb187) (o := .cells #[.int .i64 a0_0, .int .i64 a0_1] 95 (0, 0)) (by (with_reducible repeat (first | refine qkN ?_ _ | refine qkD ?_ | refine qkA ?_ _)); exact BK187.out) hb); have n6_ := Aside0.mk (qbS (by repeat (first | (with_reducible first | exact HB.out | apply qbA | apply qbN | apply qbD | refine below_set ?_ GE187.out) | exact HB.out)) hb); clear HO_8 HO_9 HO_10 HO_11 HO_12 BK187 HB; have HO_8 := n0_; have HO_9 := n1_; have HO_10 := n2_; have HO_11 := n3_; have HO_12 := n4_; have BK187 := n5_; have HB := n6_; clear n0_ n1_ n2_ n3_ n4_ n5_ n6_; (try clear hb); (try clear hb2); (try clear hk); (try clear hi); have hcz113_0 : w112.cell? ⟨gb187, 0, none⟩ = some (.int .i64 a0_0) := (blk_cell BK187.out 0).trans rfl; have hcz113_1 : w112.cell? ⟨gb187, 1, none⟩ = some (.int .i64 a0_1) := (blk_cell BK187.out 1).trans rfl; have hfz113_0 := blk_frozen BK187.out 0; have hfz113_1 := blk_frozen BK187.out 1) | (go_at_call 63; (with_reducible refine (span_Check.calls a0_0 a0_1 t219 _ A56.out).mono ?_); rintro e w114 ⟨rfl, hb⟩; have n0_ := Aside0.mk (qrB (by (with_reducible repeat (first | apply qrA | apply qrN | apply qrD)); exact HO_8.out) hb); have n1_ := Aside0.mk (qrB (by (with_reducible repeat (first | apply qrA | apply qrN | apply qrD)); exact HO_9.out) hb); have n2_ := Aside0.mk (qrB (by (with_reducible repeat (first | apply qrA | apply qrN | apply qrD)); exact HO_10.out) hb); have n3_ := Aside0.mk (qrB (by (with_reducible repeat (first | apply qrA | apply qrN | apply qrD)); exact HO_11.out) hb); have n4_ := Aside0.mk (qrB (by (with_reducible repeat (first | apply qrA | apply qrN | apply qrD)); exact HO_12.out) hb); have n5_ := Aside0.mk (qkB (g := gb187) (o := .cells #[.int .i64 a0_0, .int .i64 a0_1] 95 (0, 0)) (by (with_reducible repeat (first | refine qkN ?_ _ | refine qkD ?_ | refine qkA ?_ _)); exact BK187.out) hb); have n6_ := Aside0.mk (qbS (by repeat (first | (with_reducible first | exact HB.out | apply qbA | apply qbN | apply qbD | refine below_set ?_ GE187.out) | exact HB.out)) hb); clear HO_8 HO_9 HO_10 HO_11 HO_12 BK187 HB; have HO_8 := n0_; have HO_9 := n1_; have HO_10 := n2_; have HO_11 := n3_; have HO_12 := n4_; have BK187 := n5_; have HB := n6_; clear n0_ n1_ n2_ n3_ n4_ n5_ n6_; (try clear hb); (try clear hb2); (try clear hk); (try clear hi)) | (go_at_call 65; (with_reducible refine (span_Norm.calls k2 _ _ l1 t220 _ ?side1 ?side2 A58.out).mono ?_); (case side1 => repeat (first | exact (qcB HR1.out HB.out) | (with_reducible refine qcA ?_ _) | (with_reducible refine qcN ?_ _) | (with_reducible refine qcD ?_))); (case side2 => exact HC1.out); rintro e w115 ⟨v221, rfl, ho0, hb⟩; have n0_ := Aside0.mk (qrB (by (with_reducible repeat (first | apply qrA | apply qrN | apply qrD)); exact HO_8.out) hb); have n1_ := Aside0.mk (qrB (by (with_reducible repeat (first | apply qrA | apply qrN | apply qrD)); exact HO_9.out) hb); have n2_ := Aside0.mk (qrB (by (with_reducible repeat (first | apply qrA | apply qrN | apply qrD)); exact HO_10.out) hb); have n3_ := Aside0.mk (qrB (by (with_reducible repeat (first | apply qrA | apply qrN | apply qrD)); exact HO_11.out) hb); have n4_ := Aside0.mk (qrB (by (with_reducible repeat (first | apply qrA | apply qrN | apply qrD)); exact HO_12.out) hb); have n5_ := Aside0.mk (Kd.R_lower (Kd.R_newB ho0 (g := gb187) (o := .cells #[.int .i64 a0_0, .int .i64 a0_1] 95 (0, 0)) (by (with_reducible repeat (first | refine qkN ?_ _ | refine qkD ?_ | refine qkA ?_ _)); exact BK187.out)) (below_size (by repeat (first | (with_reducible first | exact HB.out | apply qbA | apply qbN | apply qbD | refine below_set ?_ GE187.out) | exact HB.out)))); have n6_ := Aside0.mk (qkB (g := gb187) (o := .cells #[.int .i64 a0_0, .int .i64 a0_1] 95 (0, 0)) (by (with_reducible repeat (first | refine qkN ?_ _ | refine qkD ?_ | refine qkA ?_ _)); exact BK187.out) hb); have n7_ := Aside0.mk (qbS (by repeat (first | (with_reducible first | exact HB.out | apply qbA | apply qbN | apply qbD | refine below_set ?_ GE187.out) | exact HB.out)) hb); clear HO_8 HO_9 HO_10 HO_11 HO_12 BK187 HB; have HO_8 := n0_; have HO_9 := n1_; have HO_10 := n2_; have HO_11 := n3_; have HO_12 := n4_; have HO222 := n5_; have BK187 := n6_; have HB := n7_; clear n0_ n1_ n2_ n3_ n4_ n5_ n6_ n7_; (try clear hb); (try clear hb2); (try clear hk); (try clear hi); (try clear ho0)) | (go_at_call 66; (with_reducible refine (wrackref1_Set.calls k2 _ _ t189 t223 _ ?side1 ?side2 A59.out).mono ?_); (case side1 => repeat (first | exact (Kd.R_reads' HO_8.out).2.2 | (with_reducible refine qcA ?_ _) | (with_reducible refine qcN ?_ _) | (with_reducible refine qcD ?_))); (case side2 => exact (Kd.R_reads' HO_8.out).2.1); rintro e w116 ⟨v224, rfl, ho0, hb⟩; have n0_ := Aside0.mk (qrB (by (with_reducible repeat (first | apply qrA | apply qrN | apply qrD)); exact HO_8.out) hb); have n1_ := Aside0.mk (qrB (by (with_reducible repeat (first | apply qrA | apply qrN | apply qrD)); exact HO_9.out) hb); have n2_ := Aside0.mk (qrB (by (with_reducible repeat (first | apply qrA | apply qrN | apply qrD)); exact HO_10.out) hb); have n3_ := Aside0.mk (qrB (by (with_reducible repeat (first | apply qrA | apply qrN | apply qrD)); exact HO_11.out) hb); have n4_ := Aside0.mk (qrB (by (with_reducible repeat (first | apply qrA | apply qrN | apply qrD)); exact HO_12.out) hb); have n5_ := Aside0.mk (Kd.R_elder' (by (with_reducible repeat (first | apply qrA | apply qrN | apply qrD)); exact HO222.out) (Kd.R_base ho0) hb); have n6_ := Aside0.mk (Kd.R_lower (Kd.R_newB (Kd.R_new' ho0 (Kd.R_lt (by (with_reducible repeat (first | apply qrA | apply qrN | apply qrD)); exact HO222.out))) (g := gb187) (o := .cells #[.int .i64 a0_0, .int .i64 a0_1] 95 (0, 0)) (by (with_reducible repeat (first | refine qkN ?_ _ | refine qkD ?_ | refine qkA ?_ _)); exact BK187.out)) (below_size (by repeat (first | (with_reducible first | exact HB.out | apply qbA | apply qbN | apply qbD | refine below_set ?_ GE187.out) | exact HB.out)))); have n7_ := Aside0.mk (qkB (g := gb187) (o := .cells #[.int .i64 a0_0, .int .i64 a0_1] 95 (0, 0)) (by (with_reducible repeat (first | refine qkN ?_ _ | refine qkD ?_ | refine qkA ?_ _)); exact BK187.out) hb); have n8_ := Aside0.mk (qbS (by repeat (first | (with_reducible first | exact HB.out | apply qbA | apply qbN | apply qbD | refine below_set ?_ GE187.out) | exact HB.out)) hb); clear HO_8 HO_9 HO_10 HO_11 HO_12 HO222 BK187 HB; have HO_8 := n0_; have HO_9 := n1_; have HO_10 := n2_; have HO_11 := n3_; have HO_12 := n4_; have HO222 := n5_; have HO225 := n6_; have BK187 := n7_; have HB := n8_; clear n0_ n1_ n2_ n3_ n4_ n5_ n6_ n7_ n8_; (try clear hb); (try clear hb2); (try clear hk); (try clear hi); (try clear ho0); obtain ⟨Ao117, co117, eo117⟩ := Kd.R_slice HO222.out; subst eo117; obtain ⟨Ao118, co118, eo118⟩ := Kd.R_slice HO225.out; subst eo118) | (go_at_call 64; (with_reducible refine (wrackref1_SameSpans.calls k2 _ _ t220 _ _ t223 true _ ?side1 ?side2 ?side3 ?side4 A60.out).mono ?_); (case side1 => repeat (first | exact (Kd.R_reads' HO222.out).2.2 | (with_reducible refine qcA ?_ _) | (with_reducible refine qcN ?_ _) | (with_reducible refine qcD ?_))); (case side2 => exact (Kd.R_reads' HO222.out).2.1); (case side3 => repeat (first | exact (Kd.R_reads' HO225.out).2.2 | (with_reducible refine qcA ?_ _) | (with_reducible refine qcN ?_ _) | (with_reducible refine qcD ?_))); (case side4 => exact (Kd.R_reads' HO225.out).2.1); rintro e w' ⟨rfl, ⟨nd, rfl⟩⟩) | (go_at_call 67; (with_reducible refine (span_Join.calls k2 (fun k_ => k_ < w.heap.size) _ _ l1 (fun k_ => k_ < w.heap.size) _ _ l2 t227 _ ?side1 ?side2 A62.out).mono ?_); (case side1 => exact Kd.V_mk HC1.out (Kd.F_below (Kd.C_F k95_heap HR1.out) (by repeat (first | (with_reducible first | exact HB.out | apply qbA | apply qbN | apply qbD | refine below_set ?_ GE187.out) | exact HB.out)))); (case side2 => exact Kd.V_mk HC2.out (Kd.F_below (Kd.C_F k95_heap HR2.out) (by repeat (first | (with_reducible first | exact HB.out | apply qbA | apply qbN | apply qbD | refine below_set ?_ GE187.out) | exact HB.out)))); rintro e w119 ⟨v228, rfl, ho0, hb⟩; have n0_ := Aside0.mk (qrB (by (with_reducible repeat (first | apply qrA | apply qrN | apply qrD)); exact HO_8.out) hb); have n1_ := Aside0.mk (qrB (by (with_reducible repeat (first | apply qrA | apply qrN | apply qrD)); exact HO_9.out) hb); have n2_ := Aside0.mk (qrB (by (with_reducible repeat (first | apply qrA | apply qrN | apply qrD)); exact HO_10.out) hb); have n3_ := Aside0.mk (qrB (by (with_reducible repeat (first | apply qrA | apply qrN | apply qrD)); exact HO_11.out) hb); have n4_ := Aside0.mk (qrB (by (with_reducible repeat (first | apply qrA | apply qrN | apply qrD)); exact HO_12.out) hb); have n5_ := Aside0.mk (Kd.R_elder' (by (with_reducible repeat (first | apply qrA | apply qrN | apply qrD)); exact HO222.out) (Kd.R_base ho0) hb); have n6_ := Aside0.mk (Kd.R_elder' (by (with_reducible repeat (first | apply qrA | apply qrN | apply qrD)); exact HO225.out) (Kd.R_base ho0) hb); have n7_ := Aside0.mk (Kd.R_lower (Kd.R_newB (Kd.R_new' (Kd.R_new' (Kd.R_mono (ok' := fun k_ => True) ho0 (fun _ hk_ => trivial)) (Kd.R_lt (by (with_reducible repeat (first | apply qrA | apply qrN | apply qrD)); exact HO222.out))) (Kd.R_lt (by (with_reducible repeat (first | apply qrA | apply qrN | apply qrD)); exact HO225.out))) (g := gb187) (o := .cells #[.int .i64 a0_0, .int .i64 a0_1] 95 (0, 0)) (by (with_reducible repeat (first | refine qkN ?_ _ | refine qkD ?_ | refine qkA ?_ _)); exact BK187.out)) (below_size (by repeat (first | (with_reducible first | exact HB.out | apply qbA | apply qbN | apply qbD | refine below_set ?_ GE187.out) | exact HB.out)))); have n8_ := Aside0.mk (qkB (g := gb187) (o := .cells #[.int .i64 a0_0, .int .i64 a0_1] 95 (0, 0)) (by (with_reducible repeat (first | refine qkN ?_ _ | refine qkD ?_ | refine qkA ?_ _)); exact BK187.out) hb); have n9_ := Aside0.mk (qbS (by repeat (first | (with_reducible first | exact HB.out | apply qbA | apply qbN | apply qbD | refine below_set ?_ GE187.out) | exact HB.out)) hb); clear HO_8 HO_9 HO_10 HO_11 HO_12 HO222 HO225 BK187 HB; have HO_8 := n0_; have HO_9 := n1_; have HO_10 := n2_; have HO_11 := n3_; have HO_12 := n4_; have HO222 := n5_; have HO225 := n6_; have HO229 := n7_; have BK187 := n8_; have HB := n9_; clear n0_ n1_ n2_ n3_ n4_ n5_ n6_ n7_ n8_ n9_; (try clear hb); (try clear hb2); (try clear hk); (try clear hi); (try clear ho0); obtain ⟨Ao120, co120, eo120⟩ := Kd.R_slice HO_10.out; subst eo120) | (go_at_call 66; (with_reducible refine (wrackref1_Set.calls k2 _ _ x10_2 t230 _ ?side1 ?side2 A63.out).mono ?_); (case side1 => repeat (first | exact (Kd.R_reads' HO_10.out).2.2 | (with_reducible refine qcA ?_ _) | (with_reducible refine qcN ?_ _) | (with_reducible refine qcD ?_))); (case side2 => exact (Kd.R_reads' HO_10.out).2.1); rintro e w121 ⟨v231, rfl, ho0, hb⟩; have n0_ := Aside0.mk (qrB (by (with_reducible repeat (first | apply qrA | apply qrN | apply qrD)); exact HO_8.out) hb); have n1_ := Aside0.mk (qrB (by (with_reducible repeat (first | apply qrA | apply qrN | apply qrD)); exact HO_9.out) hb); have n2_ := Aside0.mk (qrB (by (with_reducible repeat (first | apply qrA | apply qrN | apply qrD)); exact HO_10.out) hb); have n3_ := Aside0.mk (qrB (by (with_reducible repeat (first | apply qrA | apply qrN | apply qrD)); exact HO_11.out) hb); have n4_ := Aside0.mk (qrB (by (with_reducible repeat (first | apply qrA | apply qrN | apply qrD)); exact HO_12.out) hb); have n5_ := Aside0.mk (Kd.R_elder' (by (with_reducible repeat (first | apply qrA | apply qrN | apply qrD)); exact HO222.out) (Kd.R_base ho0) hb); have n6_ := Aside0.mk (Kd.R_elder' (by (with_reducible repeat (first | apply qrA | apply qrN | apply qrD)); exact HO225.out) (Kd.R_base ho0) hb); have n7_ := Aside0.mk (Kd.R_elder' (by (with_reducible repeat (first | apply qrA | apply qrN | apply qrD)); exact HO229.out) (Kd.R_base ho0) hb); have n8_ := Aside0.mk (Kd.R_lower (Kd.R_newB (Kd.R_new' (Kd.R_new' (Kd.R_new' ho0 (Kd.R_lt (by (with_reducible repeat (first | apply qrA | apply qrN | apply qrD)); exact HO222.out))) (Kd.R_lt (by (with_reducible repeat (first | apply qrA | apply qrN | apply qrD)); exact HO225.out))) (Kd.R_lt (by (with_reducible repeat (first | apply qrA | apply qrN | apply qrD)); exact HO229.out))) (g := gb187) (o := .cells #[.int .i64 a0_0, .int .i64 a0_1] 95 (0, 0)) (by (with_reducible repeat (first | refine qkN ?_ _ | refine qkD ?_ | refine qkA ?_ _)); exact BK187.out)) (below_size (by repeat (first | (with_reducible first | exact HB.out | apply qbA | apply qbN | apply qbD | refine below_set ?_ GE187.out) | exact HB.out)))); have n9_ := Aside0.mk (qkB (g := gb187) (o := .cells #[.int .i64 a0_0, .int .i64 a0_1] 95 (0, 0)) (by (with_reducible repeat (first | refine qkN ?_ _ | refine qkD ?_ | refine qkA ?_ _)); exact BK187.out) hb); have n10_ := Aside0.mk (qbS (by repeat (first | (with_reducible first | exact HB.out | apply qbA | apply qbN | apply qbD | refine below_set ?_ GE187.out) | exact HB.out)) hb); clear HO_8 HO_9 HO_10 HO_11 HO_12 HO222 HO225 HO229 BK187 HB; have HO_8 := n0_; have HO_9 := n1_; have HO_10 := n2_; have HO_11 := n3_; have HO_12 := n4_; have HO222 := n5_; have HO225 := n6_; have HO229 := n7_; have HO232 := n8_; have BK187 := n9_; have HB := n10_; clear n0_ n1_ n2_ n3_ n4_ n5_ n6_ n7_ n8_ n9_ n10_; (try clear hb); (try clear hb2); (try clear hk); (try clear hi); (try clear ho0); obtain ⟨Ao122, co122, eo122⟩ := Kd.R_slice HO229.out; subst eo122; obtain ⟨Ao123, co123, eo123⟩ := Kd.R_slice HO232.out; subst eo123) | (go_at_call 64; (with_reducible refine (wrackref1_SameSpans.calls k2 _ _ t227 _ _ t230 false _ ?side1 ?side2 ?side3 ?side4 A64.out).mono ?_); (case side1 => repeat (first | exact (Kd.R_reads' HO229.out).2.2 | (with_reducible refine qcA ?_ _) | (with_reducible refine qcN ?_ _) | (with_reducible refine qcD ?_))); (case side2 => exact (Kd.R_reads' HO229.out).2.1); (case side3 => repeat (first | exact (Kd.R_reads' HO232.out).2.2 | (with_reducible refine qcA ?_ _) | (with_reducible refine qcN ?_ _) | (with_reducible refine qcD ?_))); (case side4 => exact (Kd.R_reads' HO232.out).2.1); rintro e w' ⟨rfl, ⟨nd, rfl⟩⟩))
            go_ret
            exact ⟨by first | rfl | (simp [errW_none, errW_some] <;> rfl) | (simp [*, errW_none, errW_some] <;> rfl), by repeat (first | (with_reducible first | exact HB.out | apply qbA | apply qbN | apply qbD | refine below_set ?_ GE187.out) | exact HB.out)⟩
          ·
           replace c61 := Bool.eq_false_iff.mpr c61
           subst c61
           have H1 : (some false) = some r := by rw [if_neg (show ¬ (false = true) by decide)] at H; exact H
           clear H
           have H := H1
           clear H1
           obtain rfl := Option.some.inj H
           go_wp2_with (first | ((with_reducible refine gate_callee (f := 60) rfl ?_); refine goesL_ (some 75) rfl rfl Try.func60 (by kernel_rfl) rfl #[] rfl (by (try simp only [qmT, qmC, qmN]); first | done | rfl | (simp only [List.length_drop, List.length_take]; rfl)) ?_; (with_reducible refine (wracklaw1_spans.calls  true _ A54.out).mono ?_); rintro e w124 ⟨rfl, hb⟩; refine ⟨_, rfl, ?_⟩; have n0_ := Aside0.mk (qrB (by (with_reducible repeat (first | apply qrA | apply qrN | apply qrD)); exact HO_8.out) hb); have n1_ := Aside0.mk (qrB (by (with_reducible repeat (first | apply qrA | apply qrN | apply qrD)); exact HO_9.out) hb); have n2_ := Aside0.mk (qrB (by (with_reducible repeat (first | apply qrA | apply qrN | apply qrD)); exact HO_10.out) hb); have n3_ := Aside0.mk (qrB (by (with_reducible repeat (first | apply qrA | apply qrN | apply qrD)); exact HO_11.out) hb); have n4_ := Aside0.mk (qrB (by (with_reducible repeat (first | apply qrA | apply qrN | apply qrD)); exact HO_12.out) hb); have n5_ := Aside0.mk (qkB (g := gb187) (o := .cells #[.int .i64 a0_0, .int .i64 a0_1] 95 (0, 0)) (by (with_reducible repeat (first | refine qkN ?_ _ | refine qkD ?_ | refine qkA ?_ _)); exact BK187.out) hb); have n6_ := Aside0.mk (qbS (by repeat (first | (with_reducible first | exact HB.out | apply qbA | apply qbN | apply qbD | refine below_set ?_ GE187.out) | exact HB.out)) hb); clear HO_8 HO_9 HO_10 HO_11 HO_12 BK187 HB; have HO_8 := n0_; have HO_9 := n1_; have HO_10 := n2_; have HO_11 := n3_; have HO_12 := n4_; have BK187 := n5_; have HB := n6_; clear n0_ n1_ n2_ n3_ n4_ n5_ n6_; (try clear hb); (try clear hb2); (try clear hk); (try clear hi); have hcz125_0 : w124.cell? ⟨gb187, 0, none⟩ = some (.int .i64 a0_0) := (blk_cell BK187.out 0).trans rfl; have hcz125_1 : w124.cell? ⟨gb187, 1, none⟩ = some (.int .i64 a0_1) := (blk_cell BK187.out 1).trans rfl; have hfz125_0 := blk_frozen BK187.out 0; have hfz125_1 := blk_frozen BK187.out 1) | (go_at_call 63; (with_reducible refine (span_Check.calls a0_0 a0_1 t219 _ A56.out).mono ?_); rintro e w126 ⟨rfl, hb⟩; have n0_ := Aside0.mk (qrB (by (with_reducible repeat (first | apply qrA | apply qrN | apply qrD)); exact HO_8.out) hb); have n1_ := Aside0.mk (qrB (by (with_reducible repeat (first | apply qrA | apply qrN | apply qrD)); exact HO_9.out) hb); have n2_ := Aside0.mk (qrB (by (with_reducible repeat (first | apply qrA | apply qrN | apply qrD)); exact HO_10.out) hb); have n3_ := Aside0.mk (qrB (by (with_reducible repeat (first | apply qrA | apply qrN | apply qrD)); exact HO_11.out) hb); have n4_ := Aside0.mk (qrB (by (with_reducible repeat (first | apply qrA | apply qrN | apply qrD)); exact HO_12.out) hb); have n5_ := Aside0.mk (qkB (g := gb187) (o := .cells #[.int .i64 a0_0, .int .i64 a0_1] 95 (0, 0)) (by (with_reducible repeat (first | refine qkN ?_ _ | refine qkD ?_ | refine qkA ?_ _)); exact BK187.out) hb); have n6_ := Aside0.mk (qbS (by repeat (first | (with_reducible first | exact HB.out | apply qbA | apply qbN | apply qbD | refine below_set ?_ GE187.out) | exact HB.out)) hb); clear HO_8 HO_9 HO_10 HO_11 HO_12 BK187 HB; have HO_8 := n0_; have HO_9 := n1_; have HO_10 := n2_; have HO_11 := n3_; have HO_12 := n4_; have BK187 := n5_; have HB := n6_; clear n0_ n1_ n2_ n3_ n4_ n5_ n6_; (try clear hb); (try clear hb2); (try clear hk); (try clear hi)) | (go_at_call 65; (with_reducible refine (span_Norm.calls k2 _ _ l1 t220 _ ?side1 ?side2 A58.out).mono ?_); (case side1 => repeat (first | exact (qcB HR1.out HB.out) | (with_reducible refine qcA ?_ _) | (with_reducible refine qcN ?_ _) | (with_reducible refine qcD ?_))); (case side2 => exact HC1.out); rintro e w127 ⟨v221, rfl, ho0, hb⟩; have n0_ := Aside0.mk (qrB (by (with_reducible repeat (first | apply qrA | apply qrN | apply qrD)); exact HO_8.out) hb); have n1_ := Aside0.mk (qrB (by (with_reducible repeat (first | apply qrA | apply qrN | apply qrD)); exact HO_9.out) hb); have n2_ := Aside0.mk (qrB (by (with_reducible repeat (first | apply qrA | apply qrN | apply qrD)); exact HO_10.out) hb); have n3_ := Aside0.mk (qrB (by (with_reducible repeat (first | apply qrA | apply qrN | apply qrD)); exact HO_11.out) hb); have n4_ := Aside0.mk (qrB (by (with_reducible repeat (first | apply qrA | apply qrN | apply qrD)); exact HO_12.out) hb); have n5_ := Aside0.mk (Kd.R_lower (Kd.R_newB ho0 (g := gb187) (o := .cells #[.int .i64 a0_0, .int .i64 a0_1] 95 (0, 0)) (by (with_reducible repeat (first | refine qkN ?_ _ | refine qkD ?_ | refine qkA ?_ _)); exact BK187.out)) (below_size (by repeat (first | (with_reducible first | exact HB.out | apply qbA | apply qbN | apply qbD | refine below_set ?_ GE187.out) | exact HB.out)))); have n6_ := Aside0.mk (qkB (g := gb187) (o := .cells #[.int .i64 a0_0, .int .i64 a0_1] 95 (0, 0)) (by (with_reducible repeat (first | refine qkN ?_ _ | refine qkD ?_ | refine qkA ?_ _)); exact BK187.out) hb); have n7_ := Aside0.mk (qbS (by repeat (first | (with_reducible first | exact HB.out | apply qbA | apply qbN | apply qbD | refine below_set ?_ GE187.out) | exact HB.out)) hb); clear HO_8 HO_9 HO_10 HO_11 HO_12 BK187 HB; have HO_8 := n0_; have HO_9 := n1_; have HO_10 := n2_; have HO_11 := n3_; have HO_12 := n4_; have HO222 := n5_; have BK187 := n6_; have HB := n7_; clear n0_ n1_ n2_ n3_ n4_ n5_ n6_ n7_; (try clear hb); (try clear hb2); (try clear hk); (try clear hi); (try clear ho0)) | (go_at_call 66; (with_reducible refine (wrackref1_Set.calls k2 _ _ t189 t223 _ ?side1 ?side2 A59.out).mono ?_); (case side1 => repeat (first | exact (Kd.R_reads' HO_8.out).2.2 | (with_reducible refine qcA ?_ _) | (with_reducible refine qcN ?_ _) | (with_reducible refine qcD ?_))); (case side2 => exact (Kd.R_reads' HO_8.out).2.1); rintro e w128 ⟨v224, rfl, ho0, hb⟩; have n0_ := Aside0.mk (qrB (by (with_reducible repeat (first | apply qrA | apply qrN | apply qrD)); exact HO_8.out) hb); have n1_ := Aside0.mk (qrB (by (with_reducible repeat (first | apply qrA | apply qrN | apply qrD)); exact HO_9.out) hb); have n2_ := Aside0.mk (qrB (by (with_reducible repeat (first | apply qrA | apply qrN | apply qrD)); exact HO_10.out) hb); have n3_ := Aside0.mk (qrB (by (with_reducible repeat (first | apply qrA | apply qrN | apply qrD)); exact HO_11.out) hb); have n4_ := Aside0.mk (qrB (by (with_reducible repeat (first | apply qrA | apply qrN | apply qrD)); exact HO_12.out) hb); have n5_ := Aside0.mk (Kd.R_elder' (by (with_reducible repeat (first | apply qrA | apply qrN | apply qrD)); exact HO222.out) (Kd.R_base ho0) hb); have n6_ := Aside0.mk (Kd.R_lower (Kd.R_newB (Kd.R_new' ho0 (Kd.R_lt (by (with_reducible repeat (first | apply qrA | apply qrN | apply qrD)); exact HO222.out))) (g := gb187) (o := .cells #[.int .i64 a0_0, .int .i64 a0_1] 95 (0, 0)) (by (with_reducible repeat (first | refine qkN ?_ _ | refine qkD ?_ | refine qkA ?_ _)); exact BK187.out)) (below_size (by repeat (first | (with_reducible first | exact HB.out | apply qbA | apply qbN | apply qbD | refine below_set ?_ GE187.out) | exact HB.out)))); have n7_ := Aside0.mk (qkB (g := gb187) (o := .cells #[.int .i64 a0_0, .int .i64 a0_1] 95 (0, 0)) (by (with_reducible repeat (first | refine qkN ?_ _ | refine qkD ?_ | refine qkA ?_ _)); exact BK187.out) hb); have n8_ := Aside0.mk (qbS (by repeat (first | (with_reducible first | exact HB.out | apply qbA | apply qbN | apply qbD | refine below_set ?_ GE187.out) | exact HB.out)) hb); clear HO_8 HO_9 HO_10 HO_11 HO_12 HO222 BK187 HB; have HO_8 := n0_; have HO_9 := n1_; have HO_10 := n2_; have HO_11 := n3_; have HO_12 := n4_; have HO222 := n5_; have HO225 := n6_; have BK187 := n7_; have HB := n8_; clear n0_ n1_ n2_ n3_ n4_ n5_ n6_ n7_ n8_; (try clear hb); (try clear hb2); (try clear hk); (try clear hi); (try clear ho0); obtain ⟨Ao129, co129, eo129⟩ := Kd.R_slice HO222.out; subst eo129; obtain ⟨Ao130, co130, eo130⟩ := Kd.R_slice HO225.out; subst eo130) | (go_at_call 64; (with_reducible refine (wrackref1_SameSpans.calls k2 _ _ t220 _ _ t223 false _ ?side1 ?side2 ?side3 ?side4 A60.out).mono ?_); (case side1 => repeat (first | exact (Kd.R_reads' HO222.out).2.2 | (with_reducible refine qcA ?_ _) | (with_reducible refine qcN ?_ _) | (with_reducible refine qcD ?_))); (case side2 => exact (Kd.R_reads' HO222.out).2.1); (case side3 => repeat (first | exact (Kd.R_reads' HO225.out).2.2 | (with_reducible refine qcA ?_ _) | (with_reducible refine qcN ?_ _) | (with_reducible refine qcD ?_))); (case side4 => exact (Kd.R_reads' HO225.out).2.1); rintro e w' ⟨rfl, ⟨nd, rfl⟩⟩))
           go_ret
           exact ⟨by first | rfl | (simp [errW_none, errW_some] <;> rfl) | (simp [*, errW_none, errW_some] <;> rfl), by repeat (first | (with_reducible first | exact HB.out | apply qbA | apply qbN | apply qbD | refine below_set ?_ GE187.out) | exact HB.out)⟩
         ·
          rw [if_neg c57] at H
          have c57b0 : (t219 == x7_4) = false := beq_eq_false_iff_ne.mpr c57
          have c57b1 : (t219 != x7_4) = true := bne_iff_ne.mpr c57
          obtain rfl := Option.some.inj H
          go_wp2_with (first | ((with_reducible refine gate_callee (f := 60) rfl ?_); refine goesL_ (some 75) rfl rfl Try.func60 (by kernel_rfl) rfl #[] rfl (by (try simp only [qmT, qmC, qmN]); first | done | rfl | (simp only [List.length_drop, List.length_take]; rfl)) ?_; (with_reducible refine (wracklaw1_spans.calls  true _ A54.out).mono ?_); rintro e w131 ⟨rfl, hb⟩; refine ⟨_, rfl, ?_⟩; have n0_ := Aside0.mk (qrB (by (with_reducible repeat (first | apply qrA | apply qrN | apply qrD)); exact HO_8.out) hb); have n1_ := Aside0.mk (qrB (by (with_reducible repeat (first | apply qrA | apply qrN | apply qrD)); exact HO_9.out) hb); have n2_ := Aside0.mk (qrB (by (with_reducible repeat (first | apply qrA | apply qrN | apply qrD)); exact HO_10.out) hb); have n3_ := Aside0.mk (qrB (by (with_reducible repeat (first | apply qrA | apply qrN | apply qrD)); exact HO_11.out) hb); have n4_ := Aside0.mk (qrB (by (with_reducible repeat (first | apply qrA | apply qrN | apply qrD)); exact HO_12.out) hb); have n5_ := Aside0.mk (qkB (g := gb187) (o := .cells #[.int .i64 a0_0, .int .i64 a0_1] 95 (0, 0)) (by (with_reducible repeat (first | refine qkN ?_ _ | refine qkD ?_ | refine qkA ?_ _)); exact BK187.out) hb); have n6_ := Aside0.mk (qbS (by repeat (first | (with_reducible first | exact HB.out | apply qbA | apply qbN | apply qbD | refine below_set ?_ GE187.out) | exact HB.out)) hb); clear HO_8 HO_9 HO_10 HO_11 HO_12 BK187 HB; have HO_8 := n0_; have HO_9 := n1_; have HO_10 := n2_; have HO_11 := n3_; have HO_12 := n4_; have BK187 := n5_; have HB := n6_; clear n0_ n1_ n2_ n3_ n4_ n5_ n6_; (try clear hb); (try clear hb2); (try clear hk); (try clear hi); have hcz132_0 : w131.cell? ⟨gb187, 0, none⟩ = some (.int .i64 a0_0) := (blk_cell BK187.out 0).trans rfl; have hcz132_1 : w131.cell? ⟨gb187, 1, none⟩ = some (.int .i64 a0_1) := (blk_cell BK187.out 1).trans rfl; have hfz132_0 := blk_frozen BK187.out 0; have hfz132_1 := blk_frozen BK187.out 1) | (go_at_call 63; (with_reducible refine (span_Check.calls a0_0 a0_1 t219 _ A56.out).mono ?_); rintro e w133 ⟨rfl, hb⟩; have n0_ := Aside0.mk (qrB (by (with_reducible repeat (first | apply qrA | apply qrN | apply qrD)); exact HO_8.out) hb); have n1_ := Aside0.mk (qrB (by (with_reducible repeat (first | apply qrA | apply qrN | apply qrD)); exact HO_9.out) hb); have n2_ := Aside0.mk (qrB (by (with_reducible repeat (first | apply qrA | apply qrN | apply qrD)); exact HO_10.out) hb); have n3_ := Aside0.mk (qrB (by (with_reducible repeat (first | apply qrA | apply qrN | apply qrD)); exact HO_11.out) hb); have n4_ := Aside0.mk (qrB (by (with_reducible repeat (first | apply qrA | apply qrN | apply qrD)); exact HO_12.out) hb); have n5_ := Aside0.mk (qkB (g := gb187) (o := .cells #[.int .i64 a0_0, .int .i64 a0_1] 95 (0, 0)) (by (with_reducible repeat (first | refine qkN ?_ _ | refine qkD ?_ | refine qkA ?_ _)); exact BK187.out) hb); have n6_ := Aside0.mk (qbS (by repeat (first | (with_reducible first | exact HB.out | apply qbA | apply qbN | apply qbD | refine below_set ?_ GE187.out) | exact HB.out)) hb); clear HO_8 HO_9 HO_10 HO_11 HO_12 BK187 HB; have HO_8 := n0_; have HO_9 := n1_; have HO_10 := n2_; have HO_11 := n3_; have HO_12 := n4_; have BK187 := n5_; have HB := n6_; clear n0_ n1_ n2_ n3_ n4_ n5_ n6_; (try clear hb); (try clear hb2); (try clear hk); (try clear hi)))
          go_ret
          exact ⟨by first | rfl | (simp [errW_none, errW_some] <;> rfl) | (simp [*, errW_none, errW_some] <;> rfl), by repeat (first | (with_reducible first | exact HB.out | apply qbA | apply qbN | apply qbD | refine below_set ?_ GE187.out) | exact HB.out)⟩
        ·
         replace c55 := Bool.eq_false_iff.mpr c55
         subst c55
         have H1 : (some false) = some r := by rw [if_neg (show ¬ (false = true) by decide)] at H; exact H
         clear H
         have H := H1
         clear H1
         obtain rfl := Option.some.inj H
         go_wp2_with (first | ((with_reducible refine gate_callee (f := 60) rfl ?_); refine goesL_ (some 75) rfl rfl Try.func60 (by kernel_rfl) rfl #[] rfl (by (try simp only [qmT, qmC, qmN]); first | done | rfl | (simp only [List.length_drop, List.length_take]; rfl)) ?_; (with_reducible refine (wracklaw1_spans.calls  false _ A54.out).mono ?_); rintro e w134 ⟨rfl, hb⟩; refine ⟨_, rfl, ?_⟩; have n0_ := Aside0.mk (qrB (by (with_reducible repeat (first | apply qrA | apply qrN | apply qrD)); exact HO_8.out) hb); have n1_ := Aside0.mk (qrB (by (with_reducible repeat (first | apply qrA | apply qrN | apply qrD)); exact HO_9.out) hb); have n2_ := Aside0.mk (qrB (by (with_reducible repeat (first | apply qrA | apply qrN | apply qrD)); exact HO_10.out) hb); have n3_ := Aside0.mk (qrB (by (with_reducible repeat (first | apply qrA | apply qrN | apply qrD)); exact HO_11.out) hb); have n4_ := Aside0.mk (qrB (by (with_reducible repeat (first | apply qrA | apply qrN | apply qrD)); exact HO_12.out) hb); have n5_ := Aside0.mk (qkB (g := gb187) (o := .cells #[.int .i64 a0_0, .int .i64 a0_1] 95 (0, 0)) (by (with_reducible repeat (first | refine qkN ?_ _ | refine qkD ?_ | refine qkA ?_ _)); exact BK187.out) hb); have n6_ := Aside0.mk (qbS (by repeat (first | (with_reducible first | exact HB.out | apply qbA | apply qbN | apply qbD | refine below_set ?_ GE187.out) | exact HB.out)) hb); clear HO_8 HO_9 HO_10 HO_11 HO_12 BK187 HB; have HO_8 := n0_; have HO_9 := n1_; have HO_10 := n2_; have HO_11 := n3_; have HO_12 := n4_; have BK187 := n5_; have HB := n6_; clear n0_ n1_ n2_ n3_ n4_ n5_ n6_; (try clear hb); (try clear hb2); (try clear hk); (try clear hi)))
         go_ret
         exact ⟨by first | rfl | (simp [errW_none, errW_some] <;> rfl) | (simp [*, errW_none, errW_some] <;> rfl), by repeat (first | (with_reducible first | exact HB.out | apply qbA | apply qbN | apply qbD | refine below_set ?_ GE187.out) | exact HB.out)⟩
    ·
     rw [if_neg c13] at H
     exact absurd H (by simp)
   ·
    rw [if_neg c12] at H
    exact absurd H (by simp)

end Go.Proofs.Ytdgkbpoljcndgaa.QSpanSets
