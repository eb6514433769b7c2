/- Written by a program of this session (wip/mprint): the walk of the Go code, function by function, for every input; no condition. -/
import Derived.Test.YtagcaheopbmdiaaDoorYQLockSealsx0
import Derived.Test.YtagcaheopbmdiaaDoorYQLockSealsx7
namespace Go.Proofs.YtagcaheopbmdiaaDoor.QLockSeals
open Go.RowKit Go.Proofs.YtagcaheopbmdiaaDoorW.PrintWords Go.Proofs.YtagcaheopbmdiaaDoorW.PrintLast Go.Proofs.YtagcaheopbmdiaaDoorW.PrintMore
attribute [local go_sem] max2_int min2_int max_two min_two max_three min_three max_four min_four   -- for this text's walks alone
set_option linter.unusedVariables false
set_option linter.unusedSimpArgs false
def wrackref1_Stream.l0 : Nat → ByteArray → Int → Int → ByteArray → Int → Int → Option (ByteArray)
 | 0, _, _, _, _, _, _ => none
 | k + 1, x0, x1, x2, x7, x12, x13 => if x13 < x12 then ((wrackref1_Eight.f k x1).bind fun t228 => ((wrackref1_Eight.f k (IntKind.u64.wrap (wrap64 (Int.tdiv (wrap64 (x2 + x13)) 8)))).bind fun t229 => (if t228.size + t229.size ≤ 9223372036854775807 then (if (t228 ++ t229).size ≤ 140737488355328 then ((wrackref1_Mix.f k (bytesOf (t228 ++ t229))).bind fun t234 => ((wrackref1_Eight.f k t234).bind fun t235 => (if 0 ≤ x13 then (if x13 < (x0.size : Int) then (if 0 ≤ (Int.tmod (wrap64 (x2 + x13)) 8) then (if (Int.tmod (wrap64 (x2 + x13)) 8) < (t235.size : Int) then ((some (([Go.bits .xor .u8 (bt x0 x13) (bt t235 (Int.tmod (wrap64 (x2 + x13)) 8))] : List Int) : List Int)).bind fun y236 => (if x7.size + (strOfNums y236).size ≤ 9223372036854775807 then (wrackref1_Stream.l0 k x0 x1 x2 (x7 ++ (strOfNums y236)) x12 (wrap64 (x13 + 1))) else (none))) else (none)) else (none)) else (none)) else (none)))) else (none)) else (none)))) else (some x7)
def wrackref1_Stream.f (k : Nat) (a0 : ByteArray) (a1 : Int) (a2 : Int) : Option (ByteArray) := wrackref1_Stream.l0 k a0 a1 a2 (⟨#[]⟩ : ByteArray) (a0.size : Int) 0
theorem wrackref1_Stream.mono_l : ∀ k, (∀ y0 y1 y2 y3 y4 y5, LeO (wrackref1_Stream.l0 k y0 y1 y2 y3 y4 y5) (wrackref1_Stream.l0 (k + 1) y0 y1 y2 y3 y4 y5))
 | 0 => fun _ _ _ _ _ _ r h => by simp [wrackref1_Stream.l0] at h
 | k + 1 => by
  have ih0 := wrackref1_Stream.mono_l k
  ·
   intro y0 y1 y2 y3 y4 y5
   unfold wrackref1_Stream.l0
   repeat' first
   | (with_reducible exact ih0 _ _ _ _ _ _)
   | (with_reducible exact wrackref1_Eight.mono _ _)
   | (with_reducible exact wrackref1_Mix.mono _ _)
   | (with_reducible exact LeO.refl _)
   | (with_reducible exact LeO.none _)
   | (with_reducible refine LeO.ite ?_ ?_)
   | (with_reducible refine LeO.bind ?_ (fun _ => ?_))
   | exact ih0 _ _ _ _ _ _
   | exact wrackref1_Eight.mono _ _
   | exact wrackref1_Mix.mono _ _
   | exact LeO.none _
   | refine LeO.ite ?_ ?_
   | refine LeO.bind ?_ (fun _ => ?_)
theorem wrackref1_Stream.mono : ∀ a0 a1 a2 k, LeO (wrackref1_Stream.f k a0 a1 a2) (wrackref1_Stream.f (k + 1) a0 a1 a2) := by
 intro a0 a1 a2 k
 have ih0 := wrackref1_Stream.mono_l k
 unfold wrackref1_Stream.f
 repeat' first
   | (with_reducible exact ih0 _ _ _ _ _ _)
   | (with_reducible exact wrackref1_Eight.mono _ _)
   | (with_reducible exact wrackref1_Mix.mono _ _)
   | (with_reducible exact LeO.refl _)
   | (with_reducible exact LeO.none _)
   | (with_reducible refine LeO.ite ?_ ?_)
   | (with_reducible refine LeO.bind ?_ (fun _ => ?_))
   | exact ih0 _ _ _ _ _ _
   | exact wrackref1_Eight.mono _ _
   | exact wrackref1_Mix.mono _ _
   | exact LeO.none _
   | refine LeO.ite ?_ ?_
   | refine LeO.bind ?_ (fun _ => ?_)
def wrackref1_Stream.T7 : Bool × List (List Nat × List Nat) := (true,[([], []), ([], []), ([], []), ([1, 2], [1, 2]), ([], []), ([], []), ([5], [5]), ([4, 6], [4, 6]), ([3, 7], [3, 7]), ([8], [8]), ([9], [9]), ([0, 10], [0, 10]), ([11, 0, 1, 2, 3, 4, 5, 6, 7, 8, 9, 10, 11], [0, 11])])
def wrackref1_Stream.B7 : List Nat := [0, 0, 0, 6, 0, 0, 32, 112, 254, 510, 1022, 2047, 4095]
theorem wrackref1_Stream.tab7 : rtab .any (opsOf Tryd.f20 7) = wrackref1_Stream.T7 := by kernel_rfl
theorem wrackref1_Stream.bits7 : waitsOk wrackref1_Stream.T7.2 wrackref1_Stream.B7 = true := by kernel_rfl
set_option maxHeartbeats 8000000 in
set_option maxRecDepth 100000 in
theorem wrackref1_Stream.calls (k : Nat) (a0 : ByteArray) (a1 : Int) (a2 : Int) (r : ByteArray) (w : World) (h : wrackref1_Stream.f k a0 a1 a2 = some r) :
  Calls Tryd.prog 20 #[.string a0, .int .u64 a1, .int .i64 a2] w fun e w' => e = .returned (.string r) ∧ Below w.heap.size w w' := by
 have HB := Aside0.mk (Below.refl w.heap.size w)
 have H : (wrackref1_Stream.l0 k a0 a1 a2 (⟨#[]⟩ : ByteArray) (a0.size : Int) 0) = some r := h
 clear h
 have H' := Aside0.mk H
 clear H
 go_enter Tryd.func20, Tryd.ntmps20
 go_wp2
 go_loopg [7, 13] k (fun kq v7 v13 w' => ∃ (x7_1 : ByteArray) (x13_1 : Int), v7 = .string x7_1 ∧ v13 = .int .i64 x13_1 ∧ Aside0 (wrackref1_Stream.l0 kq a0 a1 a2 x7_1 (a0.size : Int) x13_1 = some r) ∧ Aside0 (kq ≤ k) ∧ Aside0 (Below w.heap.size w w'))
 case atStart => exact ⟨((⟨#[]⟩ : ByteArray)), (0), (by first | rfl | (simp; done) | (simp [*]; done)), (by first | rfl | (simp; done) | (simp [*]; done)), H', ⟨Nat.le_refl _⟩, ⟨by repeat (first | (with_reducible first | exact HB.out | apply below_alloc | apply pw_below_drewN | apply below_drew1) | exact HB.out)⟩⟩
 case round =>
  clear H'
  try clear c2
  try clear p2
  obtain ⟨x7_1, x13_1, rfl, rfl, HA, HK1, HB⟩ := hrel
  cases gk with
  | zero => exact absurd HA.out (by simp [wrackref1_Stream.l0])
  | succ k1 =>
   have H := HA.out
   clear HA
   simp only [wrackref1_Stream.l0] at H
   by_cases c4 : x13_1 < (a0.size : Int)
   ·
    rw [if_pos c4] at H
    have c4b0 : decide (x13_1 < (a0.size : Int)) = true := decide_eq_true c4
    clear c4
    replace H := Option.bind_eq_some_iff.mp H
    obtain ⟨t228, A50, H⟩ := H
    replace H : ((wrackref1_Eight.f k1 (IntKind.u64.wrap (wrap64 (Int.tdiv (wrap64 (a2 + x13_1)) 8)))).bind fun t229 => (if t228.size + t229.size ≤ 9223372036854775807 then (if (t228 ++ t229).size ≤ 140737488355328 then ((wrackref1_Mix.f k1 (bytesOf (t228 ++ t229))).bind fun t234 => ((wrackref1_Eight.f k1 t234).bind fun t235 => (if 0 ≤ x13_1 then (if x13_1 < (a0.size : Int) then (if 0 ≤ (Int.tmod (wrap64 (a2 + x13_1)) 8) then (if (Int.tmod (wrap64 (a2 + x13_1)) 8) < (t235.size : Int) then ((some (([Go.bits .xor .u8 (bt a0 x13_1) (bt t235 (Int.tmod (wrap64 (a2 + x13_1)) 8))] : List Int) : List Int)).bind fun y236 => (if x7_1.size + (strOfNums y236).size ≤ 9223372036854775807 then (wrackref1_Stream.l0 k1 a0 a1 a2 (x7_1 ++ (strOfNums y236)) (a0.size : Int) (wrap64 (x13_1 + 1))) else (none))) else (none)) else (none)) else (none)) else (none)))) else (none)) else (none))) = some r := H
    have A5 := Aside0.mk A50
    clear A50
    replace H := Option.bind_eq_some_iff.mp H
    obtain ⟨t229, A60, H⟩ := H
    replace H : (if t228.size + t229.size ≤ 9223372036854775807 then (if (t228 ++ t229).size ≤ 140737488355328 then ((wrackref1_Mix.f k1 (bytesOf (t228 ++ t229))).bind fun t234 => ((wrackref1_Eight.f k1 t234).bind fun t235 => (if 0 ≤ x13_1 then (if x13_1 < (a0.size : Int) then (if 0 ≤ (Int.tmod (wrap64 (a2 + x13_1)) 8) then (if (Int.tmod (wrap64 (a2 + x13_1)) 8) < (t235.size : Int) then ((some (([Go.bits .xor .u8 (bt a0 x13_1) (bt t235 (Int.tmod (wrap64 (a2 + x13_1)) 8))] : List Int) : List Int)).bind fun y236 => (if x7_1.size + (strOfNums y236).size ≤ 9223372036854775807 then (wrackref1_Stream.l0 k1 a0 a1 a2 (x7_1 ++ (strOfNums y236)) (a0.size : Int) (wrap64 (x13_1 + 1))) else (none))) else (none)) else (none)) else (none)) else (none)))) else (none)) else (none)) = some r := H
    have A6 := Aside0.mk A60
    clear A60
    by_cases c7 : t228.size + t229.size ≤ 9223372036854775807
    ·
     rw [if_pos c7] at H
     have c7b0 := eq_true c7
     have c7b1 : decide (t228.size + t229.size ≤ 9223372036854775807) = true := decide_eq_true c7
     try have c7b2 : (9223372036854775807 < t228.size + t229.size) = False := eq_false (Nat.not_lt.2 c7)
     by_cases c8 : (t228 ++ t229).size ≤ 140737488355328
     ·
      rw [if_pos c8] at H
      have c8b0 := eq_true c8
      have c8b1 : decide ((t228 ++ t229).size ≤ 140737488355328) = true := decide_eq_true c8
      obtain ⟨y230, hy230⟩ : ∃ y_ : List Int, y_ = (bytesOf (t228 ++ t229)) := ⟨_, rfl⟩
      replace H : ((wrackref1_Mix.f k1 y230).bind fun t234 => ((wrackref1_Eight.f k1 t234).bind fun t235 => (if 0 ≤ x13_1 then (if x13_1 < (a0.size : Int) then (if 0 ≤ (Int.tmod (wrap64 (a2 + x13_1)) 8) then (if (Int.tmod (wrap64 (a2 + x13_1)) 8) < (t235.size : Int) then ((some (([Go.bits .xor .u8 (bt a0 x13_1) (bt t235 (Int.tmod (wrap64 (a2 + x13_1)) 8))] : List Int) : List Int)).bind fun y236 => (if x7_1.size + (strOfNums y236).size ≤ 9223372036854775807 then (wrackref1_Stream.l0 k1 a0 a1 a2 (x7_1 ++ (strOfNums y236)) (a0.size : Int) (wrap64 (x13_1 + 1))) else (none))) else (none)) else (none)) else (none)) else (none)))) = some r := by first | (rw [hy230]; with_reducible exact H) | (have H2_ := (Option.bind_some _ _).symm.trans H; rw [hy230]; with_reducible exact H2_) | (have H2_ := (Option.bind_some _ _).symm.trans H; with_reducible exact H2_) | with_reducible exact H | (rw [hy230]; exact H) | exact H
      have Ny230 := Aside0.mk hy230
      clear hy230
      replace H := Option.bind_eq_some_iff.mp H
      obtain ⟨t234, A90, H⟩ := H
      replace H : ((wrackref1_Eight.f k1 t234).bind fun t235 => (if 0 ≤ x13_1 then (if x13_1 < (a0.size : Int) then (if 0 ≤ (Int.tmod (wrap64 (a2 + x13_1)) 8) then (if (Int.tmod (wrap64 (a2 + x13_1)) 8) < (t235.size : Int) then ((some (([Go.bits .xor .u8 (bt a0 x13_1) (bt t235 (Int.tmod (wrap64 (a2 + x13_1)) 8))] : List Int) : List Int)).bind fun y236 => (if x7_1.size + (strOfNums y236).size ≤ 9223372036854775807 then (wrackref1_Stream.l0 k1 a0 a1 a2 (x7_1 ++ (strOfNums y236)) (a0.size : Int) (wrap64 (x13_1 + 1))) else (none))) else (none)) else (none)) else (none)) else (none))) = some r := H
      have A9 := Aside0.mk A90
      clear A90
      replace H := Option.bind_eq_some_iff.mp H
      obtain ⟨t235, A100, H⟩ := H
      replace H : (if 0 ≤ x13_1 then (if x13_1 < (a0.size : Int) then (if 0 ≤ (Int.tmod (wrap64 (a2 + x13_1)) 8) then (if (Int.tmod (wrap64 (a2 + x13_1)) 8) < (t235.size : Int) then ((some (([Go.bits .xor .u8 (bt a0 x13_1) (bt t235 (Int.tmod (wrap64 (a2 + x13_1)) 8))] : List Int) : List Int)).bind fun y236 => (if x7_1.size + (strOfNums y236).size ≤ 9223372036854775807 then (wrackref1_Stream.l0 k1 a0 a1 a2 (x7_1 ++ (strOfNums y236)) (a0.size : Int) (wrap64 (x13_1 + 1))) else (none))) else (none)) else (none)) else (none)) else (none)) = some r := H
      have A10 := Aside0.mk A100
      clear A100
      by_cases c11 : 0 ≤ x13_1
      ·
       rw [if_pos c11] at H
       have c11b0 : decide (0 ≤ x13_1) = true := decide_eq_true c11
       clear c11
       by_cases c12 : x13_1 < (a0.size : Int)
       ·
        rw [if_pos c12] at H
        have c12b0 : decide (x13_1 < (a0.size : Int)) = true := decide_eq_true c12
        clear c12
        obtain ⟨ji14, hji14⟩ : ∃ j_ : Int, (Int.tmod (wrap64 (a2 + x13_1)) 8) = j_ := ⟨_, rfl⟩
        replace H : (if 0 ≤ (ji14) then (if (ji14) < (t235.size : Int) then ((some (([Go.bits .xor .u8 (bt a0 x13_1) (bt t235 (ji14))] : List Int) : List Int)).bind fun y236 => (if x7_1.size + (strOfNums y236).size ≤ 9223372036854775807 then (wrackref1_Stream.l0 k1 a0 a1 a2 (x7_1 ++ (strOfNums y236)) (a0.size : Int) (wrap64 (x13_1 + 1))) else (none))) else (none)) else (none)) = some r := by first | (rw [hji14] at H; exact H) | (simp only [hji14] at H ⊢; exact H)
        (try rw [hji14] at A5)
        (try rw [hji14] at A6)
        (try rw [hji14] at A9)
        (try rw [hji14] at A10)
        by_cases c15 : 0 ≤ (ji14)
        ·
         rw [if_pos c15] at H
         have c15b0 : decide (0 ≤ (ji14)) = true := decide_eq_true c15
         clear c15
         by_cases c16 : (ji14) < (t235.size : Int)
         ·
          rw [if_pos c16] at H
          have c16b0 : decide ((ji14) < (t235.size : Int)) = true := decide_eq_true c16
          clear c16
          obtain ⟨y236, hy236⟩ : ∃ y_ : List Int, y_ = (([Go.bits .xor .u8 (bt a0 x13_1) (bt t235 (ji14))] : List Int)) := ⟨_, rfl⟩
          replace H : (if x7_1.size + (strOfNums y236).size ≤ 9223372036854775807 then (wrackref1_Stream.l0 k1 a0 a1 a2 (x7_1 ++ (strOfNums y236)) (a0.size : Int) (wrap64 (x13_1 + 1))) else (none)) = some r := by first | (rw [hy236]; with_reducible exact H) | (have H2_ := (Option.bind_some _ _).symm.trans H; rw [hy236]; with_reducible exact H2_) | (have H2_ := (Option.bind_some _ _).symm.trans H; with_reducible exact H2_) | with_reducible exact H | (rw [hy236]; exact H) | exact H
          have Ny236 := Aside0.mk hy236
          clear hy236
          by_cases c18 : x7_1.size + (strOfNums y236).size ≤ 9223372036854775807
          ·
           rw [if_pos c18] at H
           have c18b0 := eq_true c18
           have c18b1 : decide (x7_1.size + (strOfNums y236).size ≤ 9223372036854775807) = true := decide_eq_true c18
           try have c18b2 : (9223372036854775807 < x7_1.size + (strOfNums y236).size) = False := eq_false (Nat.not_lt.2 c18)
           have H' := Aside0.mk H
           clear H
           try go_wp2_with (first | ((with_reducible refine gate_callee (f := 29) rfl ?_); refine goesL_ (some 20) rfl rfl Tryd.func29 (by kernel_rfl) rfl #[.int .u64 a1] rfl (by (try simp only [List.map_toArray, List.map_cons, List.map_nil]); first | done | rfl | (simp only [List.length_drop, List.length_take]; rfl)) ?_; (with_reducible refine (wrackref1_Eight.calls k1 a1 t228 _ A5.out).mono ?_); rintro e w19 ⟨rfl, hb⟩; refine ⟨_, rfl, ?_⟩; have n0_ := Aside0.mk (below_step (by repeat (first | (with_reducible first | exact HB.out | apply below_alloc | apply pw_below_drewN | apply below_drew1) | exact HB.out)) hb); clear HB; have HB := n0_; clear n0_; (try clear hb); (try clear hb2); (try clear hk); (try clear hi)) | ((with_reducible refine gate_callee (f := 29) rfl ?_); refine goesL_ (some 24) rfl rfl Tryd.func29 (by kernel_rfl) rfl #[.int .u64 (IntKind.u64.wrap (wrap64 (Int.tdiv (wrap64 (a2 + x13_1)) 8)))] rfl (by (try simp only [List.map_toArray, List.map_cons, List.map_nil]); first | done | rfl | (simp only [List.length_drop, List.length_take]; rfl)) ?_; (with_reducible refine (wrackref1_Eight.calls k1 (IntKind.u64.wrap (wrap64 (Int.tdiv (wrap64 (a2 + x13_1)) 8))) t229 _ A6.out).mono ?_); rintro e w20 ⟨rfl, hb⟩; refine ⟨_, rfl, ?_⟩; have n0_ := Aside0.mk (below_step (by repeat (first | (with_reducible first | exact HB.out | apply below_alloc | apply pw_below_drewN | apply below_drew1) | exact HB.out)) hb); clear HB; have HB := n0_; clear n0_; (try clear hb); (try clear hb2); (try clear hk); (try clear hi)) | ((with_reducible refine gate_dst (N := 26) rfl ?_); refine Kd.C_bytes rfl (N := 26) rfl 9 22 _ rfl (t228 ++ t229) rfl Tryd.underlying9 Tryd.underlying22 Tryd.underlying5 (of_decide_eq_true (by first | (with_reducible assumption) | assumption)) ?_; intro A233 c233 w21 hn233 hc233 hb; rw [← Ny230.out] at hn233 hc233; rw [← Ny230.out]; have n0_ := Aside0.mk (below_step (by repeat (first | (with_reducible first | exact HB.out | apply below_alloc | apply pw_below_drewN | apply below_drew1) | exact HB.out)) hb); clear HB; have HB := n0_; clear n0_; have HR233 := Aside0.mk hn233; have HC233 := Aside0.mk hc233; clear hb hn233 hc233) | ((with_reducible refine gate_callee (f := 28) rfl ?_); refine goesL_ (some 27) rfl rfl Tryd.func28 (by kernel_rfl) rfl #[.slice A233 y230.length c233] rfl (by (try simp only [List.map_toArray, List.map_cons, List.map_nil]); first | done | rfl | (simp only [List.length_drop, List.length_take]; rfl)) ?_; (with_reducible refine (wrackref1_Mix.calls k1 _ _ y230 t234 _ ?side1 ?side2 A9.out).mono ?_); (case side1 => repeat (first | exact (by repeat (first | (with_reducible exact HR233.out) | (with_reducible refine Kd.C_alloc ?_ _) | (with_reducible refine Kd.C_drewN ?_ _) | (with_reducible refine Kd.C_drew ?_) | exact HR233.out)) | (with_reducible refine Kd.C_alloc ?_ _) | (with_reducible refine Kd.C_drewN ?_ _) | (with_reducible refine Kd.C_drew ?_))); (case side2 => exact HC233.out); rintro e w' ⟨rfl, ⟨nd, rfl⟩⟩; refine ⟨_, rfl, ?_⟩) | ((with_reducible refine gate_callee (f := 29) rfl ?_); refine goesL_ (some 28) rfl rfl Tryd.func29 (by kernel_rfl) rfl #[.int .u64 t234] rfl (by (try simp only [List.map_toArray, List.map_cons, List.map_nil]); first | done | rfl | (simp only [List.length_drop, List.length_take]; rfl)) ?_; (with_reducible refine (wrackref1_Eight.calls k1 t234 t235 _ A10.out).mono ?_); rintro e w22 ⟨rfl, hb⟩; refine ⟨_, rfl, ?_⟩; have n0_ := Aside0.mk (Kd.C_below (by repeat (first | (with_reducible exact HR233.out) | (with_reducible refine Kd.C_alloc ?_ _) | (with_reducible refine Kd.C_drewN ?_ _) | (with_reducible refine Kd.C_drew ?_) | exact HR233.out)) hb); have n1_ := Aside0.mk (below_step (by repeat (first | (with_reducible first | exact HB.out | apply below_alloc | apply pw_below_drewN | apply below_drew1) | exact HB.out)) hb); clear HR233; clear HB; have HR233 := n0_; have HB := n1_; clear n0_ n1_; (try clear hb); (try clear hb2); (try clear hk); (try clear hi)))
           have n0_ := Aside0.mk (Kd.C_drew HR233.out)
           have n1_ := Aside0.mk (below_drew1 HB.out)
           clear HR233
           clear HB
           have HR233 := n0_
           have HB := n1_
           clear n0_ n1_
           have p13 : 0 ≤ (x13_1 : Int) := of_decide_eq_true (by first | (with_reducible assumption) | assumption)
           have q13 : x13_1 < (a0.size : Int) := of_decide_eq_true (by first | (with_reducible assumption) | assumption)
           have hx13 := bt_at a0 x13_1
           replace p13 := eq_true p13
           replace q13 := eq_true q13
           have p17 : 0 ≤ ((ji14) : Int) := of_decide_eq_true (by first | (with_reducible assumption) | assumption)
           have q17 : (ji14) < (t235.size : Int) := of_decide_eq_true (by first | (with_reducible assumption) | assumption)
           have hx17 := bt_at t235 (ji14)
           replace p17 := eq_true p17
           replace q17 := eq_true q17
           refine start_ (n := 13) (S := fun w' => True) (ds := []) #[false,false,false,false,false,false,false,false,false,false,false,false,false] (by kernel_rfl) rfl rfl trivial (fun hHeld => ?_); refine with_tabW wrackref1_Stream.tab7 wrackref1_Stream.bits7 (fun HT_ HW_ => ?_)
           generalize w22.drew = w23 at HR233 HB hHeld ⊢
           refine pure_ (i := 0) (N := some 29) (v := ?_) (a' := ?_) #[true,false,false,false,false,false,false,false,false,false,false,false,false] rfl rfl (any_of HT_.out (by kernel_rfl)) (fun _ _ _ h => h) (Or.inl ⟨by rfl, ?_⟩) ?_ ?_
           rotate_left
           ·
            intro w'
            go_simp
            with_reducible rfl
           rotate_left
           ·
            simp only [Act.put, List.setIfInBounds_toArray, List.set_cons_zero, List.set_cons_succ, i64_w, i32_w]
            rfl
           refine pure_ (i := 1) (N := some 30) (v := ?_) (a' := ?_) #[true,true,false,false,false,false,false,false,false,false,false,false,false] rfl rfl (any_of HT_.out (by kernel_rfl)) (fun _ _ _ h => h) (Or.inl ⟨by rfl, ?_⟩) ?_ ?_
           rotate_left
           ·
            intro w'
            go_simp
            with_reducible rfl
           rotate_left
           ·
            simp only [Act.put, List.setIfInBounds_toArray, List.set_cons_zero, List.set_cons_succ, i64_w, i32_w]
            rfl
           refine pure_ (i := 2) (N := some 31) (v := ?_) (a' := ?_) #[true,true,true,false,false,false,false,false,false,false,false,false,false] rfl rfl (any_of HT_.out (by kernel_rfl)) (fun _ _ _ h => h) (Or.inl ⟨by rfl, ?_⟩) ?_ ?_
           rotate_left
           ·
            intro w'
            go_simp
            with_reducible rfl
           rotate_left
           ·
            simp only [Act.put, List.setIfInBounds_toArray, List.set_cons_zero, List.set_cons_succ, i64_w, i32_w]
            rfl
           refine pure_ (i := 4) (N := some 33) (v := ?_) (a' := ?_) #[true,true,true,false,true,false,false,false,false,false,false,false,false] rfl rfl (any_of HT_.out (by kernel_rfl)) (fun _ _ _ h => h) (Or.inl ⟨by rfl, ?_⟩) ?_ ?_
           rotate_left
           ·
            intro w'
            go_simp
            with_reducible rfl
           rotate_left
           ·
            simp only [Act.put, List.setIfInBounds_toArray, List.set_cons_zero, List.set_cons_succ, i64_w, i32_w]
            rfl
           refine pure_ (i := 5) (N := some 34) (v := ?_) (a' := ?_) #[true,true,true,false,true,true,false,false,false,false,false,false,false] rfl rfl (any_of HT_.out (by kernel_rfl)) (fun _ _ _ h => h) (Or.inl ⟨by rfl, ?_⟩) ?_ ?_
           rotate_left
           ·
            intro w'
            go_simp
            with_reducible rfl
           rotate_left
           ·
            simp only [Act.put, List.setIfInBounds_toArray, List.set_cons_zero, List.set_cons_succ, i64_w, i32_w]
            rfl
           refine pure_ (i := 6) (N := some 35) (v := ?_) (a' := ?_) #[true,true,true,false,true,true,true,false,false,false,false,false,false] rfl rfl (any_of HT_.out (by kernel_rfl)) (fun _ _ _ h => h) (Or.inl ⟨by rfl, ?_⟩) ?_ ?_
           rotate_left
           ·
            intro w'
            go_simp
            with_reducible rfl
           rotate_left
           ·
            simp only [Act.put, List.setIfInBounds_toArray, List.set_cons_zero, List.set_cons_succ, i64_w, i32_w]
            rfl
           refine take_ (i := 3) (N := some 32) (v := ?_) (a' := ?_) #[true,true,true,true,true,true,true,false,false,false,false,false,false] rfl rfl (take_ofW HT_.out HW_.out (by kernel_rfl)) (fun _ _ _ h => h) (Or.inl ⟨by rfl, ?_⟩) hHeld ?_ ?_
           rotate_left
           ·
            intro w' _
            go_simp
            with_reducible rfl
           rotate_left
           ·
            simp only [Act.put, List.setIfInBounds_toArray, List.set_cons_zero, List.set_cons_succ, i64_w, i32_w]
            rfl
           refine take_ (i := 7) (N := some 36) (v := ?_) (a' := ?_) #[true,true,true,true,true,true,true,true,false,false,false,false,false] rfl rfl (take_ofW HT_.out HW_.out (by kernel_rfl)) (fun _ _ _ h => h) (Or.inl ⟨by rfl, ?_⟩) hHeld ?_ ?_
           rotate_left
           ·
            intro w' _
            go_simp
            with_reducible rfl
           rotate_left
           ·
            simp only [Act.put, List.setIfInBounds_toArray, List.set_cons_zero, List.set_cons_succ, i64_w, i32_w]
            rfl
           refine pure_ (i := 8) (N := some 37) (v := ?_) (a' := ?_) #[true,true,true,true,true,true,true,true,true,false,false,false,false] rfl rfl (any_of HT_.out (by kernel_rfl)) (fun _ _ _ h => h) (Or.inl ⟨by rfl, ?_⟩) ?_ ?_
           rotate_left
           ·
            intro w'
            go_simp
            with_reducible rfl
           rotate_left
           ·
            simp only [Act.put, List.setIfInBounds_toArray, List.set_cons_zero, List.set_cons_succ, i64_w, i32_w]
            rfl
           refine one_ (i := 9) (N := some 38) #[true,true,true,true,true,true,true,true,true,true,false,false,false] rfl rfl (one_of HT_.out (by kernel_rfl)) (by decide) (fun K hK => ?_)
           refine Kd.R_lit_step (Kd.int .u8) _ 5 ?hg (N := 38) ?hd (xs := ([Go.bits .xor .u8 (bt a0 x13_1) (bt t235 (ji14))] : List Int)) (inner := [.int .u8 (Go.bits .xor .u8 (bt a0 x13_1) (bt t235 (ji14)))]) (ok := fun _ => True) (okp := fun _ => True) ?hr ?hp (fun _ hk => hk) trivial (Below.refl _ _) (Nat.le_refl _) (by simp) ?_; (case hd => rfl); (case hg => rfl); (case hr => first | (go_simp; done) | (go_simp; rfl)); (case hp => exact (Reps.one (show Kd.M (Kd.int .u8) _ _ _ (Go.bits .xor .u8 (bt a0 x13_1) (bt t235 (ji14))) [.int .u8 (Go.bits .xor .u8 (bt a0 x13_1) (bt t235 (ji14)))] from rfl) (Reps.none _ _)))
           intro v237 w24 ho25 hb hg_ hnew_
           clear hg_ hnew_
           (first | rw [← Ny236.out] at ho25 | (simp only [Int.reduceToNat] at ho25; rw [← Ny236.out] at ho25))
           have n0_ := Aside0.mk (Kd.R_lower ho25 (below_size (by repeat (first | (with_reducible first | exact HB.out | apply below_alloc | apply pw_below_drewN | apply below_drew1) | exact HB.out))))
           have n1_ := Aside0.mk (Kd.C_below (by repeat (first | (with_reducible exact HR233.out) | (with_reducible refine Kd.C_alloc ?_ _) | (with_reducible refine Kd.C_drewN ?_ _) | (with_reducible refine Kd.C_drew ?_) | exact HR233.out)) hb)
           have n2_ := Aside0.mk (below_step (by repeat (first | (with_reducible first | exact HB.out | apply below_alloc | apply pw_below_drewN | apply below_drew1) | exact HB.out)) hb)
           clear HR233
           clear HB
           have HO238 := n0_
           have HR233 := n1_
           have HB := n2_
           clear n0_ n1_ n2_
           clear hb ho25
           refine hK.out _ _ trivial (fun hHeld => ?_)
           clear hK K
           refine norm_ (a' := ?_) ?_ ?_
           rotate_left
           ·
            show Act.put _ (some 38) _ = _
            simp only [Act.put, List.setIfInBounds_toArray, List.set_cons_zero, List.set_cons_succ, i64_w, i32_w]
            rfl
           refine one_ (i := 10) (N := some 39) #[true,true,true,true,true,true,true,true,true,true,true,false,false] rfl rfl (one_of HT_.out (by kernel_rfl)) (by decide) (fun K hK => ?_)
           have hcv26 := own_string (P := Tryd.prog) Tryd.underlying22 Tryd.underlying5 Tryd.underlying9 (Kd.own_of_R HO238.out)
           refine value_ (w1 := ?_) (v := ?_) (by rfl) rfl ?_ ?_
           rotate_left 2
           ·
            go_simp
            constructor
            · rfl
            · rfl
           clear hcv26
           refine hK.out _ _ trivial (fun hHeld => ?_)
           clear hK K
           refine norm_ (a' := ?_) ?_ ?_
           rotate_left
           ·
            show Act.put _ (some 39) _ = _
            simp only [Act.put, List.setIfInBounds_toArray, List.set_cons_zero, List.set_cons_succ, i64_w, i32_w]
            rfl
           refine pure_ (i := 11) (N := some 40) (v := ?_) (a' := ?_) #[true,true,true,true,true,true,true,true,true,true,true,true,false] rfl rfl (any_of HT_.out (by kernel_rfl)) (fun _ _ _ h => h) (Or.inl ⟨by rfl, ?_⟩) ?_ ?_
           rotate_left
           ·
            intro w'
            go_simp
            with_reducible rfl
           rotate_left
           ·
            simp only [Act.put, List.setIfInBounds_toArray, List.set_cons_zero, List.set_cons_succ, i64_w, i32_w]
            rfl
           refine pure_ (i := 12) (N := some 7) (v := ?_) (a' := ?_) #[true,true,true,true,true,true,true,true,true,true,true,true,true] rfl rfl (any_of HT_.out (by kernel_rfl)) (fun _ _ _ h => h) (Or.inl ⟨by rfl, ?_⟩) ?_ ?_
           rotate_left
           ·
            intro w'
            go_simp
            with_reducible rfl
           rotate_left
           ·
            simp only [Act.put, List.setIfInBounds_toArray, List.set_cons_zero, List.set_cons_succ, i64_w, i32_w]
            rfl
           refine done_ (done_of HT_.out (by kernel_rfl)) ?_
           try go_wp2
           go_roundg k1
           case measure => have := HK1.out; omega
           case rel => exact ⟨(x7_1 ++ (strOfNums y236)), (wrap64 (x13_1 + 1)), (by first | rfl | (simp; done) | (simp [*]; done)), (by first | rfl | (simp; done) | (simp [*]; done)), (by first | exact H' | (simp only [hji14]; exact H')), ⟨by have := HK1.out; omega⟩, ⟨by repeat (first | (with_reducible first | exact HB.out | apply below_alloc | apply pw_below_drewN | apply below_drew1) | exact HB.out)⟩⟩
          ·
           rw [if_neg c18] at H
           exact absurd H (by simp)
         ·
          rw [if_neg c16] at H
          exact absurd H (by simp)
        ·
         rw [if_neg c15] at H
         exact absurd H (by simp)
       ·
        rw [if_neg c12] at H
        exact absurd H (by simp)
      ·
       rw [if_neg c11] at H
       exact absurd H (by simp)
     ·
      rw [if_neg c8] at H
      exact absurd H (by simp)
    ·
     rw [if_neg c7] at H
     exact absurd H (by simp)
   ·
    rw [if_neg c4] at H
    have c4b0 : decide (x13_1 < (a0.size : Int)) = false := decide_eq_false c4
    clear c4
    obtain rfl := Option.some.inj H
    go_wp2
    go_ret
    exact ⟨by first | rfl | (simp [errW_none, errW_some] <;> rfl) | (simp [*, errW_none, errW_some] <;> rfl), by repeat (first | (with_reducible first | exact HB.out | apply below_alloc | apply pw_below_drewN | apply below_drew1) | exact HB.out)⟩
def wrackref1_Sealed.l0 : Nat → List Int → Int → Int → ByteArray → List ByteArray → Int → Int → Option (ByteArray)
 | 0, _, _, _, _, _, _, _ => none
 | k + 1, x0, x2, x7, x8, x22, x23, x24 => if x24 < x23 then (if 0 ≤ x24 then (if x24 < (x22.length : Int) then ((strconv_Itoa.f x24).bind fun t243 => (if 4 + t243.size ≤ 9223372036854775807 then ((wrackref1_keyed.f k (IntKind.u64.wrap (x2)) ((⟨#[115, 97, 108, 116]⟩ : ByteArray) ++ t243)).bind fun t244 => ((wrackref1_SlotText.f k t244 x7 (rdOf ByteArray.empty x22 x24)).bind fun t245 => (if x8.size + t245.size ≤ 9223372036854775807 then (wrackref1_Sealed.l0 k x0 x2 x7 (x8 ++ t245) x22 x23 (wrap64 (x24 + 1))) else (none)))) else (none))) else (none)) else (none)) else ((wrackref1_Filled.f x8 128).bind fun t246 => ((wrackref1_Stream.f k (strOfNums x0) x7 0).bind fun t247 => (if t246.size + t247.size ≤ 9223372036854775807 then (some (t246 ++ t247)) else (none))))
def wrackref1_Sealed.f (k : Nat) (l0 : List Int) (l1 : List ByteArray) (a2 : Int) : Option (ByteArray) := (wrackref1_keyed.f k (IntKind.u64.wrap (a2)) (⟨#[107, 101, 121]⟩ : ByteArray)).bind fun t239 => ((wrackref1_Little.f k (l0.length : Int) 4).bind fun t240 => (if 4 + t240.size ≤ 9223372036854775807 then ((wrackref1_Little.f k (l1.length : Int) 8).bind fun t241 => (if ((⟨#[108, 111, 99, 107]⟩ : ByteArray) ++ t240).size + t241.size ≤ 9223372036854775807 then (wrackref1_Sealed.l0 k l0 a2 t239 (((⟨#[108, 111, 99, 107]⟩ : ByteArray) ++ t240) ++ t241) l1 (l1.length : Int) 0) else (none))) else (none)))
theorem wrackref1_Sealed.mono_l : ∀ k, (∀ y0 y1 y2 y3 y4 y5 y6, LeO (wrackref1_Sealed.l0 k y0 y1 y2 y3 y4 y5 y6) (wrackref1_Sealed.l0 (k + 1) y0 y1 y2 y3 y4 y5 y6))
 | 0 => fun _ _ _ _ _ _ _ r h => by simp [wrackref1_Sealed.l0] at h
 | k + 1 => by
  have ih0 := wrackref1_Sealed.mono_l k
  ·
   intro y0 y1 y2 y3 y4 y5 y6
   unfold wrackref1_Sealed.l0
   repeat' first
   | (with_reducible exact ih0 _ _ _ _ _ _ _)
   | (with_reducible exact wrackref1_Little.mono _ _ _)
   | (with_reducible exact wrackref1_SlotText.mono _ _ _ _)
   | (with_reducible exact wrackref1_Stream.mono _ _ _ _)
   | (with_reducible exact wrackref1_keyed.mono _ _ _)
   | (with_reducible exact LeO.refl _)
   | (with_reducible exact LeO.none _)
   | (with_reducible refine LeO.ite ?_ ?_)
   | (with_reducible refine LeO.bind ?_ (fun _ => ?_))
   | exact ih0 _ _ _ _ _ _ _
   | exact wrackref1_Little.mono _ _ _
   | exact wrackref1_SlotText.mono _ _ _ _
   | exact wrackref1_Stream.mono _ _ _ _
   | exact wrackref1_keyed.mono _ _ _
   | exact LeO.none _
   | refine LeO.ite ?_ ?_
   | refine LeO.bind ?_ (fun _ => ?_)
theorem wrackref1_Sealed.mono : ∀ a0 a1 a2 k, LeO (wrackref1_Sealed.f k a0 a1 a2) (wrackref1_Sealed.f (k + 1) a0 a1 a2) := by
 intro a0 a1 a2 k
 have ih0 := wrackref1_Sealed.mono_l k
 unfold wrackref1_Sealed.f
 repeat' first
   | (with_reducible exact ih0 _ _ _ _ _ _ _)
   | (with_reducible exact wrackref1_Little.mono _ _ _)
   | (with_reducible exact wrackref1_SlotText.mono _ _ _ _)
   | (with_reducible exact wrackref1_Stream.mono _ _ _ _)
   | (with_reducible exact wrackref1_keyed.mono _ _ _)
   | (with_reducible exact LeO.refl _)
   | (with_reducible exact LeO.none _)
   | (with_reducible refine LeO.ite ?_ ?_)
   | (with_reducible refine LeO.bind ?_ (fun _ => ?_))
   | exact ih0 _ _ _ _ _ _ _
   | exact wrackref1_Little.mono _ _ _
   | exact wrackref1_SlotText.mono _ _ _ _
   | exact wrackref1_Stream.mono _ _ _ _
   | exact wrackref1_keyed.mono _ _ _
   | exact LeO.none _
   | refine LeO.ite ?_ ?_
   | refine LeO.bind ?_ (fun _ => ?_)
def wrackref1_Sealed.T8 : Bool × List (List Nat × List Nat) := (true,[([], []), ([0], [0]), ([], []), ([2], [2]), ([], []), ([3, 4, 1], [3, 4]), ([1, 5], [1, 5]), ([6, 5, 0, 1, 2, 3, 4, 5, 6], [6])])
def wrackref1_Sealed.B8 : List Nat := [0, 1, 0, 4, 0, 31, 63, 127]
theorem wrackref1_Sealed.tab8 : rtab .any (opsOf Tryd.f7 8) = wrackref1_Sealed.T8 := by kernel_rfl
theorem wrackref1_Sealed.bits8 : waitsOk wrackref1_Sealed.T8.2 wrackref1_Sealed.B8 = true := by kernel_rfl
set_option maxHeartbeats 8000000 in
set_option maxRecDepth 100000 in
theorem wrackref1_Sealed.calls (k : Nat) (A0 : Option Addr) (c0 : Nat) (l0 : List Int) (A1 : Option Addr) (c1 : Nat) (l1 : List ByteArray) (a2 : Int) (r : ByteArray) (w : World) (hr0 : Kd.C (Kd.int .u8) w A0 l0.length l0) (hc0 : l0.length ≤ c0) (hr1 : Kd.C Kd.string w A1 l1.length l1) (hc1 : l1.length ≤ c1) (h : wrackref1_Sealed.f k l0 l1 a2 = some r) :
  Calls Tryd.prog 7 #[.slice A0 l0.length c0, .slice A1 l1.length c1, .int .i64 a2] w fun e w' => e = .returned (.string r) ∧ Below w.heap.size w w' := by
 have HR0 := Aside0.mk hr0
 have HC0 := Aside0.mk hc0
 clear hr0 hc0
 have HR1 := Aside0.mk hr1
 have HC1 := Aside0.mk hc1
 clear hr1 hc1
 have HB := Aside0.mk (Below.refl w.heap.size w)
 have H : ((wrackref1_keyed.f k (IntKind.u64.wrap (a2)) (⟨#[107, 101, 121]⟩ : ByteArray)).bind fun t239 => ((wrackref1_Little.f k (l0.length : Int) 4).bind fun t240 => (if 4 + t240.size ≤ 9223372036854775807 then ((wrackref1_Little.f k (l1.length : Int) 8).bind fun t241 => (if ((⟨#[108, 111, 99, 107]⟩ : ByteArray) ++ t240).size + t241.size ≤ 9223372036854775807 then (wrackref1_Sealed.l0 k l0 a2 t239 (((⟨#[108, 111, 99, 107]⟩ : ByteArray) ++ t240) ++ t241) l1 (l1.length : Int) 0) else (none))) else (none)))) = some r := h
 clear h
 replace H := Option.bind_eq_some_iff.mp H
 obtain ⟨t239, A40, H⟩ := H
 replace H : ((wrackref1_Little.f k (l0.length : Int) 4).bind fun t240 => (if 4 + t240.size ≤ 9223372036854775807 then ((wrackref1_Little.f k (l1.length : Int) 8).bind fun t241 => (if ((⟨#[108, 111, 99, 107]⟩ : ByteArray) ++ t240).size + t241.size ≤ 9223372036854775807 then (wrackref1_Sealed.l0 k l0 a2 t239 (((⟨#[108, 111, 99, 107]⟩ : ByteArray) ++ t240) ++ t241) l1 (l1.length : Int) 0) else (none))) else (none))) = some r := H
 have A4 := Aside0.mk A40
 clear A40
 replace H := Option.bind_eq_some_iff.mp H
 obtain ⟨t240, A50, H⟩ := H
 replace H : (if 4 + t240.size ≤ 9223372036854775807 then ((wrackref1_Little.f k (l1.length : Int) 8).bind fun t241 => (if ((⟨#[108, 111, 99, 107]⟩ : ByteArray) ++ t240).size + t241.size ≤ 9223372036854775807 then (wrackref1_Sealed.l0 k l0 a2 t239 (((⟨#[108, 111, 99, 107]⟩ : ByteArray) ++ t240) ++ t241) l1 (l1.length : Int) 0) else (none))) else (none)) = some r := H
 have A5 := Aside0.mk A50
 clear A50
 by_cases c6 : 4 + t240.size ≤ 9223372036854775807
 ·
  rw [if_pos c6] at H
  have c6b0 := eq_true c6
  have c6b1 : decide (4 + t240.size ≤ 9223372036854775807) = true := decide_eq_true c6
  try have c6b2 : (9223372036854775807 < 4 + t240.size) = False := eq_false (Nat.not_lt.2 c6)
  replace H := Option.bind_eq_some_iff.mp H
  obtain ⟨t241, A70, H⟩ := H
  replace H : (if ((⟨#[108, 111, 99, 107]⟩ : ByteArray) ++ t240).size + t241.size ≤ 9223372036854775807 then (wrackref1_Sealed.l0 k l0 a2 t239 (((⟨#[108, 111, 99, 107]⟩ : ByteArray) ++ t240) ++ t241) l1 (l1.length : Int) 0) else (none)) = some r := H
  have A7 := Aside0.mk A70
  clear A70
  by_cases c8 : ((⟨#[108, 111, 99, 107]⟩ : ByteArray) ++ t240).size + t241.size ≤ 9223372036854775807
  ·
   rw [if_pos c8] at H
   have c8b0 := eq_true c8
   have c8b1 : decide (((⟨#[108, 111, 99, 107]⟩ : ByteArray) ++ t240).size + t241.size ≤ 9223372036854775807) = true := decide_eq_true c8
   try have c8b2 : (9223372036854775807 < ((⟨#[108, 111, 99, 107]⟩ : ByteArray) ++ t240).size + t241.size) = False := eq_false (Nat.not_lt.2 c8)
   have h4_ : 4 + t240.size + t241.size ≤ 9223372036854775807 := (by have h_ := c8; rw [ByteArray.size_append] at h_; exact h_)
   have c8b3 : (9223372036854775807 < 4 + t240.size + t241.size) = False := eq_false (Nat.not_lt.2 h4_)
   have c8b4 : (4 + t240.size + t241.size ≤ 9223372036854775807) = True := eq_true h4_
   clear h4_
   have H' := Aside0.mk H
   clear H
   go_enter Tryd.func7, Tryd.ntmps7
   go_wp2_with (first | ((with_reducible refine gate_callee (f := 15) rfl ?_); refine goesL_ (some 13) rfl rfl Tryd.func15 (by kernel_rfl) rfl #[.int .u64 (IntKind.u64.wrap (a2)), .string (⟨#[107, 101, 121]⟩ : ByteArray)] rfl (by (try simp only [List.map_toArray, List.map_cons, List.map_nil]); first | done | rfl | (simp only [List.length_drop, List.length_take]; rfl)) ?_; (with_reducible refine (wrackref1_keyed.calls k (IntKind.u64.wrap (a2)) (⟨#[107, 101, 121]⟩ : ByteArray) t239 _ A4.out).mono ?_); rintro e w9 ⟨rfl, hb⟩; refine ⟨_, rfl, ?_⟩; have n0_ := Aside0.mk (below_step (by repeat (first | (with_reducible first | exact HB.out | apply below_alloc | apply pw_below_drewN | apply below_drew1) | exact HB.out)) hb); clear HB; have HB := n0_; clear n0_; (try clear hb); (try clear hb2); (try clear hk); (try clear hi)) | ((with_reducible refine gate_callee (f := 16) rfl ?_); refine goesL_ (some 16) rfl rfl Tryd.func16 (by kernel_rfl) rfl #[.int .i64 (l0.length : Int), .int .i64 4] rfl (by (try simp only [List.map_toArray, List.map_cons, List.map_nil]); first | done | rfl | (simp only [List.length_drop, List.length_take]; rfl)) ?_; (with_reducible refine (wrackref1_Little.calls k (l0.length : Int) 4 t240 _ A5.out).mono ?_); rintro e w10 ⟨rfl, hb⟩; refine ⟨_, rfl, ?_⟩; have n0_ := Aside0.mk (below_step (by repeat (first | (with_reducible first | exact HB.out | apply below_alloc | apply pw_below_drewN | apply below_drew1) | exact HB.out)) hb); clear HB; have HB := n0_; clear n0_; (try clear hb); (try clear hb2); (try clear hk); (try clear hi)) | ((with_reducible refine gate_callee (f := 16) rfl ?_); refine goesL_ (some 20) rfl rfl Tryd.func16 (by kernel_rfl) rfl #[.int .i64 (l1.length : Int), .int .i64 8] rfl (by (try simp only [List.map_toArray, List.map_cons, List.map_nil]); first | done | rfl | (simp only [List.length_drop, List.length_take]; rfl)) ?_; (with_reducible refine (wrackref1_Little.calls k (l1.length : Int) 8 t241 _ A7.out).mono ?_); rintro e w11 ⟨rfl, hb⟩; refine ⟨_, rfl, ?_⟩; have n0_ := Aside0.mk (below_step (by repeat (first | (with_reducible first | exact HB.out | apply below_alloc | apply pw_below_drewN | apply below_drew1) | exact HB.out)) hb); clear HB; have HB := n0_; clear n0_; (try clear hb); (try clear hb2); (try clear hk); (try clear hi)))
   go_loopg [8, 24] k (fun kq v8 v24 w' => ∃ (x8_1 : ByteArray) (x24_1 : Int), v8 = .string x8_1 ∧ v24 = .int .i64 x24_1 ∧ Aside0 (wrackref1_Sealed.l0 kq l0 a2 t239 x8_1 l1 (l1.length : Int) x24_1 = some r) ∧ Aside0 (kq ≤ k) ∧ Aside0 (Below w.heap.size w w'))
   case atStart => exact ⟨(((⟨#[108, 111, 99, 107]⟩ : ByteArray) ++ t240) ++ t241), (0), (by first | rfl | (simp; done) | (simp [*]; done)), (by first | rfl | (simp; done) | (simp [*]; done)), H', ⟨Nat.le_refl _⟩, ⟨by repeat (first | (with_reducible first | exact HB.out | apply below_alloc | apply pw_below_drewN | apply below_drew1) | exact HB.out)⟩⟩
   case round =>
    clear H'
    try clear c1
    try clear p2
    try clear c6
    try clear c6b0
    try clear c6b1
    try clear c6b2
    try clear c7
    try clear c8
    try clear c8b0
    try clear c8b1
    try clear c8b2
    obtain ⟨x8_1, x24_1, rfl, rfl, HA, HK1, HB⟩ := hrel
    cases gk with
    | zero => exact absurd HA.out (by simp [wrackref1_Sealed.l0])
    | succ k1 =>
     have H := HA.out
     clear HA
     simp only [wrackref1_Sealed.l0] at H
     by_cases c12 : x24_1 < (l1.length : Int)
     ·
      rw [if_pos c12] at H
      have c12b0 : decide (x24_1 < (l1.length : Int)) = true := decide_eq_true c12
      clear c12
      by_cases c13 : 0 ≤ x24_1
      ·
       rw [if_pos c13] at H
       have c13b0 : decide (0 ≤ x24_1) = true := decide_eq_true c13
       clear c13
       by_cases c14 : x24_1 < (l1.length : Int)
       ·
        rw [if_pos c14] at H
        have c14b0 : decide (x24_1 < (l1.length : Int)) = true := decide_eq_true c14
        clear c14
        replace H := Option.bind_eq_some_iff.mp H
        obtain ⟨t243, A150, H⟩ := H
        replace H : (if 4 + t243.size ≤ 9223372036854775807 then ((wrackref1_keyed.f k1 (IntKind.u64.wrap (a2)) ((⟨#[115, 97, 108, 116]⟩ : ByteArray) ++ t243)).bind fun t244 => ((wrackref1_SlotText.f k1 t244 t239 (rdOf ByteArray.empty l1 x24_1)).bind fun t245 => (if x8_1.size + t245.size ≤ 9223372036854775807 then (wrackref1_Sealed.l0 k1 l0 a2 t239 (x8_1 ++ t245) l1 (l1.length : Int) (wrap64 (x24_1 + 1))) else (none)))) else (none)) = some r := H
        have A15 := Aside0.mk A150
        clear A150
        by_cases c16 : 4 + t243.size ≤ 9223372036854775807
        ·
         rw [if_pos c16] at H
         have c16b0 := eq_true c16
         have c16b1 : decide (4 + t243.size ≤ 9223372036854775807) = true := decide_eq_true c16
         try have c16b2 : (9223372036854775807 < 4 + t243.size) = False := eq_false (Nat.not_lt.2 c16)
         replace H := Option.bind_eq_some_iff.mp H
         obtain ⟨t244, A170, H⟩ := H
         replace H : ((wrackref1_SlotText.f k1 t244 t239 (rdOf ByteArray.empty l1 x24_1)).bind fun t245 => (if x8_1.size + t245.size ≤ 9223372036854775807 then (wrackref1_Sealed.l0 k1 l0 a2 t239 (x8_1 ++ t245) l1 (l1.length : Int) (wrap64 (x24_1 + 1))) else (none))) = some r := H
         have A17 := Aside0.mk A170
         clear A170
         replace H := Option.bind_eq_some_iff.mp H
         obtain ⟨t245, A180, H⟩ := H
         replace H : (if x8_1.size + t245.size ≤ 9223372036854775807 then (wrackref1_Sealed.l0 k1 l0 a2 t239 (x8_1 ++ t245) l1 (l1.length : Int) (wrap64 (x24_1 + 1))) else (none)) = some r := H
         have A18 := Aside0.mk A180
         clear A180
         by_cases c19 : x8_1.size + t245.size ≤ 9223372036854775807
         ·
          rw [if_pos c19] at H
          have c19b0 := eq_true c19
          have c19b1 : decide (x8_1.size + t245.size ≤ 9223372036854775807) = true := decide_eq_true c19
          try have c19b2 : (9223372036854775807 < x8_1.size + t245.size) = False := eq_false (Nat.not_lt.2 c19)
          have H' := Aside0.mk H
          clear H
          have p242 : 0 ≤ (x24_1 : Int) := of_decide_eq_true (by first | (with_reducible assumption) | assumption)
          have q242 : x24_1 < (l1.length : Int) := of_decide_eq_true (by first | (with_reducible assumption) | assumption)
          obtain ⟨ad242, e242, hx242_0⟩ := Kd.at_string HR1.out x24_1 p242 q242
          cases e242
          replace hx242_0 := (HB.out.cell (World.block_lt_of_cell? w _ hx242_0)).trans hx242_0
          replace p242 := eq_true p242
          replace q242 := eq_true q242
          go_wp2_with (first | ((with_reducible refine gate_callee (f := 18) rfl ?_); refine goesL_ (some 33) rfl rfl Tryd.func18 (by kernel_rfl) rfl #[.int .i64 x24_1] rfl (by (try simp only [List.map_toArray, List.map_cons, List.map_nil]); first | done | rfl | (simp only [List.length_drop, List.length_take]; rfl)) ?_; (with_reducible refine (strconv_Itoa.calls x24_1 t243 _ A15.out).mono ?_); rintro e w20 ⟨rfl, hb⟩; refine ⟨_, rfl, ?_⟩; have n0_ := Aside0.mk (below_step (by repeat (first | (with_reducible first | exact HB.out | apply below_alloc | apply pw_below_drewN | apply below_drew1) | exact HB.out)) hb); clear HB; have HB := n0_; clear n0_; (try clear hb); (try clear hb2); (try clear hk); (try clear hi)) | ((with_reducible refine gate_callee (f := 15) rfl ?_); refine goesL_ (some 35) rfl rfl Tryd.func15 (by kernel_rfl) rfl #[.int .u64 (IntKind.u64.wrap (a2)), .string ((⟨#[115, 97, 108, 116]⟩ : ByteArray) ++ t243)] rfl (by (try simp only [List.map_toArray, List.map_cons, List.map_nil]); first | done | rfl | (simp only [List.length_drop, List.length_take]; rfl)) ?_; (with_reducible refine (wrackref1_keyed.calls k1 (IntKind.u64.wrap (a2)) ((⟨#[115, 97, 108, 116]⟩ : ByteArray) ++ t243) t244 _ A17.out).mono ?_); rintro e w21 ⟨rfl, hb⟩; refine ⟨_, rfl, ?_⟩; have n0_ := Aside0.mk (below_step (by repeat (first | (with_reducible first | exact HB.out | apply below_alloc | apply pw_below_drewN | apply below_drew1) | exact HB.out)) hb); clear HB; have HB := n0_; clear n0_; (try clear hb); (try clear hb2); (try clear hk); (try clear hi)) | ((with_reducible refine gate_callee (f := 17) rfl ?_); refine goesL_ (some 38) rfl rfl Tryd.func17 (by kernel_rfl) rfl #[.int .u64 t244, .int .u64 t239, .string (rdOf ByteArray.empty l1 x24_1)] rfl (by (try simp only [List.map_toArray, List.map_cons, List.map_nil]); first | done | rfl | (simp only [List.length_drop, List.length_take]; rfl)) ?_; (with_reducible refine (wrackref1_SlotText.calls k1 t244 t239 (rdOf ByteArray.empty l1 x24_1) t245 _ A18.out).mono ?_); rintro e w22 ⟨rfl, hb⟩; refine ⟨_, rfl, ?_⟩; have n0_ := Aside0.mk (below_step (by repeat (first | (with_reducible first | exact HB.out | apply below_alloc | apply pw_below_drewN | apply below_drew1) | exact HB.out)) hb); clear HB; have HB := n0_; clear n0_; (try clear hb); (try clear hb2); (try clear hk); (try clear hi)))
          go_roundg k1
          case measure => have := HK1.out; omega
          case rel => exact ⟨(x8_1 ++ t245), (wrap64 (x24_1 + 1)), (by first | rfl | (simp; done) | (simp [*]; done)), (by first | rfl | (simp; done) | (simp [*]; done)), H', ⟨by have := HK1.out; omega⟩, ⟨by repeat (first | (with_reducible first | exact HB.out | apply below_alloc | apply pw_below_drewN | apply below_drew1) | exact HB.out)⟩⟩
         ·
          rw [if_neg c19] at H
          exact absurd H (by simp)
        ·
         rw [if_neg c16] at H
         exact absurd H (by simp)
       ·
        rw [if_neg c14] at H
        exact absurd H (by simp)
      ·
       rw [if_neg c13] at H
       exact absurd H (by simp)
     ·
      rw [if_neg c12] at H
      have c12b0 : decide (x24_1 < (l1.length : Int)) = false := decide_eq_false c12
      clear c12
      replace H := Option.bind_eq_some_iff.mp H
      obtain ⟨t246, A230, H⟩ := H
      replace H : ((wrackref1_Stream.f k1 (strOfNums l0) t239 0).bind fun t247 => (if t246.size + t247.size ≤ 9223372036854775807 then (some (t246 ++ t247)) else (none))) = some r := H
      have A23 := Aside0.mk A230
      clear A230
      replace H := Option.bind_eq_some_iff.mp H
      obtain ⟨t247, A240, H⟩ := H
      replace H : (if t246.size + t247.size ≤ 9223372036854775807 then (some (t246 ++ t247)) else (none)) = some r := H
      have A24 := Aside0.mk A240
      clear A240
      by_cases c25 : t246.size + t247.size ≤ 9223372036854775807
      ·
       rw [if_pos c25] at H
       have c25b0 := eq_true c25
       have c25b1 : decide (t246.size + t247.size ≤ 9223372036854775807) = true := decide_eq_true c25
       try have c25b2 : (9223372036854775807 < t246.size + t247.size) = False := eq_false (Nat.not_lt.2 c25)
       obtain rfl := Option.some.inj H
       try go_wp2
       have n0_ := Aside0.mk (below_drew1 HB.out)
       clear HB
       have HB := n0_
       clear n0_
       refine start_ (n := 8) (S := fun w' => (convert 22 9 (.slice A0 l0.length c0)).run Tryd.prog w' = .ok (.string (strOfNums l0)) w') (ds := []) #[false,false,false,false,false,false,false,false] (by kernel_rfl) rfl rfl (Kd.C_string (P := Tryd.prog) (A := A0) (c := c0) Tryd.underlying22 Tryd.underlying5 Tryd.underlying9 (Kd.C_below HR0.out HB.out)) (fun hHeld => ?_); refine with_tabW wrackref1_Sealed.tab8 wrackref1_Sealed.bits8 (fun HT_ HW_ => ?_)
       generalize wr.drew = w26 at HB hHeld ⊢
       refine pure_ (i := 0) (N := some 41) (v := ?_) (a' := ?_) #[true,false,false,false,false,false,false,false] rfl rfl (any_of HT_.out (by kernel_rfl)) (fun _ _ _ h => h) (Or.inl ⟨by rfl, ?_⟩) ?_ ?_
       rotate_left
       ·
        intro w'
        go_simp
        with_reducible rfl
       rotate_left
       ·
        simp only [Act.put, List.setIfInBounds_toArray, List.set_cons_zero, List.set_cons_succ, i64_w, i32_w]
        rfl
       refine pure_ (i := 2) (N := some 43) (v := ?_) (a' := ?_) #[true,false,true,false,false,false,false,false] rfl rfl (any_of HT_.out (by kernel_rfl)) (fun _ _ _ h => h) (Or.inl ⟨by rfl, ?_⟩) ?_ ?_
       rotate_left
       ·
        intro w'
        go_simp
        with_reducible rfl
       rotate_left
       ·
        simp only [Act.put, List.setIfInBounds_toArray, List.set_cons_zero, List.set_cons_succ, i64_w, i32_w]
        rfl
       refine take_ (i := 3) (N := some 44) (v := ?_) (a' := ?_) #[true,false,true,true,false,false,false,false] rfl rfl (by kernel_rfl) (fun _ _ _ h => h) (Or.inl ⟨by rfl, ?_⟩) hHeld ?_ ?_
       rotate_left
       ·
        intro w' s0
        go_simp
        with_reducible rfl
       rotate_left
       ·
        simp only [Act.put, List.setIfInBounds_toArray, List.set_cons_zero, List.set_cons_succ, i64_w, i32_w]
        rfl
       refine pure_ (i := 4) (N := some 45) (v := ?_) (a' := ?_) #[true,false,true,true,true,false,false,false] rfl rfl (any_of HT_.out (by kernel_rfl)) (fun _ _ _ h => h) (Or.inl ⟨by rfl, ?_⟩) ?_ ?_
       rotate_left
       ·
        intro w'
        go_simp
        with_reducible rfl
       rotate_left
       ·
        simp only [Act.put, List.setIfInBounds_toArray, List.set_cons_zero, List.set_cons_succ, i64_w, i32_w]
        rfl
       refine one_ (i := 1) (N := some 42) #[true,true,true,true,true,false,false,false] rfl rfl (one_of HT_.out (by kernel_rfl)) (by decide) (fun K hK => ?_)
       refine goes_ Tryd.func19 (by kernel_rfl) rfl #[.string x8_1, .int .i64 128] (by rfl) rfl rfl (by (try simp only [List.map_toArray, List.map_cons, List.map_nil]); first | done | rfl | (simp only [List.length_drop, List.length_take]; rfl)) ?_
       with_reducible refine (wrackref1_Filled.calls x8_1 128 t246 _ A23.out).mono ?_
       rintro e w27 ⟨rfl, hb⟩
       refine ⟨_, rfl, ?_⟩
       have n0_ := Aside0.mk (below_step (by repeat (first | (with_reducible first | exact HB.out | apply below_alloc | apply pw_below_drewN | apply below_drew1) | exact HB.out)) hb)
       clear HB
       have HB := n0_
       clear n0_
       (try clear hb)
       (try clear hb2)
       (try clear hk)
       (try clear hi)
       have hcv28 := Kd.C_string (P := Tryd.prog) (A := A0) (c := c0) Tryd.underlying22 Tryd.underlying5 Tryd.underlying9 (Kd.C_below HR0.out HB.out)
       refine hK.out _ _ (Kd.C_string (P := Tryd.prog) (A := A0) (c := c0) Tryd.underlying22 Tryd.underlying5 Tryd.underlying9 (Kd.C_below HR0.out HB.out)) (fun hHeld => ?_)
       clear hK K
       refine norm_ (a' := ?_) ?_ ?_
       rotate_left
       ·
        show Act.put _ (some 42) _ = _
        simp only [Act.put, List.setIfInBounds_toArray, List.set_cons_zero, List.set_cons_succ, i64_w, i32_w]
        rfl
       refine one_ (i := 5) (N := some 46) #[true,true,true,true,true,true,false,false] rfl rfl (one_of HT_.out (by kernel_rfl)) (by decide) (fun K hK => ?_)
       refine goes_ Tryd.func20 (by kernel_rfl) rfl #[.string (strOfNums l0), .int .u64 t239, .int .i64 0] (by rfl) rfl rfl (by (try simp only [List.map_toArray, List.map_cons, List.map_nil]); first | done | rfl | (simp only [List.length_drop, List.length_take]; rfl)) ?_
       with_reducible refine (wrackref1_Stream.calls k1 (strOfNums l0) t239 0 t247 _ A24.out).mono ?_
       rintro e w30 ⟨rfl, hb⟩
       refine ⟨_, rfl, ?_⟩
       have n0_ := Aside0.mk (below_step (by repeat (first | (with_reducible first | exact HB.out | apply below_alloc | apply pw_below_drewN | apply below_drew1) | exact HB.out)) hb)
       clear HB
       have HB := n0_
       clear n0_
       (try clear hb)
       (try clear hb2)
       (try clear hk)
       (try clear hi)
       refine hK.out _ _ (Kd.C_string (P := Tryd.prog) (A := A0) (c := c0) Tryd.underlying22 Tryd.underlying5 Tryd.underlying9 (Kd.C_below HR0.out HB.out)) (fun hHeld => ?_)
       clear hK K
       refine norm_ (a' := ?_) ?_ ?_
       rotate_left
       ·
        show Act.put _ (some 46) _ = _
        simp only [Act.put, List.setIfInBounds_toArray, List.set_cons_zero, List.set_cons_succ, i64_w, i32_w]
        rfl
       refine pure_ (i := 6) (N := some 47) (v := ?_) (a' := ?_) #[true,true,true,true,true,true,true,false] rfl rfl (any_of HT_.out (by kernel_rfl)) (fun _ _ _ h => h) (Or.inl ⟨by rfl, ?_⟩) ?_ ?_
       rotate_left
       ·
        intro w'
        go_simp
        with_reducible rfl
       rotate_left
       ·
        simp only [Act.put, List.setIfInBounds_toArray, List.set_cons_zero, List.set_cons_succ, i64_w, i32_w]
        rfl
       refine pure_ (i := 7) (N := some 6) (v := ?_) (a' := ?_) #[true,true,true,true,true,true,true,true] rfl rfl (any_of HT_.out (by kernel_rfl)) (fun _ _ _ h => h) (Or.inl ⟨by rfl, ?_⟩) ?_ ?_
       rotate_left
       ·
        intro w'
        go_simp
        with_reducible rfl
       rotate_left
       ·
        simp only [Act.put, List.setIfInBounds_toArray, List.set_cons_zero, List.set_cons_succ, i64_w, i32_w]
        rfl
       refine done_ (done_of HT_.out (by kernel_rfl)) ?_
       try go_wp2
       go_ret
       exact ⟨by first | rfl | (simp [errW_none, errW_some] <;> rfl) | (simp [*, errW_none, errW_some] <;> rfl), by repeat (first | (with_reducible first | exact HB.out | apply below_alloc | apply pw_below_drewN | apply below_drew1) | exact HB.out)⟩
      ·
       rw [if_neg c25] at H
       exact absurd H (by simp)
  ·
   rw [if_neg c8] at H
   exact absurd H (by simp)
 ·
  rw [if_neg c6] at H
  exact absurd H (by simp)
end Go.Proofs.YtagcaheopbmdiaaDoor.QLockSeals
