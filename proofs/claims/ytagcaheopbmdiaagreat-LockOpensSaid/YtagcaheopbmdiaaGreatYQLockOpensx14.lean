/- Written by a program of this session (wip/mprint): the walk of the Go code, function by function, for every input; no condition. -/
import Derived.Test.YtagcaheopbmdiaaGreatYSumTreePlain
import Derived.Test.YtagcaheopbmdiaaGreatYQLockOpensx12
namespace Go.Proofs.YtagcaheopbmdiaaGreat.QLockOpens
open Go.RowKit Go.Proofs.YtagcaheopbmdiaaGreatW.PrintWords Go.Proofs.YtagcaheopbmdiaaGreatW.PrintLast Go.Proofs.YtagcaheopbmdiaaGreatW.PrintMore
attribute [local go_sem] max2_int min2_int max_two min_two max_three min_three max_four min_four   -- for this text's walks alone
set_option linter.unusedVariables false
set_option linter.unusedSimpArgs false
def wrackref1_Stream.l0 : Nat → ByteArray → Int → Int → ByteArray → Int → Int → Option (ByteArray)
 | 0, _, _, _, _, _, _ => none
 | k + 1, x0, x1, x2, x7, x12, x13 => if x13 < x12 then ((wrackref1_Eight.f k x1).bind fun t297 => ((wrackref1_Eight.f k (IntKind.u64.wrap (wrap64 (Int.tdiv (wrap64 (x2 + x13)) 8)))).bind fun t298 => (if t297.size + t298.size ≤ 9223372036854775807 then (if (t297 ++ t298).size ≤ 140737488355328 then ((wrackref1_Mix.f k (bytesOf (t297 ++ t298))).bind fun t303 => ((wrackref1_Eight.f k t303).bind fun t304 => (if 0 ≤ x13 then (if x13 < (x0.size : Int) then (if 0 ≤ (Int.tmod (wrap64 (x2 + x13)) 8) then (if (Int.tmod (wrap64 (x2 + x13)) 8) < (t304.size : Int) then ((some (([Go.bits .xor .u8 (bt x0 x13) (bt t304 (Int.tmod (wrap64 (x2 + x13)) 8))] : List Int) : List Int)).bind fun y305 => (if x7.size + (strOfNums y305).size ≤ 9223372036854775807 then (wrackref1_Stream.l0 k x0 x1 x2 (x7 ++ (strOfNums y305)) x12 (wrap64 (x13 + 1))) else (none))) else (none)) else (none)) else (none)) else (none)))) else (none)) else (none)))) else (some x7)
def wrackref1_Stream.f (k : Nat) (a0 : ByteArray) (a1 : Int) (a2 : Int) : Option (ByteArray) := wrackref1_Stream.l0 k a0 a1 a2 (⟨#[]⟩ : ByteArray) (a0.size : Int) 0
theorem wrackref1_Stream.mono_l : ∀ k, (∀ y0 y1 y2 y3 y4 y5, LeO (wrackref1_Stream.l0 k y0 y1 y2 y3 y4 y5) (wrackref1_Stream.l0 (k + 1) y0 y1 y2 y3 y4 y5))
 | 0 => fun _ _ _ _ _ _ r h => by simp [wrackref1_Stream.l0] at h
 | k + 1 => by
  have ih0 := wrackref1_Stream.mono_l k
  ·
   intro y0 y1 y2 y3 y4 y5
   unfold wrackref1_Stream.l0
   repeat' first
   | (with_reducible exact ih0 _ _ _ _ _ _)
   | (with_reducible exact wrackref1_Eight.mono _ _)
   | (with_reducible exact wrackref1_Mix.mono _ _)
   | (with_reducible exact LeO.refl _)
   | (with_reducible exact LeO.none _)
   | (with_reducible refine LeO.ite ?_ ?_)
   | (with_reducible refine LeO.bind ?_ (fun _ => ?_))
   | exact ih0 _ _ _ _ _ _
   | exact wrackref1_Eight.mono _ _
   | exact wrackref1_Mix.mono _ _
   | exact LeO.none _
   | refine LeO.ite ?_ ?_
   | refine LeO.bind ?_ (fun _ => ?_)
theorem wrackref1_Stream.mono : ∀ a0 a1 a2 k, LeO (wrackref1_Stream.f k a0 a1 a2) (wrackref1_Stream.f (k + 1) a0 a1 a2) := by
 intro a0 a1 a2 k
 have ih0 := wrackref1_Stream.mono_l k
 unfold wrackref1_Stream.f
 repeat' first
   | (with_reducible exact ih0 _ _ _ _ _ _)
   | (with_reducible exact wrackref1_Eight.mono _ _)
   | (with_reducible exact wrackref1_Mix.mono _ _)
   | (with_reducible exact LeO.refl _)
   | (with_reducible exact LeO.none _)
   | (with_reducible refine LeO.ite ?_ ?_)
   | (with_reducible refine LeO.bind ?_ (fun _ => ?_))
   | exact ih0 _ _ _ _ _ _
   | exact wrackref1_Eight.mono _ _
   | exact wrackref1_Mix.mono _ _
   | exact LeO.none _
   | refine LeO.ite ?_ ?_
   | refine LeO.bind ?_ (fun _ => ?_)
def wrackref1_Stream.T7 : Bool × List (List Nat × List Nat) := (true,[([], []), ([], []), ([], []), ([1, 2], [1, 2]), ([], []), ([], []), ([5], [5]), ([4, 6], [4, 6]), ([3, 7], [3, 7]), ([8], [8]), ([9], [9]), ([0, 10], [0, 10]), ([11, 0, 1, 2, 3, 4, 5, 6, 7, 8, 9, 10, 11], [0, 11])])
def wrackref1_Stream.B7 : List Nat := [0, 0, 0, 6, 0, 0, 32, 112, 254, 510, 1022, 2047, 4095]
theorem wrackref1_Stream.tab7 : rtab .any (opsOf Tryz.f15 7) = wrackref1_Stream.T7 := by kernel_rfl
theorem wrackref1_Stream.bits7 : waitsOk wrackref1_Stream.T7.2 wrackref1_Stream.B7 = true := by kernel_rfl
set_option maxHeartbeats 8000000 in
set_option maxRecDepth 100000 in
theorem wrackref1_Stream.calls (k : Nat) (a0 : ByteArray) (a1 : Int) (a2 : Int) (r : ByteArray) (w : World) (h : wrackref1_Stream.f k a0 a1 a2 = some r) :
  Calls Tryz.prog 15 #[.string a0, .int .u64 a1, .int .i64 a2] w fun e w' => e = .returned (.string r) ∧ Below w.heap.size w w' := by
 have HB := Aside0.mk (Below.refl w.heap.size w)
 have H : (wrackref1_Stream.l0 k a0 a1 a2 (⟨#[]⟩ : ByteArray) (a0.size : Int) 0) = some r := h
 clear h
 have H' := Aside0.mk H
 clear H
 go_enter Tryz.func15, Tryz.ntmps15
 go_wp2
 go_loopg [7, 13] k (fun kq v7 v13 w' => ∃ (x7_1 : ByteArray) (x13_1 : Int), v7 = .string x7_1 ∧ v13 = .int .i64 x13_1 ∧ Aside0 (wrackref1_Stream.l0 kq a0 a1 a2 x7_1 (a0.size : Int) x13_1 = some r) ∧ Aside0 (kq ≤ k) ∧ Aside0 (Below w.heap.size w w'))
 case atStart => exact ⟨((⟨#[]⟩ : ByteArray)), (0), (by first | rfl | (simp; done) | (simp [*]; done)), (by first | rfl | (simp; done) | (simp [*]; done)), H', ⟨Nat.le_refl _⟩, ⟨by repeat (first | (with_reducible first | exact HB.out | apply below_alloc | apply pw_below_drewN | apply below_drew1) | exact HB.out)⟩⟩
 case round =>
  clear H'
  try clear c1
  try clear p2
  obtain ⟨x7_1, x13_1, rfl, rfl, HA, HK1, HB⟩ := hrel
  cases gk with
  | zero => exact absurd HA.out (by simp [wrackref1_Stream.l0])
  | succ k1 =>
   have H := HA.out
   clear HA
   simp only [wrackref1_Stream.l0] at H
   by_cases c4 : x13_1 < (a0.size : Int)
   ·
    rw [if_pos c4] at H
    have c4b0 : decide (x13_1 < (a0.size : Int)) = true := decide_eq_true c4
    clear c4
    replace H := Option.bind_eq_some_iff.mp H
    obtain ⟨t297, A50, H⟩ := H
    replace H : ((wrackref1_Eight.f k1 (IntKind.u64.wrap (wrap64 (Int.tdiv (wrap64 (a2 + x13_1)) 8)))).bind fun t298 => (if t297.size + t298.size ≤ 9223372036854775807 then (if (t297 ++ t298).size ≤ 140737488355328 then ((wrackref1_Mix.f k1 (bytesOf (t297 ++ t298))).bind fun t303 => ((wrackref1_Eight.f k1 t303).bind fun t304 => (if 0 ≤ x13_1 then (if x13_1 < (a0.size : Int) then (if 0 ≤ (Int.tmod (wrap64 (a2 + x13_1)) 8) then (if (Int.tmod (wrap64 (a2 + x13_1)) 8) < (t304.size : Int) then ((some (([Go.bits .xor .u8 (bt a0 x13_1) (bt t304 (Int.tmod (wrap64 (a2 + x13_1)) 8))] : List Int) : List Int)).bind fun y305 => (if x7_1.size + (strOfNums y305).size ≤ 9223372036854775807 then (wrackref1_Stream.l0 k1 a0 a1 a2 (x7_1 ++ (strOfNums y305)) (a0.size : Int) (wrap64 (x13_1 + 1))) else (none))) else (none)) else (none)) else (none)) else (none)))) else (none)) else (none))) = some r := H
    have A5 := Aside0.mk A50
    clear A50
    replace H := Option.bind_eq_some_iff.mp H
    obtain ⟨t298, A60, H⟩ := H
    replace H : (if t297.size + t298.size ≤ 9223372036854775807 then (if (t297 ++ t298).size ≤ 140737488355328 then ((wrackref1_Mix.f k1 (bytesOf (t297 ++ t298))).bind fun t303 => ((wrackref1_Eight.f k1 t303).bind fun t304 => (if 0 ≤ x13_1 then (if x13_1 < (a0.size : Int) then (if 0 ≤ (Int.tmod (wrap64 (a2 + x13_1)) 8) then (if (Int.tmod (wrap64 (a2 + x13_1)) 8) < (t304.size : Int) then ((some (([Go.bits .xor .u8 (bt a0 x13_1) (bt t304 (Int.tmod (wrap64 (a2 + x13_1)) 8))] : List Int) : List Int)).bind fun y305 => (if x7_1.size + (strOfNums y305).size ≤ 9223372036854775807 then (wrackref1_Stream.l0 k1 a0 a1 a2 (x7_1 ++ (strOfNums y305)) (a0.size : Int) (wrap64 (x13_1 + 1))) else (none))) else (none)) else (none)) else (none)) else (none)))) else (none)) else (none)) = some r := H
    have A6 := Aside0.mk A60
    clear A60
    by_cases c7 : t297.size + t298.size ≤ 9223372036854775807
    ·
     rw [if_pos c7] at H
     have c7b0 := eq_true c7
     have c7b1 : decide (t297.size + t298.size ≤ 9223372036854775807) = true := decide_eq_true c7
     try have c7b2 : (9223372036854775807 < t297.size + t298.size) = False := eq_false (Nat.not_lt.2 c7)
     by_cases c8 : (t297 ++ t298).size ≤ 140737488355328
     ·
      rw [if_pos c8] at H
      have c8b0 := eq_true c8
      have c8b1 : decide ((t297 ++ t298).size ≤ 140737488355328) = true := decide_eq_true c8
      obtain ⟨y299, hy299⟩ : ∃ y_ : List Int, y_ = (bytesOf (t297 ++ t298)) := ⟨_, rfl⟩
      replace H : ((wrackref1_Mix.f k1 y299).bind fun t303 => ((wrackref1_Eight.f k1 t303).bind fun t304 => (if 0 ≤ x13_1 then (if x13_1 < (a0.size : Int) then (if 0 ≤ (Int.tmod (wrap64 (a2 + x13_1)) 8) then (if (Int.tmod (wrap64 (a2 + x13_1)) 8) < (t304.size : Int) then ((some (([Go.bits .xor .u8 (bt a0 x13_1) (bt t304 (Int.tmod (wrap64 (a2 + x13_1)) 8))] : List Int) : List Int)).bind fun y305 => (if x7_1.size + (strOfNums y305).size ≤ 9223372036854775807 then (wrackref1_Stream.l0 k1 a0 a1 a2 (x7_1 ++ (strOfNums y305)) (a0.size : Int) (wrap64 (x13_1 + 1))) else (none))) else (none)) else (none)) else (none)) else (none)))) = some r := by first | (rw [hy299]; with_reducible exact H) | (have H2_ := (Option.bind_some _ _).symm.trans H; rw [hy299]; with_reducible exact H2_) | (have H2_ := (Option.bind_some _ _).symm.trans H; with_reducible exact H2_) | with_reducible exact H | (rw [hy299]; exact H) | exact H
      have Ny299 := Aside0.mk hy299
      clear hy299
      replace H := Option.bind_eq_some_iff.mp H
      obtain ⟨t303, A90, H⟩ := H
      replace H : ((wrackref1_Eight.f k1 t303).bind fun t304 => (if 0 ≤ x13_1 then (if x13_1 < (a0.size : Int) then (if 0 ≤ (Int.tmod (wrap64 (a2 + x13_1)) 8) then (if (Int.tmod (wrap64 (a2 + x13_1)) 8) < (t304.size : Int) then ((some (([Go.bits .xor .u8 (bt a0 x13_1) (bt t304 (Int.tmod (wrap64 (a2 + x13_1)) 8))] : List Int) : List Int)).bind fun y305 => (if x7_1.size + (strOfNums y305).size ≤ 9223372036854775807 then (wrackref1_Stream.l0 k1 a0 a1 a2 (x7_1 ++ (strOfNums y305)) (a0.size : Int) (wrap64 (x13_1 + 1))) else (none))) else (none)) else (none)) else (none)) else (none))) = some r := H
      have A9 := Aside0.mk A90
      clear A90
      replace H := Option.bind_eq_some_iff.mp H
      obtain ⟨t304, A100, H⟩ := H
      replace H : (if 0 ≤ x13_1 then (if x13_1 < (a0.size : Int) then (if 0 ≤ (Int.tmod (wrap64 (a2 + x13_1)) 8) then (if (Int.tmod (wrap64 (a2 + x13_1)) 8) < (t304.size : Int) then ((some (([Go.bits .xor .u8 (bt a0 x13_1) (bt t304 (Int.tmod (wrap64 (a2 + x13_1)) 8))] : List Int) : List Int)).bind fun y305 => (if x7_1.size + (strOfNums y305).size ≤ 9223372036854775807 then (wrackref1_Stream.l0 k1 a0 a1 a2 (x7_1 ++ (strOfNums y305)) (a0.size : Int) (wrap64 (x13_1 + 1))) else (none))) else (none)) else (none)) else (none)) else (none)) = some r := H
      have A10 := Aside0.mk A100
      clear A100
      by_cases c11 : 0 ≤ x13_1
      ·
       rw [if_pos c11] at H
       have c11b0 : decide (0 ≤ x13_1) = true := decide_eq_true c11
       clear c11
       by_cases c12 : x13_1 < (a0.size : Int)
       ·
        rw [if_pos c12] at H
        have c12b0 : decide (x13_1 < (a0.size : Int)) = true := decide_eq_true c12
        clear c12
        obtain ⟨ji14, hji14⟩ : ∃ j_ : Int, (Int.tmod (wrap64 (a2 + x13_1)) 8) = j_ := ⟨_, rfl⟩
        replace H : (if 0 ≤ (ji14) then (if (ji14) < (t304.size : Int) then ((some (([Go.bits .xor .u8 (bt a0 x13_1) (bt t304 (ji14))] : List Int) : List Int)).bind fun y305 => (if x7_1.size + (strOfNums y305).size ≤ 9223372036854775807 then (wrackref1_Stream.l0 k1 a0 a1 a2 (x7_1 ++ (strOfNums y305)) (a0.size : Int) (wrap64 (x13_1 + 1))) else (none))) else (none)) else (none)) = some r := by first | (rw [hji14] at H; exact H) | (simp only [hji14] at H ⊢; exact H)
        (try rw [hji14] at A5)
        (try rw [hji14] at A6)
        (try rw [hji14] at A9)
        (try rw [hji14] at A10)
        by_cases c15 : 0 ≤ (ji14)
        ·
         rw [if_pos c15] at H
         have c15b0 : decide (0 ≤ (ji14)) = true := decide_eq_true c15
         clear c15
         by_cases c16 : (ji14) < (t304.size : Int)
         ·
          rw [if_pos c16] at H
          have c16b0 : decide ((ji14) < (t304.size : Int)) = true := decide_eq_true c16
          clear c16
          obtain ⟨y305, hy305⟩ : ∃ y_ : List Int, y_ = (([Go.bits .xor .u8 (bt a0 x13_1) (bt t304 (ji14))] : List Int)) := ⟨_, rfl⟩
          replace H : (if x7_1.size + (strOfNums y305).size ≤ 9223372036854775807 then (wrackref1_Stream.l0 k1 a0 a1 a2 (x7_1 ++ (strOfNums y305)) (a0.size : Int) (wrap64 (x13_1 + 1))) else (none)) = some r := by first | (rw [hy305]; with_reducible exact H) | (have H2_ := (Option.bind_some _ _).symm.trans H; rw [hy305]; with_reducible exact H2_) | (have H2_ := (Option.bind_some _ _).symm.trans H; with_reducible exact H2_) | with_reducible exact H | (rw [hy305]; exact H) | exact H
          have Ny305 := Aside0.mk hy305
          clear hy305
          by_cases c18 : x7_1.size + (strOfNums y305).size ≤ 9223372036854775807
          ·
           rw [if_pos c18] at H
           have c18b0 := eq_true c18
           have c18b1 : decide (x7_1.size + (strOfNums y305).size ≤ 9223372036854775807) = true := decide_eq_true c18
           try have c18b2 : (9223372036854775807 < x7_1.size + (strOfNums y305).size) = False := eq_false (Nat.not_lt.2 c18)
           have H' := Aside0.mk H
           clear H
           try go_wp2_with (first | ((with_reducible refine gate_callee (f := 31) rfl ?_); refine goesL_ (some 20) rfl rfl Tryz.func31 (by kernel_rfl) rfl #[.int .u64 a1] rfl (by (try simp only [List.map_toArray, List.map_cons, List.map_nil]); first | done | rfl | (simp only [List.length_drop, List.length_take]; rfl)) ?_; (with_reducible refine (wrackref1_Eight.calls k1 a1 t297 _ A5.out).mono ?_); rintro e w19 ⟨rfl, hb⟩; refine ⟨_, rfl, ?_⟩; have n0_ := Aside0.mk (below_step (by repeat (first | (with_reducible first | exact HB.out | apply below_alloc | apply pw_below_drewN | apply below_drew1) | exact HB.out)) hb); clear HB; have HB := n0_; clear n0_; (try clear hb); (try clear hb2); (try clear hk); (try clear hi)) | ((with_reducible refine gate_callee (f := 31) rfl ?_); refine goesL_ (some 24) rfl rfl Tryz.func31 (by kernel_rfl) rfl #[.int .u64 (IntKind.u64.wrap (wrap64 (Int.tdiv (wrap64 (a2 + x13_1)) 8)))] rfl (by (try simp only [List.map_toArray, List.map_cons, List.map_nil]); first | done | rfl | (simp only [List.length_drop, List.length_take]; rfl)) ?_; (with_reducible refine (wrackref1_Eight.calls k1 (IntKind.u64.wrap (wrap64 (Int.tdiv (wrap64 (a2 + x13_1)) 8))) t298 _ A6.out).mono ?_); rintro e w20 ⟨rfl, hb⟩; refine ⟨_, rfl, ?_⟩; have n0_ := Aside0.mk (below_step (by repeat (first | (with_reducible first | exact HB.out | apply below_alloc | apply pw_below_drewN | apply below_drew1) | exact HB.out)) hb); clear HB; have HB := n0_; clear n0_; (try clear hb); (try clear hb2); (try clear hk); (try clear hi)) | ((with_reducible refine gate_dst (N := 26) rfl ?_); refine Kd.C_bytes rfl (N := 26) rfl 9 22 _ rfl (t297 ++ t298) rfl Tryz.underlying9 Tryz.underlying22 Tryz.underlying5 (of_decide_eq_true (by first | (with_reducible assumption) | assumption)) ?_; intro A302 c302 w21 hn302 hc302 hb; rw [← Ny299.out] at hn302 hc302; rw [← Ny299.out]; have n0_ := Aside0.mk (below_step (by repeat (first | (with_reducible first | exact HB.out | apply below_alloc | apply pw_below_drewN | apply below_drew1) | exact HB.out)) hb); clear HB; have HB := n0_; clear n0_; have HR302 := Aside0.mk hn302; have HC302 := Aside0.mk hc302; clear hb hn302 hc302) | ((with_reducible refine gate_callee (f := 33) rfl ?_); refine goesL_ (some 27) rfl rfl Tryz.func33 (by kernel_rfl) rfl #[.slice A302 y299.length c302] rfl (by (try simp only [List.map_toArray, List.map_cons, List.map_nil]); first | done | rfl | (simp only [List.length_drop, List.length_take]; rfl)) ?_; (with_reducible refine (wrackref1_Mix.calls k1 _ _ y299 t303 _ ?side1 ?side2 A9.out).mono ?_); (case side1 => repeat (first | exact (by repeat (first | (with_reducible exact HR302.out) | (with_reducible refine Kd.C_alloc ?_ _) | (with_reducible refine Kd.C_drewN ?_ _) | (with_reducible refine Kd.C_drew ?_) | exact HR302.out)) | (with_reducible refine Kd.C_alloc ?_ _) | (with_reducible refine Kd.C_drewN ?_ _) | (with_reducible refine Kd.C_drew ?_))); (case side2 => exact HC302.out); rintro e w' ⟨rfl, ⟨nd, rfl⟩⟩; refine ⟨_, rfl, ?_⟩) | ((with_reducible refine gate_callee (f := 31) rfl ?_); refine goesL_ (some 28) rfl rfl Tryz.func31 (by kernel_rfl) rfl #[.int .u64 t303] rfl (by (try simp only [List.map_toArray, List.map_cons, List.map_nil]); first | done | rfl | (simp only [List.length_drop, List.length_take]; rfl)) ?_; (with_reducible refine (wrackref1_Eight.calls k1 t303 t304 _ A10.out).mono ?_); rintro e w22 ⟨rfl, hb⟩; refine ⟨_, rfl, ?_⟩; have n0_ := Aside0.mk (Kd.C_below (by repeat (first | (with_reducible exact HR302.out) | (with_reducible refine Kd.C_alloc ?_ _) | (with_reducible refine Kd.C_drewN ?_ _) | (with_reducible refine Kd.C_drew ?_) | exact HR302.out)) hb); have n1_ := Aside0.mk (below_step (by repeat (first | (with_reducible first | exact HB.out | apply below_alloc | apply pw_below_drewN | apply below_drew1) | exact HB.out)) hb); clear HR302; clear HB; have HR302 := n0_; have HB := n1_; clear n0_ n1_; (try clear hb); (try clear hb2); (try clear hk); (try clear hi)))
           have n0_ := Aside0.mk (Kd.C_drew HR302.out)
           have n1_ := Aside0.mk (below_drew1 HB.out)
           clear HR302
           clear HB
           have HR302 := n0_
           have HB := n1_
           clear n0_ n1_
           have p13 : 0 ≤ (x13_1 : Int) := of_decide_eq_true (by first | (with_reducible assumption) | assumption)
           have q13 : x13_1 < (a0.size : Int) := of_decide_eq_true (by first | (with_reducible assumption) | assumption)
           have hx13 := bt_at a0 x13_1
           replace p13 := eq_true p13
           replace q13 := eq_true q13
           have p17 : 0 ≤ ((ji14) : Int) := of_decide_eq_true (by first | (with_reducible assumption) | assumption)
           have q17 : (ji14) < (t304.size : Int) := of_decide_eq_true (by first | (with_reducible assumption) | assumption)
           have hx17 := bt_at t304 (ji14)
           replace p17 := eq_true p17
           replace q17 := eq_true q17
           refine start_ (n := 13) (S := fun w' => True) (ds := []) #[false,false,false,false,false,false,false,false,false,false,false,false,false] (by kernel_rfl) rfl rfl trivial (fun hHeld => ?_); refine with_tabW wrackref1_Stream.tab7 wrackref1_Stream.bits7 (fun HT_ HW_ => ?_)
           generalize w22.drew = w23 at HR302 HB hHeld ⊢
           refine pure_ (i := 0) (N := some 29) (v := ?_) (a' := ?_) #[true,false,false,false,false,false,false,false,false,false,false,false,false] rfl rfl (any_of HT_.out (by kernel_rfl)) (fun _ _ _ h => h) (Or.inl ⟨by rfl, ?_⟩) ?_ ?_
           rotate_left
           ·
            intro w'
            go_simp
            with_reducible rfl
           rotate_left
           ·
            simp only [Act.put, List.setIfInBounds_toArray, List.set_cons_zero, List.set_cons_succ, i64_w, i32_w]
            rfl
           refine pure_ (i := 1) (N := some 30) (v := ?_) (a' := ?_) #[true,true,false,false,false,false,false,false,false,false,false,false,false] rfl rfl (any_of HT_.out (by kernel_rfl)) (fun _ _ _ h => h) (Or.inl ⟨by rfl, ?_⟩) ?_ ?_
           rotate_left
           ·
            intro w'
            go_simp
            with_reducible rfl
           rotate_left
           ·
            simp only [Act.put, List.setIfInBounds_toArray, List.set_cons_zero, List.set_cons_succ, i64_w, i32_w]
            rfl
           refine pure_ (i := 2) (N := some 31) (v := ?_) (a' := ?_) #[true,true,true,false,false,false,false,false,false,false,false,false,false] rfl rfl (any_of HT_.out (by kernel_rfl)) (fun _ _ _ h => h) (Or.inl ⟨by rfl, ?_⟩) ?_ ?_
           rotate_left
           ·
            intro w'
            go_simp
            with_reducible rfl
           rotate_left
           ·
            simp only [Act.put, List.setIfInBounds_toArray, List.set_cons_zero, List.set_cons_succ, i64_w, i32_w]
            rfl
           refine pure_ (i := 4) (N := some 33) (v := ?_) (a' := ?_) #[true,true,true,false,true,false,false,false,false,false,false,false,false] rfl rfl (any_of HT_.out (by kernel_rfl)) (fun _ _ _ h => h) (Or.inl ⟨by rfl, ?_⟩) ?_ ?_
           rotate_left
           ·
            intro w'
            go_simp
            with_reducible rfl
           rotate_left
           ·
            simp only [Act.put, List.setIfInBounds_toArray, List.set_cons_zero, List.set_cons_succ, i64_w, i32_w]
            rfl
           refine pure_ (i := 5) (N := some 34) (v := ?_) (a' := ?_) #[true,true,true,false,true,true,false,false,false,false,false,false,false] rfl rfl (any_of HT_.out (by kernel_rfl)) (fun _ _ _ h => h) (Or.inl ⟨by rfl, ?_⟩) ?_ ?_
           rotate_left
           ·
            intro w'
            go_simp
            with_reducible rfl
           rotate_left
           ·
            simp only [Act.put, List.setIfInBounds_toArray, List.set_cons_zero, List.set_cons_succ, i64_w, i32_w]
            rfl
           refine pure_ (i := 6) (N := some 35) (v := ?_) (a' := ?_) #[true,true,true,false,true,true,true,false,false,false,false,false,false] rfl rfl (any_of HT_.out (by kernel_rfl)) (fun _ _ _ h => h) (Or.inl ⟨by rfl, ?_⟩) ?_ ?_
           rotate_left
           ·
            intro w'
            go_simp
            with_reducible rfl
           rotate_left
           ·
            simp only [Act.put, List.setIfInBounds_toArray, List.set_cons_zero, List.set_cons_succ, i64_w, i32_w]
            rfl
           refine take_ (i := 3) (N := some 32) (v := ?_) (a' := ?_) #[true,true,true,true,true,true,true,false,false,false,false,false,false] rfl rfl (take_ofW HT_.out HW_.out (by kernel_rfl)) (fun _ _ _ h => h) (Or.inl ⟨by rfl, ?_⟩) hHeld ?_ ?_
           rotate_left
           ·
            intro w' _
            go_simp
            with_reducible rfl
           rotate_left
           ·
            simp only [Act.put, List.setIfInBounds_toArray, List.set_cons_zero, List.set_cons_succ, i64_w, i32_w]
            rfl
           refine take_ (i := 7) (N := some 36) (v := ?_) (a' := ?_) #[true,true,true,true,true,true,true,true,false,false,false,false,false] rfl rfl (take_ofW HT_.out HW_.out (by kernel_rfl)) (fun _ _ _ h => h) (Or.inl ⟨by rfl, ?_⟩) hHeld ?_ ?_
           rotate_left
           ·
            intro w' _
            go_simp
            with_reducible rfl
           rotate_left
           ·
            simp only [Act.put, List.setIfInBounds_toArray, List.set_cons_zero, List.set_cons_succ, i64_w, i32_w]
            rfl
           refine pure_ (i := 8) (N := some 37) (v := ?_) (a' := ?_) #[true,true,true,true,true,true,true,true,true,false,false,false,false] rfl rfl (any_of HT_.out (by kernel_rfl)) (fun _ _ _ h => h) (Or.inl ⟨by rfl, ?_⟩) ?_ ?_
           rotate_left
           ·
            intro w'
            go_simp
            with_reducible rfl
           rotate_left
           ·
            simp only [Act.put, List.setIfInBounds_toArray, List.set_cons_zero, List.set_cons_succ, i64_w, i32_w]
            rfl
           refine one_ (i := 9) (N := some 38) #[true,true,true,true,true,true,true,true,true,true,false,false,false] rfl rfl (one_of HT_.out (by kernel_rfl)) (by decide) (fun K hK => ?_)
           refine Kd.R_lit_step (Kd.int .u8) _ 5 ?hg (N := 38) ?hd (xs := ([Go.bits .xor .u8 (bt a0 x13_1) (bt t304 (ji14))] : List Int)) (inner := [.int .u8 (Go.bits .xor .u8 (bt a0 x13_1) (bt t304 (ji14)))]) (ok := fun _ => True) (okp := fun _ => True) ?hr ?hp (fun _ hk => hk) trivial (Below.refl _ _) (Nat.le_refl _) (by simp) ?_; (case hd => rfl); (case hg => rfl); (case hr => first | (go_simp; done) | (go_simp; rfl)); (case hp => exact (Reps.one (show Kd.M (Kd.int .u8) _ _ _ (Go.bits .xor .u8 (bt a0 x13_1) (bt t304 (ji14))) [.int .u8 (Go.bits .xor .u8 (bt a0 x13_1) (bt t304 (ji14)))] from rfl) (Reps.none _ _)))
           intro v306 w24 ho25 hb hg_ hnew_
           clear hg_ hnew_
           (first | rw [← Ny305.out] at ho25 | (simp only [Int.reduceToNat] at ho25; rw [← Ny305.out] at ho25))
           have n0_ := Aside0.mk (Kd.R_lower ho25 (below_size (by repeat (first | (with_reducible first | exact HB.out | apply below_alloc | apply pw_below_drewN | apply below_drew1) | exact HB.out))))
           have n1_ := Aside0.mk (Kd.C_below (by repeat (first | (with_reducible exact HR302.out) | (with_reducible refine Kd.C_alloc ?_ _) | (with_reducible refine Kd.C_drewN ?_ _) | (with_reducible refine Kd.C_drew ?_) | exact HR302.out)) hb)
           have n2_ := Aside0.mk (below_step (by repeat (first | (with_reducible first | exact HB.out | apply below_alloc | apply pw_below_drewN | apply below_drew1) | exact HB.out)) hb)
           clear HR302
           clear HB
           have HO307 := n0_
           have HR302 := n1_
           have HB := n2_
           clear n0_ n1_ n2_
           clear hb ho25
           refine hK.out _ _ trivial (fun hHeld => ?_)
           clear hK K
           refine norm_ (a' := ?_) ?_ ?_
           rotate_left
           ·
            show Act.put _ (some 38) _ = _
            simp only [Act.put, List.setIfInBounds_toArray, List.set_cons_zero, List.set_cons_succ, i64_w, i32_w]
            rfl
           refine one_ (i := 10) (N := some 39) #[true,true,true,true,true,true,true,true,true,true,true,false,false] rfl rfl (one_of HT_.out (by kernel_rfl)) (by decide) (fun K hK => ?_)
           have hcv26 := own_string (P := Tryz.prog) Tryz.underlying22 Tryz.underlying5 Tryz.underlying9 (Kd.own_of_R HO307.out)
           refine value_ (w1 := ?_) (v := ?_) (by rfl) rfl ?_ ?_
           rotate_left 2
           ·
            go_simp
            constructor
            · rfl
            · rfl
           clear hcv26
           refine hK.out _ _ trivial (fun hHeld => ?_)
           clear hK K
           refine norm_ (a' := ?_) ?_ ?_
           rotate_left
           ·
            show Act.put _ (some 39) _ = _
            simp only [Act.put, List.setIfInBounds_toArray, List.set_cons_zero, List.set_cons_succ, i64_w, i32_w]
            rfl
           refine pure_ (i := 11) (N := some 40) (v := ?_) (a' := ?_) #[true,true,true,true,true,true,true,true,true,true,true,true,false] rfl rfl (any_of HT_.out (by kernel_rfl)) (fun _ _ _ h => h) (Or.inl ⟨by rfl, ?_⟩) ?_ ?_
           rotate_left
           ·
            intro w'
            go_simp
            with_reducible rfl
           rotate_left
           ·
            simp only [Act.put, List.setIfInBounds_toArray, List.set_cons_zero, List.set_cons_succ, i64_w, i32_w]
            rfl
           refine pure_ (i := 12) (N := some 7) (v := ?_) (a' := ?_) #[true,true,true,true,true,true,true,true,true,true,true,true,true] rfl rfl (any_of HT_.out (by kernel_rfl)) (fun _ _ _ h => h) (Or.inl ⟨by rfl, ?_⟩) ?_ ?_
           rotate_left
           ·
            intro w'
            go_simp
            with_reducible rfl
           rotate_left
           ·
            simp only [Act.put, List.setIfInBounds_toArray, List.set_cons_zero, List.set_cons_succ, i64_w, i32_w]
            rfl
           refine done_ (done_of HT_.out (by kernel_rfl)) ?_
           try go_wp2
           go_roundg k1
           case measure => have := HK1.out; omega
           case rel => exact ⟨(x7_1 ++ (strOfNums y305)), (wrap64 (x13_1 + 1)), (by first | rfl | (simp; done) | (simp [*]; done)), (by first | rfl | (simp; done) | (simp [*]; done)), (by first | exact H' | (simp only [hji14]; exact H')), ⟨by have := HK1.out; omega⟩, ⟨by repeat (first | (with_reducible first | exact HB.out | apply below_alloc | apply pw_below_drewN | apply below_drew1) | exact HB.out)⟩⟩
          ·
           rw [if_neg c18] at H
           exact absurd H (by simp)
         ·
          rw [if_neg c16] at H
          exact absurd H (by simp)
        ·
         rw [if_neg c15] at H
         exact absurd H (by simp)
       ·
        rw [if_neg c12] at H
        exact absurd H (by simp)
      ·
       rw [if_neg c11] at H
       exact absurd H (by simp)
     ·
      rw [if_neg c8] at H
      exact absurd H (by simp)
    ·
     rw [if_neg c7] at H
     exact absurd H (by simp)
   ·
    rw [if_neg c4] at H
    have c4b0 : decide (x13_1 < (a0.size : Int)) = false := decide_eq_false c4
    clear c4
    obtain rfl := Option.some.inj H
    go_wp2
    go_ret
    exact ⟨by first | rfl | (simp [errW_none, errW_some] <;> rfl) | (simp [*, errW_none, errW_some] <;> rfl), by repeat (first | (with_reducible first | exact HB.out | apply below_alloc | apply pw_below_drewN | apply below_drew1) | exact HB.out)⟩
end Go.Proofs.YtagcaheopbmdiaaGreat.QLockOpens
