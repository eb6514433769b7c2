/- Written by a program of this session (wip/mprint): the walk of the Go code, function by function, for every input; no condition. -/
import Derived.Test.YtgkjkhhppmnajaaZQPackOpensx0
import Derived.Test.YtgkjkhhppmnajaaZQPackOpensx9
namespace Go.Proofs.Ytgkjkhhppmnajaa.QPackOpens
open Go.RowKit Go.Proofs.YtgkjkhhppmnajaaW.PrintWords Go.Proofs.YtgkjkhhppmnajaaW.PrintLast Go.Proofs.YtgkjkhhppmnajaaW.PrintMore
attribute [local go_sem] max2_int min2_int max_two min_two max_three min_three max_four min_four   -- for this text's walks alone
set_option linter.unusedVariables false
set_option linter.unusedSimpArgs false
mutual
def wrackref1_Tokens.j0 : Nat → ByteArray → Int → Bool → Option (ByteArray × Int)
 | 0, _, _, _ => none
 | k + 1, x0, x1, x17 => if x17 = true then (some ((⟨#[]⟩ : ByteArray), 4)) else (wrackref1_Tokens.l0 k x0 x1 (⟨#[]⟩ : ByteArray))
def wrackref1_Tokens.l0 : Nat → ByteArray → Int → ByteArray → Option (ByteArray × Int)
 | 0, _, _, _ => none
 | k + 1, x0, x1, x6 => if x0.toList = ([] : List UInt8) then (if (x6.size : Int) < x1 then (some ((⟨#[]⟩ : ByteArray), 15)) else (some (x6, 0))) else (if 0 < (x0.size : Int) then (if (wrap64 (bt x0 0)) < 128 then (wrackref1_Tokens.j2 k x0 x1 x6 (wrap64 (bt x0 0)) (wrap64 ((wrap64 (bt x0 0)) + 1))) else (wrackref1_Tokens.j2 k x0 x1 x6 (wrap64 (bt x0 0)) 1)) else (none))
def wrackref1_Tokens.j2 : Nat → ByteArray → Int → ByteArray → Int → Int → Option (ByteArray × Int)
 | 0, _, _, _, _, _ => none
 | k + 1, x0, x1, x6, x7, x8 => if (wrap64 ((x0.size : Int) - 1)) < x8 then (some ((⟨#[]⟩ : ByteArray), 15)) else (if 1 ≤ (wrap64 (1 + x8)) then (if (wrap64 (1 + x8)) ≤ (x0.size : Int) then (if 0 ≤ (wrap64 (1 + x8)) then (if x7 < 128 then (if x6.size + (x0.extract 1 ((wrap64 (1 + x8)) : Int).toNat).size ≤ 9223372036854775807 then (if ((x6 ++ (x0.extract 1 ((wrap64 (1 + x8)) : Int).toNat)).size : Int) > x1 then (some ((⟨#[]⟩ : ByteArray), 2)) else (wrackref1_Tokens.l0 k (x0.extract ((wrap64 (1 + x8)) : Int).toNat x0.size) x1 (x6 ++ (x0.extract 1 ((wrap64 (1 + x8)) : Int).toNat)))) else (none)) else (if x7 < 192 then ((strings_Repeat.f (x0.extract 1 ((wrap64 (1 + x8)) : Int).toNat) (wrap64 (x7 - 125))).bind fun t250 => (if x6.size + t250.size ≤ 9223372036854775807 then (if ((x6 ++ t250).size : Int) > x1 then (some ((⟨#[]⟩ : ByteArray), 2)) else (wrackref1_Tokens.l0 k (x0.extract ((wrap64 (1 + x8)) : Int).toNat x0.size) x1 (x6 ++ t250))) else (none))) else (if 0 < ((x0.extract 1 ((wrap64 (1 + x8)) : Int).toNat).size : Int) then (if (x6.size : Int) < (wrap64 ((wrap64 (bt (x0.extract 1 ((wrap64 (1 + x8)) : Int).toNat) 0)) + 1)) then (some ((⟨#[]⟩ : ByteArray), 8)) else (if 0 ≤ (wrap64 ((x6.size : Int) - (wrap64 ((wrap64 (bt (x0.extract 1 ((wrap64 (1 + x8)) : Int).toNat) 0)) + 1)))) then (if (wrap64 ((x6.size : Int) - (wrap64 ((wrap64 (bt (x0.extract 1 ((wrap64 (1 + x8)) : Int).toNat) 0)) + 1)))) ≤ (x6.size : Int) then (if (wrap64 ((wrap64 (bt (x0.extract 1 ((wrap64 (1 + x8)) : Int).toNat) 0)) + 1)) = 0 then (none) else ((strings_Repeat.f (x6.extract ((wrap64 ((x6.size : Int) - (wrap64 ((wrap64 (bt (x0.extract 1 ((wrap64 (1 + x8)) : Int).toNat) 0)) + 1)))) : Int).toNat x6.size) (wrap64 ((wrap64 (Int.tdiv (wrap64 (x7 - 189)) (wrap64 ((wrap64 (bt (x0.extract 1 ((wrap64 (1 + x8)) : Int).toNat) 0)) + 1)))) + 1))).bind fun t251 => (if 0 ≤ (wrap64 (x7 - 189)) then (if (wrap64 (x7 - 189)) ≤ (t251.size : Int) then (if x6.size + (t251.extract 0 ((wrap64 (x7 - 189)) : Int).toNat).size ≤ 9223372036854775807 then (if ((x6 ++ (t251.extract 0 ((wrap64 (x7 - 189)) : Int).toNat)).size : Int) > x1 then (some ((⟨#[]⟩ : ByteArray), 2)) else (wrackref1_Tokens.l0 k (x0.extract ((wrap64 (1 + x8)) : Int).toNat x0.size) x1 (x6 ++ (t251.extract 0 ((wrap64 (x7 - 189)) : Int).toNat)))) else (none)) else (none)) else (none)))) else (none)) else (none))) else (none)))) else (none)) else (none)) else (none))
end
def wrackref1_Tokens.f (k : Nat) (a0 : ByteArray) (a1 : Int) : Option (ByteArray × Int) := if a1 < 0 then (wrackref1_Tokens.j0 k a0 a1 true) else (wrackref1_Tokens.j0 k a0 a1 (decide (a1 > 256)))
theorem wrackref1_Tokens.mono_l : ∀ k, (∀ y0 y1 y2, LeO (wrackref1_Tokens.j0 k y0 y1 y2) (wrackref1_Tokens.j0 (k + 1) y0 y1 y2)) ∧ (∀ y0 y1 y2, LeO (wrackref1_Tokens.l0 k y0 y1 y2) (wrackref1_Tokens.l0 (k + 1) y0 y1 y2)) ∧ (∀ y0 y1 y2 y3 y4, LeO (wrackref1_Tokens.j2 k y0 y1 y2 y3 y4) (wrackref1_Tokens.j2 (k + 1) y0 y1 y2 y3 y4))
 | 0 => ⟨fun _ _ _ r h => by simp [wrackref1_Tokens.j0] at h, fun _ _ _ r h => by simp [wrackref1_Tokens.l0] at h, fun _ _ _ _ _ r h => by simp [wrackref1_Tokens.j2] at h⟩
 | k + 1 => by
  obtain ⟨ih0, ih1, ih2⟩ := wrackref1_Tokens.mono_l k
  refine ⟨?_, ?_, ?_⟩
  ·
   intro y0 y1 y2
   unfold wrackref1_Tokens.j0
   repeat' first
   | (with_reducible exact ih0 _ _ _)
   | (with_reducible exact ih1 _ _ _)
   | (with_reducible exact ih2 _ _ _ _ _)
   | (with_reducible exact LeO.refl _)
   | (with_reducible exact LeO.none _)
   | (with_reducible refine LeO.ite ?_ ?_)
   | (with_reducible refine LeO.bind ?_ (fun _ => ?_))
   | exact ih0 _ _ _
   | exact ih1 _ _ _
   | exact ih2 _ _ _ _ _
   | exact LeO.none _
   | refine LeO.ite ?_ ?_
   | refine LeO.bind ?_ (fun _ => ?_)
  ·
   intro y0 y1 y2
   unfold wrackref1_Tokens.l0
   repeat' first
   | (with_reducible exact ih0 _ _ _)
   | (with_reducible exact ih1 _ _ _)
   | (with_reducible exact ih2 _ _ _ _ _)
   | (with_reducible exact LeO.refl _)
   | (with_reducible exact LeO.none _)
   | (with_reducible refine LeO.ite ?_ ?_)
   | (with_reducible refine LeO.bind ?_ (fun _ => ?_))
   | exact ih0 _ _ _
   | exact ih1 _ _ _
   | exact ih2 _ _ _ _ _
   | exact LeO.none _
   | refine LeO.ite ?_ ?_
   | refine LeO.bind ?_ (fun _ => ?_)
  ·
   intro y0 y1 y2 y3 y4
   unfold wrackref1_Tokens.j2
   repeat' first
   | (with_reducible exact ih0 _ _ _)
   | (with_reducible exact ih1 _ _ _)
   | (with_reducible exact ih2 _ _ _ _ _)
   | (with_reducible exact LeO.refl _)
   | (with_reducible exact LeO.none _)
   | (with_reducible refine LeO.ite ?_ ?_)
   | (with_reducible refine LeO.bind ?_ (fun _ => ?_))
   | exact ih0 _ _ _
   | exact ih1 _ _ _
   | exact ih2 _ _ _ _ _
   | exact LeO.none _
   | refine LeO.ite ?_ ?_
   | refine LeO.bind ?_ (fun _ => ?_)
theorem wrackref1_Tokens.mono : ∀ a0 a1 k, LeO (wrackref1_Tokens.f k a0 a1) (wrackref1_Tokens.f (k + 1) a0 a1) := by
 intro a0 a1 k
 obtain ⟨ih0, ih1, ih2⟩ := wrackref1_Tokens.mono_l k
 unfold wrackref1_Tokens.f
 repeat' first
   | (with_reducible exact ih0 _ _ _)
   | (with_reducible exact ih1 _ _ _)
   | (with_reducible exact ih2 _ _ _ _ _)
   | (with_reducible exact LeO.refl _)
   | (with_reducible exact LeO.none _)
   | (with_reducible refine LeO.ite ?_ ?_)
   | (with_reducible refine LeO.bind ?_ (fun _ => ?_))
   | exact ih0 _ _ _
   | exact ih1 _ _ _
   | exact ih2 _ _ _ _ _
   | exact LeO.none _
   | refine LeO.ite ?_ ?_
   | refine LeO.bind ?_ (fun _ => ?_)
set_option maxHeartbeats 8000000 in
set_option maxRecDepth 100000 in
theorem wrackref1_Tokens.calls (k : Nat) (a0 : ByteArray) (a1 : Int) (r1 : ByteArray) (r2 : Int) (w : World) (h : wrackref1_Tokens.f k a0 a1 = some (r1, r2)) :
  Calls Try.prog 47 #[.string a0, .int .i64 a1] w fun e w' => e = .returned (.tuple #[.string r1, .int .i64 r2]) ∧ Below w.heap.size w w' := by
 have HB := Aside0.mk (Below.refl w.heap.size w)
 have H : (if a1 < 0 then (wrackref1_Tokens.j0 k a0 a1 true) else (wrackref1_Tokens.j0 k a0 a1 (decide (a1 > 256)))) = some (r1, r2) := h
 clear h
 have HC3 := Aside0.mk H
 clear H
 go_enter Try.func47, Try.ntmps47
 go_upto_region 1 with (fail)
 go_cut [17] (fun v17 wc => ∃ (kq : Nat) (x17_2 : Bool), v17 = .bool x17_2 ∧ Aside0 (wrackref1_Tokens.j0 kq a0 a1 x17_2 = some (r1, r2)) ∧ Aside0 (kq ≤ k) ∧ Aside0 (Below w.heap.size w wc))
 case first =>
  have H := HC3.out
  clear HC3
  by_cases c4 : a1 < 0
  ·
   rw [if_pos c4] at H
   have c4b0 : decide (a1 < 0) = true := decide_eq_true c4
   clear c4
   (first | rw [c4b0] | (simp only [i64_w, i32_w]; rw [c4b0]) | skip)
   have H' := Aside0.mk H
   clear H
   go_wp2
   go_meet
   case rel => exact ⟨_, (true), (by first | rfl | (simp; done) | (simp [*]; done)), H', ⟨by first | omega | exact Nat.le_refl _⟩, ⟨by repeat (first | (with_reducible first | exact HB.out | apply below_alloc | apply pw_below_drewN | apply below_drew1) | exact HB.out)⟩⟩
  ·
   rw [if_neg c4] at H
   have c4b0 : decide (a1 < 0) = false := decide_eq_false c4
   clear c4
   (first | rw [c4b0] | (simp only [i64_w, i32_w]; rw [c4b0]) | skip)
   have H' := Aside0.mk H
   clear H
   go_wp2
   go_meet
   case rel => exact ⟨_, (decide (a1 > 256)), (by first | rfl | (simp; done) | (simp [*]; done)), H', ⟨by first | omega | exact Nat.le_refl _⟩, ⟨by repeat (first | (with_reducible first | exact HB.out | apply below_alloc | apply pw_below_drewN | apply below_drew1) | exact HB.out)⟩⟩
 case rest =>
  clear HC3
  try clear p2
  try clear c4
  try clear c4b0
  obtain ⟨kq, x17_2, rfl, HA, HJ2, HB⟩ := hcut
  cases kq with
  | zero => exact absurd HA.out (by simp [wrackref1_Tokens.j0])
  | succ kj2 =>
   have H := HA.out
   clear HA
   simp only [wrackref1_Tokens.j0] at H
   by_cases c5 : x17_2 = true
   ·
    subst c5
    have H1 : (some ((⟨#[]⟩ : ByteArray), 4)) = some (r1, r2) := by rw [if_pos rfl] at H; exact H
    clear H
    have H := H1
    clear H1
    simp only [Option.some.injEq, Prod.mk.injEq] at H
    obtain ⟨rfl, rfl⟩ := H
    go_wp2
    go_ret2
    exact ⟨by first | rfl | (simp [errW_none, errW_some] <;> rfl) | (simp [*, errW_none, errW_some] <;> rfl), by repeat (first | (with_reducible first | exact HB.out | apply below_alloc | apply pw_below_drewN | apply below_drew1) | exact HB.out)⟩
   ·
    replace c5 := Bool.eq_false_iff.mpr c5
    subst c5
    have H1 : (wrackref1_Tokens.l0 kj2 a0 a1 (⟨#[]⟩ : ByteArray)) = some (r1, r2) := by rw [if_neg (show ¬ (false = true) by decide)] at H; exact H
    clear H
    have H := H1
    clear H1
    have H' := Aside0.mk H
    clear H
    go_wp2
    go_loopg [0, 6] kj2 (fun kq v0 v6 w' => ∃ (x0_2 : ByteArray) (x6_2 : ByteArray), v0 = .string x0_2 ∧ v6 = .string x6_2 ∧ Aside0 (wrackref1_Tokens.l0 kq x0_2 a1 x6_2 = some (r1, r2)) ∧ Aside0 (kq ≤ kj2) ∧ Aside0 (Below w.heap.size w w'))
    case atStart => exact ⟨(a0), ((⟨#[]⟩ : ByteArray)), (by first | rfl | (simp; done) | (simp [*]; done)), (by first | rfl | (simp; done) | (simp [*]; done)), H', ⟨Nat.le_refl _⟩, ⟨by repeat (first | (with_reducible first | exact HB.out | apply below_alloc | apply pw_below_drewN | apply below_drew1) | exact HB.out)⟩⟩
    case round =>
     clear H'
     try clear p2
     try clear c4
     try clear c4b0
     try clear c5
     try clear p2
     obtain ⟨x0_2, x6_2, rfl, rfl, HA, HK2, HB⟩ := hrel
     cases gk with
     | zero => exact absurd HA.out (by simp [wrackref1_Tokens.l0])
     | succ k2 =>
      have H := HA.out
      clear HA
      simp only [wrackref1_Tokens.l0] at H
      by_cases c6 : x0_2.toList = ([] : List UInt8)
      ·
       rw [if_pos c6] at H
       have c6b0 : (x0_2.toList == ([] : List UInt8)) = true := beq_iff_eq.mpr c6
       have c6b1 : (x0_2.toList != ([] : List UInt8)) = false := bne_eq_false_iff_eq.mpr c6
       clear c6
       by_cases c7 : (x6_2.size : Int) < a1
       ·
        rw [if_pos c7] at H
        have c7b0 : decide ((x6_2.size : Int) < a1) = true := decide_eq_true c7
        clear c7
        simp only [Option.some.injEq, Prod.mk.injEq] at H
        obtain ⟨rfl, rfl⟩ := H
        go_wp2
        go_ret2
        exact ⟨by first | rfl | (simp [errW_none, errW_some] <;> rfl) | (simp [*, errW_none, errW_some] <;> rfl), by repeat (first | (with_reducible first | exact HB.out | apply below_alloc | apply pw_below_drewN | apply below_drew1) | exact HB.out)⟩
       ·
        rw [if_neg c7] at H
        have c7b0 : decide ((x6_2.size : Int) < a1) = false := decide_eq_false c7
        clear c7
        simp only [Option.some.injEq, Prod.mk.injEq] at H
        obtain ⟨rfl, rfl⟩ := H
        go_wp2
        go_ret2
        exact ⟨by first | rfl | (simp [errW_none, errW_some] <;> rfl) | (simp [*, errW_none, errW_some] <;> rfl), by repeat (first | (with_reducible first | exact HB.out | apply below_alloc | apply pw_below_drewN | apply below_drew1) | exact HB.out)⟩
      ·
       rw [if_neg c6] at H
       have c6b0 : (x0_2.toList == ([] : List UInt8)) = false := beq_eq_false_iff_ne.mpr c6
       have c6b1 : (x0_2.toList != ([] : List UInt8)) = true := bne_iff_ne.mpr c6
       by_cases c8 : 0 < (x0_2.size : Int)
       ·
        rw [if_pos c8] at H
        have c8b0 : decide (0 < (x0_2.size : Int)) = true := decide_eq_true c8
        have c8b1 : decide (0 < x0_2.size) = true := decide_eq_true (by omega)
        clear c8
        have HC10 := Aside0.mk H
        clear H
        have p9 : 0 ≤ (0 : Int) := (by omega)
        have q9 : 0 < x0_2.size := (by have : (0 : Int) < (x0_2.size : Int) := of_decide_eq_true (by first | (with_reducible assumption) | assumption); omega)
        have hx9 : ∀ h : 0 < x0_2.size, ((x0_2[0]'h).toNat : Int) = bt x0_2 0 := bt_at x0_2 0
        clear p9
        have qi9 : (0 < (x0_2.size : Int)) = True := eq_true (of_decide_eq_true (by first | (with_reducible assumption) | assumption))
        replace q9 := eq_true q9
        go_upto_if 24 with (fail)
        go_cut [8] (fun v8 wc => ∃ (kq : Nat) (x8_9 : Int), v8 = .int .i64 x8_9 ∧ Aside0 (wrackref1_Tokens.j2 kq x0_2 a1 x6_2 (wrap64 (bt x0_2 0)) x8_9 = some (r1, r2)) ∧ Aside0 (kq ≤ k2) ∧ Aside0 (Below w.heap.size w wc))
        case first =>
         have H := HC10.out
         clear HC10
         by_cases c11 : (wrap64 (bt x0_2 0)) < 128
         ·
          rw [if_pos c11] at H
          have c11b0 : decide ((wrap64 (bt x0_2 0)) < 128) = true := decide_eq_true c11
          clear c11
          (first | rw [c11b0] | (simp only [i64_w, i32_w]; rw [c11b0]) | skip)
          have H' := Aside0.mk H
          clear H
          go_wp2
          go_meet
          case rel => exact ⟨_, (wrap64 ((wrap64 (bt x0_2 0)) + 1)), (by first | rfl | (simp; done) | (simp [*]; done)), H', ⟨by have := HJ2.out; have := HK2.out; first | omega | exact Nat.le_refl _⟩, ⟨by repeat (first | (with_reducible first | exact HB.out | apply below_alloc | apply pw_below_drewN | apply below_drew1) | exact HB.out)⟩⟩
         ·
          rw [if_neg c11] at H
          have c11b0 : decide ((wrap64 (bt x0_2 0)) < 128) = false := decide_eq_false c11
          clear c11
          (first | rw [c11b0] | (simp only [i64_w, i32_w]; rw [c11b0]) | skip)
          have H' := Aside0.mk H
          clear H
          go_wp2
          go_meet
          case rel => exact ⟨_, (1), (by first | rfl | (simp; done) | (simp [*]; done)), H', ⟨by have := HJ2.out; have := HK2.out; first | omega | exact Nat.le_refl _⟩, ⟨by repeat (first | (with_reducible first | exact HB.out | apply below_alloc | apply pw_below_drewN | apply below_drew1) | exact HB.out)⟩⟩
        case rest =>
         clear HC10
         try clear c1
         try clear p2
         try clear c4
         try clear c4b0
         try clear c5
         try clear c6
         try clear c6b0
         try clear c6b1
         try clear p6
         try clear c7
         try clear c7b0
         try clear c8
         try clear c8b0
         try clear c8b1
         try clear p9
         try clear q9
         try clear hx9
         try clear qi9
         try clear c11
         try clear c11b0
         try clear p2
         try clear p9
         try clear q9
         obtain ⟨kq, x8_9, rfl, HA, HJ9, HB⟩ := hcut
         cases kq with
         | zero => exact absurd HA.out (by simp [wrackref1_Tokens.j2])
         | succ kj9 =>
          have H := HA.out
          clear HA
          simp only [wrackref1_Tokens.j2] at H
          by_cases c12 : (wrap64 ((x0_2.size : Int) - 1)) < x8_9
          ·
           rw [if_pos c12] at H
           have c12b0 : decide ((wrap64 ((x0_2.size : Int) - 1)) < x8_9) = true := decide_eq_true c12
           clear c12
           simp only [Option.some.injEq, Prod.mk.injEq] at H
           obtain ⟨rfl, rfl⟩ := H
           go_wp2
           go_ret2
           exact ⟨by first | rfl | (simp [errW_none, errW_some] <;> rfl) | (simp [*, errW_none, errW_some] <;> rfl), by repeat (first | (with_reducible first | exact HB.out | apply below_alloc | apply pw_below_drewN | apply below_drew1) | exact HB.out)⟩
          ·
           rw [if_neg c12] at H
           have c12b0 : decide ((wrap64 ((x0_2.size : Int) - 1)) < x8_9) = false := decide_eq_false c12
           clear c12
           by_cases c13 : 1 ≤ (wrap64 (1 + x8_9))
           ·
            rw [if_pos c13] at H
            have c13b0 := eq_true c13
            have c13b1 : decide (1 ≤ (wrap64 (1 + x8_9))) = true := decide_eq_true c13
            by_cases c14 : (wrap64 (1 + x8_9)) ≤ (x0_2.size : Int)
            ·
             rw [if_pos c14] at H
             have c14b0 := eq_true c14
             have c14b1 : decide ((wrap64 (1 + x8_9)) ≤ (x0_2.size : Int)) = true := decide_eq_true c14
             obtain ⟨ji15, hji15⟩ : ∃ j_ : Int, (wrap64 (1 + x8_9)) = j_ := ⟨_, rfl⟩
             replace H : (if 0 ≤ (ji15) then (if (wrap64 (bt x0_2 0)) < 128 then (if x6_2.size + (x0_2.extract 1 ((ji15) : Int).toNat).size ≤ 9223372036854775807 then (if ((x6_2 ++ (x0_2.extract 1 ((ji15) : Int).toNat)).size : Int) > a1 then (some ((⟨#[]⟩ : ByteArray), 2)) else (wrackref1_Tokens.l0 kj9 (x0_2.extract ((ji15) : Int).toNat x0_2.size) a1 (x6_2 ++ (x0_2.extract 1 ((ji15) : Int).toNat)))) else (none)) else (if (wrap64 (bt x0_2 0)) < 192 then ((strings_Repeat.f (x0_2.extract 1 ((ji15) : Int).toNat) (wrap64 ((wrap64 (bt x0_2 0)) - 125))).bind fun t250 => (if x6_2.size + t250.size ≤ 9223372036854775807 then (if ((x6_2 ++ t250).size : Int) > a1 then (some ((⟨#[]⟩ : ByteArray), 2)) else (wrackref1_Tokens.l0 kj9 (x0_2.extract ((ji15) : Int).toNat x0_2.size) a1 (x6_2 ++ t250))) else (none))) else (if 0 < ((x0_2.extract 1 ((ji15) : Int).toNat).size : Int) then (if (x6_2.size : Int) < (wrap64 ((wrap64 (bt (x0_2.extract 1 ((ji15) : Int).toNat) 0)) + 1)) then (some ((⟨#[]⟩ : ByteArray), 8)) else (if 0 ≤ (wrap64 ((x6_2.size : Int) - (wrap64 ((wrap64 (bt (x0_2.extract 1 ((ji15) : Int).toNat) 0)) + 1)))) then (if (wrap64 ((x6_2.size : Int) - (wrap64 ((wrap64 (bt (x0_2.extract 1 ((ji15) : Int).toNat) 0)) + 1)))) ≤ (x6_2.size : Int) then (if (wrap64 ((wrap64 (bt (x0_2.extract 1 ((ji15) : Int).toNat) 0)) + 1)) = 0 then (none) else ((strings_Repeat.f (x6_2.extract ((wrap64 ((x6_2.size : Int) - (wrap64 ((wrap64 (bt (x0_2.extract 1 ((ji15) : Int).toNat) 0)) + 1)))) : Int).toNat x6_2.size) (wrap64 ((wrap64 (Int.tdiv (wrap64 ((wrap64 (bt x0_2 0)) - 189)) (wrap64 ((wrap64 (bt (x0_2.extract 1 ((ji15) : Int).toNat) 0)) + 1)))) + 1))).bind fun t251 => (if 0 ≤ (wrap64 ((wrap64 (bt x0_2 0)) - 189)) then (if (wrap64 ((wrap64 (bt x0_2 0)) - 189)) ≤ (t251.size : Int) then (if x6_2.size + (t251.extract 0 ((wrap64 ((wrap64 (bt x0_2 0)) - 189)) : Int).toNat).size ≤ 9223372036854775807 then (if ((x6_2 ++ (t251.extract 0 ((wrap64 ((wrap64 (bt x0_2 0)) - 189)) : Int).toNat)).size : Int) > a1 then (some ((⟨#[]⟩ : ByteArray), 2)) else (wrackref1_Tokens.l0 kj9 (x0_2.extract ((ji15) : Int).toNat x0_2.size) a1 (x6_2 ++ (t251.extract 0 ((wrap64 ((wrap64 (bt x0_2 0)) - 189)) : Int).toNat)))) else (none)) else (none)) else (none)))) else (none)) else (none))) else (none)))) else (none)) = some (r1, r2) := by first | (rw [hji15] at H; exact H) | (simp only [hji15] at H ⊢; exact H)
             (try rw [hji15] at c13b0)
             (try rw [hji15] at c13b1)
             (try rw [hji15] at c13)
             (try rw [hji15] at c14b0)
             (try rw [hji15] at c14b1)
             (try rw [hji15] at c14)
             have hji15w : (IntKind.i64.wrap (1 + x8_9)) = ji15 := (i64_w _).trans hji15
             by_cases c16 : 0 ≤ (ji15)
             ·
              rw [if_pos c16] at H
              have c16b0 := eq_true c16
              have c16b1 : decide (0 ≤ (ji15)) = true := decide_eq_true c16
              clear c16
              have c17b0 := eq_true (of_decide_eq_true (by first | (with_reducible assumption) | assumption) : (ji15) ≤ (x0_2.size : Int))
              by_cases c18 : (wrap64 (bt x0_2 0)) < 128
              ·
               rw [if_pos c18] at H
               have c18b0 : decide ((wrap64 (bt x0_2 0)) < 128) = true := decide_eq_true c18
               clear c18
               obtain ⟨es1_, hes1_⟩ : ∃ e_ : ByteArray, x0_2.extract 1 ((ji15) : Int).toNat = e_ := ⟨_, rfl⟩
               (try rw [hes1_] at H)
               by_cases c19 : x6_2.size + es1_.size ≤ 9223372036854775807
               ·
                rw [if_pos c19] at H
                have c19b0 := eq_true c19
                have c19b1 : decide (x6_2.size + es1_.size ≤ 9223372036854775807) = true := decide_eq_true c19
                try have c19b2 : (9223372036854775807 < x6_2.size + es1_.size) = False := eq_false (Nat.not_lt.2 c19)
                obtain ⟨es2_, hes2_⟩ : ∃ e_ : ByteArray, x6_2 ++ es1_ = e_ := ⟨_, rfl⟩
                (try rw [hes2_] at H)
                by_cases c20 : (es2_.size : Int) > a1
                ·
                 rw [if_pos c20] at H
                 have c20b0 : decide (a1 < (es2_.size : Int)) = true := decide_eq_true c20
                 clear c20
                 simp only [Option.some.injEq, Prod.mk.injEq] at H
                 obtain ⟨rfl, rfl⟩ := H
                 go_wp2
                 go_ret2
                 exact ⟨by first | rfl | (simp [errW_none, errW_some] <;> rfl) | (simp only [← hji15]; first | rfl | (simp [errW_none, errW_some] <;> rfl)) | (simp [*, errW_none, errW_some] <;> rfl), by repeat (first | (with_reducible first | exact HB.out | apply below_alloc | apply pw_below_drewN | apply below_drew1) | exact HB.out)⟩
                ·
                 rw [if_neg c20] at H
                 have c20b0 : decide (a1 < (es2_.size : Int)) = false := decide_eq_false c20
                 clear c20
                 have H' := Aside0.mk H
                 clear H
                 go_wp2
                 go_roundg kj9
                 case measure => have := HJ2.out; have := HK2.out; have := HJ9.out; omega
                 case rel => exact ⟨(x0_2.extract ((ji15) : Int).toNat x0_2.size), es2_, (by first | rfl | (simp; done) | (simp only [← hji15] <;> (first | rfl | simp)) | (simp [*]; done)), (by first | rfl | (simp; done) | (simp only [← hji15] <;> (first | rfl | simp)) | (simp [*]; done)), (by first | exact H' | (simp only [hji15]; exact H')), ⟨by have := HJ2.out; have := HK2.out; have := HJ9.out; omega⟩, ⟨by repeat (first | (with_reducible first | exact HB.out | apply below_alloc | apply pw_below_drewN | apply below_drew1) | exact HB.out)⟩⟩
               ·
                rw [if_neg c19] at H
                exact absurd H (by simp)
              ·
               rw [if_neg c18] at H
               have c18b0 : decide ((wrap64 (bt x0_2 0)) < 128) = false := decide_eq_false c18
               clear c18
               by_cases c21 : (wrap64 (bt x0_2 0)) < 192
               ·
                rw [if_pos c21] at H
                have c21b0 : decide ((wrap64 (bt x0_2 0)) < 192) = true := decide_eq_true c21
                clear c21
                replace H := Option.bind_eq_some_iff.mp H
                obtain ⟨t250, A220, H⟩ := H
                replace H : (if x6_2.size + t250.size ≤ 9223372036854775807 then (if ((x6_2 ++ t250).size : Int) > a1 then (some ((⟨#[]⟩ : ByteArray), 2)) else (wrackref1_Tokens.l0 kj9 (x0_2.extract ((ji15) : Int).toNat x0_2.size) a1 (x6_2 ++ t250))) else (none)) = some (r1, r2) := H
                have A22 := Aside0.mk A220
                clear A220
                by_cases c23 : x6_2.size + t250.size ≤ 9223372036854775807
                ·
                 rw [if_pos c23] at H
                 have c23b0 := eq_true c23
                 have c23b1 : decide (x6_2.size + t250.size ≤ 9223372036854775807) = true := decide_eq_true c23
                 try have c23b2 : (9223372036854775807 < x6_2.size + t250.size) = False := eq_false (Nat.not_lt.2 c23)
                 obtain ⟨es3_, hes3_⟩ : ∃ e_ : ByteArray, x6_2 ++ t250 = e_ := ⟨_, rfl⟩
                 (try rw [hes3_] at H)
                 by_cases c24 : (es3_.size : Int) > a1
                 ·
                  rw [if_pos c24] at H
                  have c24b0 : decide (a1 < (es3_.size : Int)) = true := decide_eq_true c24
                  clear c24
                  simp only [Option.some.injEq, Prod.mk.injEq] at H
                  obtain ⟨rfl, rfl⟩ := H
                  go_wp2_with (first | ((with_reducible refine gate_callee (f := 53) rfl ?_); refine goesL_ (some 79) rfl rfl Try.func53 (by kernel_rfl) rfl #[.string (x0_2.extract 1 ((ji15) : Int).toNat), .int .i64 (wrap64 ((wrap64 (bt x0_2 0)) - 125))] rfl (by (try simp only [List.map_toArray, List.map_cons, List.map_nil]); first | done | (simp only [hji15]; rfl) | rfl | (simp only [List.length_drop, List.length_take]; rfl)) ?_; (with_reducible refine (strings_Repeat.calls (x0_2.extract 1 ((ji15) : Int).toNat) (wrap64 ((wrap64 (bt x0_2 0)) - 125)) t250 _ A22.out).mono ?_); rintro e w25 ⟨rfl, hb⟩; refine ⟨_, rfl, ?_⟩; have n0_ := Aside0.mk (below_step (by repeat (first | (with_reducible first | exact HB.out | apply below_alloc | apply pw_below_drewN | apply below_drew1) | exact HB.out)) hb); clear HB; have HB := n0_; clear n0_; (try clear hb); (try clear hb2); (try clear hk); (try clear hi)))
                  go_ret2
                  exact ⟨by first | rfl | (simp [errW_none, errW_some] <;> rfl) | (simp only [← hji15]; first | rfl | (simp [errW_none, errW_some] <;> rfl)) | (simp [*, errW_none, errW_some] <;> rfl), by repeat (first | (with_reducible first | exact HB.out | apply below_alloc | apply pw_below_drewN | apply below_drew1) | exact HB.out)⟩
                 ·
                  rw [if_neg c24] at H
                  have c24b0 : decide (a1 < (es3_.size : Int)) = false := decide_eq_false c24
                  clear c24
                  have H' := Aside0.mk H
                  clear H
                  go_wp2_with (first | ((with_reducible refine gate_callee (f := 53) rfl ?_); refine goesL_ (some 79) rfl rfl Try.func53 (by kernel_rfl) rfl #[.string (x0_2.extract 1 ((ji15) : Int).toNat), .int .i64 (wrap64 ((wrap64 (bt x0_2 0)) - 125))] rfl (by (try simp only [List.map_toArray, List.map_cons, List.map_nil]); first | done | (simp only [hji15]; rfl) | rfl | (simp only [List.length_drop, List.length_take]; rfl)) ?_; (with_reducible refine (strings_Repeat.calls (x0_2.extract 1 ((ji15) : Int).toNat) (wrap64 ((wrap64 (bt x0_2 0)) - 125)) t250 _ A22.out).mono ?_); rintro e w26 ⟨rfl, hb⟩; refine ⟨_, rfl, ?_⟩; have n0_ := Aside0.mk (below_step (by repeat (first | (with_reducible first | exact HB.out | apply below_alloc | apply pw_below_drewN | apply below_drew1) | exact HB.out)) hb); clear HB; have HB := n0_; clear n0_; (try clear hb); (try clear hb2); (try clear hk); (try clear hi)))
                  go_roundg kj9
                  case measure => have := HJ2.out; have := HK2.out; have := HJ9.out; omega
                  case rel => exact ⟨(x0_2.extract ((ji15) : Int).toNat x0_2.size), es3_, (by first | rfl | (simp; done) | (simp only [← hji15] <;> (first | rfl | simp)) | (simp [*]; done)), (by first | rfl | (simp; done) | (simp [*]; done)), (by first | exact H' | (simp only [hji15]; exact H')), ⟨by have := HJ2.out; have := HK2.out; have := HJ9.out; omega⟩, ⟨by repeat (first | (with_reducible first | exact HB.out | apply below_alloc | apply pw_below_drewN | apply below_drew1) | exact HB.out)⟩⟩
                ·
                 rw [if_neg c23] at H
                 exact absurd H (by simp)
               ·
                rw [if_neg c21] at H
                have c21b0 : decide ((wrap64 (bt x0_2 0)) < 192) = false := decide_eq_false c21
                clear c21
                obtain ⟨es4_, hes4_⟩ : ∃ e_ : ByteArray, x0_2.extract 1 ((ji15) : Int).toNat = e_ := ⟨_, rfl⟩
                (try rw [hes4_] at H)
                by_cases c27 : 0 < (es4_.size : Int)
                ·
                 rw [if_pos c27] at H
                 have c27b0 : decide (0 < (es4_.size : Int)) = true := decide_eq_true c27
                 have c27b1 : decide (0 < es4_.size) = true := decide_eq_true (by omega)
                 clear c27
                 by_cases c29 : (x6_2.size : Int) < (wrap64 ((wrap64 (bt es4_ 0)) + 1))
                 ·
                  rw [if_pos c29] at H
                  have c29b0 : decide ((x6_2.size : Int) < (wrap64 ((wrap64 (bt es4_ 0)) + 1))) = true := decide_eq_true c29
                  clear c29
                  simp only [Option.some.injEq, Prod.mk.injEq] at H
                  obtain ⟨rfl, rfl⟩ := H
                  have p28 : 0 ≤ (0 : Int) := (by omega)
                  have q28 : 0 < es4_.size := (by have : (0 : Int) < (es4_.size : Int) := of_decide_eq_true (by first | (with_reducible assumption) | assumption); omega)
                  have hx28 : ∀ h : 0 < es4_.size, ((es4_[0]'h).toNat : Int) = bt es4_ 0 := bt_at es4_ 0
                  clear p28
                  have qi28 : (0 < (es4_.size : Int)) = True := eq_true (of_decide_eq_true (by first | (with_reducible assumption) | assumption))
                  replace q28 := eq_true q28
                  go_wp2
                  go_ret2
                  exact ⟨by first | rfl | (simp [errW_none, errW_some] <;> rfl) | (simp only [← hji15]; first | rfl | (simp [errW_none, errW_some] <;> rfl)) | (simp [*, errW_none, errW_some] <;> rfl), by repeat (first | (with_reducible first | exact HB.out | apply below_alloc | apply pw_below_drewN | apply below_drew1) | exact HB.out)⟩
                 ·
                  rw [if_neg c29] at H
                  have c29b0 : decide ((x6_2.size : Int) < (wrap64 ((wrap64 (bt es4_ 0)) + 1))) = false := decide_eq_false c29
                  clear c29
                  obtain ⟨ji30, hji30⟩ : ∃ j_ : Int, (wrap64 ((x6_2.size : Int) - (wrap64 ((wrap64 (bt es4_ 0)) + 1)))) = j_ := ⟨_, rfl⟩
                  replace H : (if 0 ≤ (ji30) then (if (ji30) ≤ (x6_2.size : Int) then (if (wrap64 ((wrap64 (bt es4_ 0)) + 1)) = 0 then (none) else ((strings_Repeat.f (x6_2.extract ((ji30) : Int).toNat x6_2.size) (wrap64 ((wrap64 (Int.tdiv (wrap64 ((wrap64 (bt x0_2 0)) - 189)) (wrap64 ((wrap64 (bt es4_ 0)) + 1)))) + 1))).bind fun t251 => (if 0 ≤ (wrap64 ((wrap64 (bt x0_2 0)) - 189)) then (if (wrap64 ((wrap64 (bt x0_2 0)) - 189)) ≤ (t251.size : Int) then (if x6_2.size + (t251.extract 0 ((wrap64 ((wrap64 (bt x0_2 0)) - 189)) : Int).toNat).size ≤ 9223372036854775807 then (if ((x6_2 ++ (t251.extract 0 ((wrap64 ((wrap64 (bt x0_2 0)) - 189)) : Int).toNat)).size : Int) > a1 then (some ((⟨#[]⟩ : ByteArray), 2)) else (wrackref1_Tokens.l0 kj9 (x0_2.extract ((ji15) : Int).toNat x0_2.size) a1 (x6_2 ++ (t251.extract 0 ((wrap64 ((wrap64 (bt x0_2 0)) - 189)) : Int).toNat)))) else (none)) else (none)) else (none)))) else (none)) else (none)) = some (r1, r2) := by first | (rw [hji30] at H; exact H) | (simp only [hji30] at H ⊢; exact H)
                  have hji30w : (IntKind.i64.wrap ((x6_2.size : Int) - (wrap64 ((wrap64 (bt es4_ 0)) + 1)))) = ji30 := (i64_w _).trans hji30
                  by_cases c31 : 0 ≤ (ji30)
                  ·
                   rw [if_pos c31] at H
                   have c31b0 := eq_true c31
                   have c31b1 : decide (0 ≤ (ji30)) = true := decide_eq_true c31
                   clear c31
                   by_cases c32 : (ji30) ≤ (x6_2.size : Int)
                   ·
                    rw [if_pos c32] at H
                    have c32b0 := eq_true c32
                    have c32b1 : decide ((ji30) ≤ (x6_2.size : Int)) = true := decide_eq_true c32
                    clear c32
                    by_cases c33 : (wrap64 ((wrap64 (bt es4_ 0)) + 1)) = 0
                    ·
                     rw [if_pos c33] at H
                     exact absurd H (by simp)
                    ·
                     rw [if_neg c33] at H
                     have c33b0 : ((wrap64 ((wrap64 (bt es4_ 0)) + 1)) == 0) = false := beq_eq_false_iff_ne.mpr c33
                     have c33b1 : ((wrap64 ((wrap64 (bt es4_ 0)) + 1)) != 0) = true := bne_iff_ne.mpr c33
                     replace H := Option.bind_eq_some_iff.mp H
                     obtain ⟨t251, A340, H⟩ := H
                     replace H : (if 0 ≤ (wrap64 ((wrap64 (bt x0_2 0)) - 189)) then (if (wrap64 ((wrap64 (bt x0_2 0)) - 189)) ≤ (t251.size : Int) then (if x6_2.size + (t251.extract 0 ((wrap64 ((wrap64 (bt x0_2 0)) - 189)) : Int).toNat).size ≤ 9223372036854775807 then (if ((x6_2 ++ (t251.extract 0 ((wrap64 ((wrap64 (bt x0_2 0)) - 189)) : Int).toNat)).size : Int) > a1 then (some ((⟨#[]⟩ : ByteArray), 2)) else (wrackref1_Tokens.l0 kj9 (x0_2.extract ((ji15) : Int).toNat x0_2.size) a1 (x6_2 ++ (t251.extract 0 ((wrap64 ((wrap64 (bt x0_2 0)) - 189)) : Int).toNat)))) else (none)) else (none)) else (none)) = some (r1, r2) := H
                     have A34 := Aside0.mk A340
                     clear A340
                     obtain ⟨ji35, hji35⟩ : ∃ j_ : Int, (wrap64 ((wrap64 (bt x0_2 0)) - 189)) = j_ := ⟨_, rfl⟩
                     replace H : (if 0 ≤ (ji35) then (if (ji35) ≤ (t251.size : Int) then (if x6_2.size + (t251.extract 0 ((ji35) : Int).toNat).size ≤ 9223372036854775807 then (if ((x6_2 ++ (t251.extract 0 ((ji35) : Int).toNat)).size : Int) > a1 then (some ((⟨#[]⟩ : ByteArray), 2)) else (wrackref1_Tokens.l0 kj9 (x0_2.extract ((ji15) : Int).toNat x0_2.size) a1 (x6_2 ++ (t251.extract 0 ((ji35) : Int).toNat)))) else (none)) else (none)) else (none)) = some (r1, r2) := by first | (rw [hji35] at H; exact H) | (simp only [hji35] at H ⊢; exact H)
                     (try rw [hji35] at A34)
                     have hji35w : (IntKind.i64.wrap ((wrap64 (bt x0_2 0)) - 189)) = ji35 := (i64_w _).trans hji35
                     by_cases c36 : 0 ≤ (ji35)
                     ·
                      rw [if_pos c36] at H
                      have c36b0 := eq_true c36
                      have c36b1 : decide (0 ≤ (ji35)) = true := decide_eq_true c36
                      clear c36
                      by_cases c37 : (ji35) ≤ (t251.size : Int)
                      ·
                       rw [if_pos c37] at H
                       have c37b0 := eq_true c37
                       have c37b1 : decide ((ji35) ≤ (t251.size : Int)) = true := decide_eq_true c37
                       clear c37
                       obtain ⟨es5_, hes5_⟩ : ∃ e_ : ByteArray, t251.extract 0 ((ji35) : Int).toNat = e_ := ⟨_, rfl⟩
                       (try rw [hes5_] at H)
                       by_cases c38 : x6_2.size + es5_.size ≤ 9223372036854775807
                       ·
                        rw [if_pos c38] at H
                        have c38b0 := eq_true c38
                        have c38b1 : decide (x6_2.size + es5_.size ≤ 9223372036854775807) = true := decide_eq_true c38
                        try have c38b2 : (9223372036854775807 < x6_2.size + es5_.size) = False := eq_false (Nat.not_lt.2 c38)
                        obtain ⟨es6_, hes6_⟩ : ∃ e_ : ByteArray, x6_2 ++ es5_ = e_ := ⟨_, rfl⟩
                        (try rw [hes6_] at H)
                        by_cases c39 : (es6_.size : Int) > a1
                        ·
                         rw [if_pos c39] at H
                         have c39b0 : decide (a1 < (es6_.size : Int)) = true := decide_eq_true c39
                         clear c39
                         simp only [Option.some.injEq, Prod.mk.injEq] at H
                         obtain ⟨rfl, rfl⟩ := H
                         have p28 : 0 ≤ (0 : Int) := (by omega)
                         have q28 : 0 < es4_.size := (by have : (0 : Int) < (es4_.size : Int) := of_decide_eq_true (by first | (with_reducible assumption) | assumption); omega)
                         have hx28 : ∀ h : 0 < es4_.size, ((es4_[0]'h).toNat : Int) = bt es4_ 0 := bt_at es4_ 0
                         clear p28
                         have qi28 : (0 < (es4_.size : Int)) = True := eq_true (of_decide_eq_true (by first | (with_reducible assumption) | assumption))
                         replace q28 := eq_true q28
                         go_wp2_with (first | ((with_reducible refine gate_callee (f := 53) rfl ?_); refine goesL_ (some 61) rfl rfl Try.func53 (by kernel_rfl) rfl #[.string (x6_2.extract ((ji30) : Int).toNat x6_2.size), .int .i64 (wrap64 ((wrap64 (Int.tdiv (ji35) (wrap64 ((wrap64 (bt es4_ 0)) + 1)))) + 1))] rfl (by (try simp only [List.map_toArray, List.map_cons, List.map_nil]); first | done | (simp only [hji15, hji30, hji35]; rfl) | rfl | (simp only [List.length_drop, List.length_take]; rfl)) ?_; (with_reducible refine (strings_Repeat.calls (x6_2.extract ((ji30) : Int).toNat x6_2.size) (wrap64 ((wrap64 (Int.tdiv (ji35) (wrap64 ((wrap64 (bt es4_ 0)) + 1)))) + 1)) t251 _ A34.out).mono ?_); rintro e w40 ⟨rfl, hb⟩; refine ⟨_, rfl, ?_⟩; have n0_ := Aside0.mk (below_step (by repeat (first | (with_reducible first | exact HB.out | apply below_alloc | apply pw_below_drewN | apply below_drew1) | exact HB.out)) hb); clear HB; have HB := n0_; clear n0_; (try clear hb); (try clear hb2); (try clear hk); (try clear hi)))
                         go_ret2
                         exact ⟨by first | rfl | (simp [errW_none, errW_some] <;> rfl) | (simp only [← hji15, ← hji30, ← hji35]; first | rfl | (simp [errW_none, errW_some] <;> rfl)) | (simp [*, errW_none, errW_some] <;> rfl), by repeat (first | (with_reducible first | exact HB.out | apply below_alloc | apply pw_below_drewN | apply below_drew1) | exact HB.out)⟩
                        ·
                         rw [if_neg c39] at H
                         have c39b0 : decide (a1 < (es6_.size : Int)) = false := decide_eq_false c39
                         clear c39
                         have H' := Aside0.mk H
                         clear H
                         have p28 : 0 ≤ (0 : Int) := (by omega)
                         have q28 : 0 < es4_.size := (by have : (0 : Int) < (es4_.size : Int) := of_decide_eq_true (by first | (with_reducible assumption) | assumption); omega)
                         have hx28 : ∀ h : 0 < es4_.size, ((es4_[0]'h).toNat : Int) = bt es4_ 0 := bt_at es4_ 0
                         clear p28
                         have qi28 : (0 < (es4_.size : Int)) = True := eq_true (of_decide_eq_true (by first | (with_reducible assumption) | assumption))
                         replace q28 := eq_true q28
                         go_wp2_with (first | ((with_reducible refine gate_callee (f := 53) rfl ?_); refine goesL_ (some 61) rfl rfl Try.func53 (by kernel_rfl) rfl #[.string (x6_2.extract ((ji30) : Int).toNat x6_2.size), .int .i64 (wrap64 ((wrap64 (Int.tdiv (ji35) (wrap64 ((wrap64 (bt es4_ 0)) + 1)))) + 1))] rfl (by (try simp only [List.map_toArray, List.map_cons, List.map_nil]); first | done | (simp only [hji15, hji30, hji35]; rfl) | rfl | (simp only [List.length_drop, List.length_take]; rfl)) ?_; (with_reducible refine (strings_Repeat.calls (x6_2.extract ((ji30) : Int).toNat x6_2.size) (wrap64 ((wrap64 (Int.tdiv (ji35) (wrap64 ((wrap64 (bt es4_ 0)) + 1)))) + 1)) t251 _ A34.out).mono ?_); rintro e w41 ⟨rfl, hb⟩; refine ⟨_, rfl, ?_⟩; have n0_ := Aside0.mk (below_step (by repeat (first | (with_reducible first | exact HB.out | apply below_alloc | apply pw_below_drewN | apply below_drew1) | exact HB.out)) hb); clear HB; have HB := n0_; clear n0_; (try clear hb); (try clear hb2); (try clear hk); (try clear hi)))
                         go_roundg kj9
                         case measure => have := HJ2.out; have := HK2.out; have := HJ9.out; omega
                         case rel => exact ⟨(x0_2.extract ((ji15) : Int).toNat x0_2.size), es6_, (by first | rfl | (simp; done) | (simp only [← hji15] <;> (first | rfl | simp)) | (simp [*]; done)), (by first | rfl | (simp; done) | (simp only [← hji35] <;> (first | rfl | simp)) | (simp [*]; done)), (by first | exact H' | (simp only [hji15, hji30, hji35]; exact H')), ⟨by have := HJ2.out; have := HK2.out; have := HJ9.out; omega⟩, ⟨by repeat (first | (with_reducible first | exact HB.out | apply below_alloc | apply pw_below_drewN | apply below_drew1) | exact HB.out)⟩⟩
                       ·
                        rw [if_neg c38] at H
                        exact absurd H (by simp)
                      ·
                       rw [if_neg c37] at H
                       exact absurd H (by simp)
                     ·
                      rw [if_neg c36] at H
                      exact absurd H (by simp)
                   ·
                    rw [if_neg c32] at H
                    exact absurd H (by simp)
                  ·
                   rw [if_neg c31] at H
                   exact absurd H (by simp)
                ·
                 rw [if_neg c27] at H
                 exact absurd H (by simp)
             ·
              rw [if_neg c16] at H
              exact absurd H (by simp)
            ·
             rw [if_neg c14] at H
             exact absurd H (by simp)
           ·
            rw [if_neg c13] at H
            exact absurd H (by simp)
       ·
        rw [if_neg c8] at H
        exact absurd H (by simp)
-- NOT PRINTED: function 11 (wrackref1_Packed_Unit)
-- NOT PRINTED: function 3 (wracklaw1_PackOpens)
end Go.Proofs.Ytgkjkhhppmnajaa.QPackOpens
