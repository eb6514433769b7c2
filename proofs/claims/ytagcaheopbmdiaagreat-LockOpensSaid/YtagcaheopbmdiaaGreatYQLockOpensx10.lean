/- Written by a program of this session (wip/mprint): the walk of the Go code, function by function, for every input; no condition. -/
import Derived.Test.YtagcaheopbmdiaaGreatYSumTreePlain
import Derived.Test.YtagcaheopbmdiaaGreatYQLockOpensx6
import Derived.Test.YtagcaheopbmdiaaGreatYQLockOpensx9
import Derived.Shelf.Strings.Repeat
namespace Go.Proofs.YtagcaheopbmdiaaGreat.QLockOpens
open Go.RowKit Go.Proofs.YtagcaheopbmdiaaGreatW.PrintWords Go.Proofs.YtagcaheopbmdiaaGreatW.PrintLast Go.Proofs.YtagcaheopbmdiaaGreatW.PrintMore
attribute [local go_sem] max2_int min2_int max_two min_two max_three min_three max_four min_four   -- for this text's walks alone
set_option linter.unusedVariables false
set_option linter.unusedSimpArgs false
def lock_open.l0 : Nat → List Int → ByteArray → Int → Int → Option (Int × Int × Bool)
 | 0, _, _, _, _ => none
 | k + 1, x0, x2, x12, x13 => if x13 < x12 then (if 0 ≤ (wrap64 (16 + (wrap64 (24 * x13)))) then (if (wrap64 (16 + (wrap64 (24 * x13)))) ≤ (wrap64 (16 + (wrap64 (24 * (wrap64 (x13 + 1)))))) then (if (wrap64 (16 + (wrap64 (24 * (wrap64 (x13 + 1)))))) ≤ (x0.length : Int) then (if 8 ≤ 16 then (if 16 ≤ (((x0.take ((wrap64 (16 + (wrap64 (24 * (wrap64 (x13 + 1)))))) : Int).toNat).drop ((wrap64 (16 + (wrap64 (24 * x13)))) : Int).toNat).length : Int) then ((lock_get.f k ((((x0.take ((wrap64 (16 + (wrap64 (24 * (wrap64 (x13 + 1)))))) : Int).toNat).drop ((wrap64 (16 + (wrap64 (24 * x13)))) : Int).toNat).take 16).drop 8)).bind fun t265 => (if 8 ≤ (((x0.take ((wrap64 (16 + (wrap64 (24 * (wrap64 (x13 + 1)))))) : Int).toNat).drop ((wrap64 (16 + (wrap64 (24 * x13)))) : Int).toNat).length : Int) then ((lock_get.f k (((x0.take ((wrap64 (16 + (wrap64 (24 * (wrap64 (x13 + 1)))))) : Int).toNat).drop ((wrap64 (16 + (wrap64 (24 * x13)))) : Int).toNat).take 8)).bind fun t267 => ((lock_mixed.f k t267 x2).bind fun t268 => ((lock_mixed.f k t268 (⟨#[105, 110]⟩ : ByteArray)).bind fun t269 => ((lock_mixed.f k (Go.bits .xor .u64 t265 t269) (⟨#[111, 107]⟩ : ByteArray)).bind fun t270 => ((lock_get.f k (((x0.take ((wrap64 (16 + (wrap64 (24 * (wrap64 (x13 + 1)))))) : Int).toNat).drop ((wrap64 (16 + (wrap64 (24 * x13)))) : Int).toNat).drop 16)).bind fun t272 => (if t270 = t272 then (some (x13, Go.bits .xor .u64 t265 t269, true)) else (lock_open.l0 k x0 x2 x12 (wrap64 (x13 + 1))))))))) else (none))) else (none)) else (none)) else (none)) else (none)) else (none)) else (some (0, 0, false))
def lock_open.f (k : Nat) (l0 : List Int) (a1 : Int) (a2 : ByteArray) : Option (Int × Int × Bool) := lock_open.l0 k l0 a2 a1 0
theorem lock_open.mono_l : ∀ k, (∀ y0 y1 y2 y3, LeO (lock_open.l0 k y0 y1 y2 y3) (lock_open.l0 (k + 1) y0 y1 y2 y3))
 | 0 => fun _ _ _ _ r h => by simp [lock_open.l0] at h
 | k + 1 => by
  have ih0 := lock_open.mono_l k
  ·
   intro y0 y1 y2 y3
   unfold lock_open.l0
   repeat' first
   | (with_reducible exact ih0 _ _ _ _)
   | (with_reducible exact lock_get.mono _ _)
   | (with_reducible exact lock_mixed.mono _ _ _)
   | (with_reducible exact LeO.refl _)
   | (with_reducible exact LeO.none _)
   | (with_reducible refine LeO.ite ?_ ?_)
   | (with_reducible refine LeO.bind ?_ (fun _ => ?_))
   | exact ih0 _ _ _ _
   | exact lock_get.mono _ _
   | exact lock_mixed.mono _ _ _
   | exact LeO.none _
   | refine LeO.ite ?_ ?_
   | refine LeO.bind ?_ (fun _ => ?_)
theorem lock_open.mono : ∀ a0 a1 a2 k, LeO (lock_open.f k a0 a1 a2) (lock_open.f (k + 1) a0 a1 a2) := by
 intro a0 a1 a2 k
 have ih0 := lock_open.mono_l k
 unfold lock_open.f
 repeat' first
   | (with_reducible exact ih0 _ _ _ _)
   | (with_reducible exact lock_get.mono _ _)
   | (with_reducible exact lock_mixed.mono _ _ _)
   | (with_reducible exact LeO.refl _)
   | (with_reducible exact LeO.none _)
   | (with_reducible refine LeO.ite ?_ ?_)
   | (with_reducible refine LeO.bind ?_ (fun _ => ?_))
   | exact ih0 _ _ _ _
   | exact lock_get.mono _ _
   | exact lock_mixed.mono _ _ _
   | exact LeO.none _
   | refine LeO.ite ?_ ?_
   | refine LeO.bind ?_ (fun _ => ?_)
def lock_open.T5 : Bool × List (List Nat × List Nat) := (true,[([], []), ([0], [0]), ([1], [1]), ([], []), ([3], [3]), ([4, 2], [4]), ([], []), ([5, 6, 5], [5, 6]), ([7, 7], [7]), ([2, 8], [2, 8]), ([9, 8, 0, 1, 2, 3, 4, 5, 6, 7, 8, 9], [9])])
def lock_open.B5 : List Nat := [0, 1, 3, 0, 8, 31, 0, 127, 255, 511, 1023]
theorem lock_open.tab5 : rtab .any (opsOf Tryz.f23 5) = lock_open.T5 := by kernel_rfl
theorem lock_open.bits5 : waitsOk lock_open.T5.2 lock_open.B5 = true := by kernel_rfl
set_option maxHeartbeats 8000000 in
set_option maxRecDepth 100000 in
theorem lock_open.calls (k : Nat) (A0 : Option Addr) (c0 : Nat) (l0 : List Int) (a1 : Int) (a2 : ByteArray) (r1 : Int) (r2 : Int) (r3 : Bool) (w : World) (hr0 : Kd.C (Kd.int .u8) w A0 l0.length l0) (hc0 : l0.length ≤ c0) (h : lock_open.f k l0 a1 a2 = some (r1, r2, r3)) :
  Calls Tryz.prog 23 #[.slice A0 l0.length c0, .int .i64 a1, .string a2] w fun e w' => e = .returned (.tuple #[.int .i64 r1, .int .u64 r2, .bool r3]) ∧ Below w.heap.size w w' := by
 have HR0 := Aside0.mk hr0
 have HC0 := Aside0.mk hc0
 clear hr0 hc0
 have HB := Aside0.mk (Below.refl w.heap.size w)
 have H : (lock_open.l0 k l0 a2 a1 0) = some (r1, r2, r3) := h
 clear h
 have H' := Aside0.mk H
 clear H
 go_enter Tryz.func23, Tryz.ntmps23
 go_wp2
 go_loopg [13] k (fun kq v13 w' => ∃ (x13_1 : Int), v13 = .int .i64 x13_1 ∧ Aside0 (lock_open.l0 kq l0 a2 a1 x13_1 = some (r1, r2, r3)) ∧ Aside0 (kq ≤ k) ∧ Aside0 (Below w.heap.size w w'))
 case atStart => exact ⟨(0), (by first | rfl | (simp; done) | (simp [*]; done)), H', ⟨Nat.le_refl _⟩, ⟨by repeat (first | (with_reducible first | exact HB.out | apply below_alloc | apply pw_below_drewN | apply below_drew1) | exact HB.out)⟩⟩
 case round =>
  clear H'
  try clear c2
  try clear p2
  obtain ⟨x13_1, rfl, HA, HK1, HB⟩ := hrel
  cases gk with
  | zero => exact absurd HA.out (by simp [lock_open.l0])
  | succ k1 =>
   have H := HA.out
   clear HA
   simp only [lock_open.l0] at H
   by_cases c4 : x13_1 < a1
   ·
    rw [if_pos c4] at H
    have c4b0 : decide (x13_1 < a1) = true := decide_eq_true c4
    clear c4
    obtain ⟨ji5, hji5⟩ : ∃ j_ : Int, (wrap64 (16 + (wrap64 (24 * x13_1)))) = j_ := ⟨_, rfl⟩
    replace H : (if 0 ≤ (ji5) then (if (ji5) ≤ (wrap64 (16 + (wrap64 (24 * (wrap64 (x13_1 + 1)))))) then (if (wrap64 (16 + (wrap64 (24 * (wrap64 (x13_1 + 1)))))) ≤ (l0.length : Int) then (if 8 ≤ 16 then (if 16 ≤ (((l0.take ((wrap64 (16 + (wrap64 (24 * (wrap64 (x13_1 + 1)))))) : Int).toNat).drop ((ji5) : Int).toNat).length : Int) then ((lock_get.f k1 ((((l0.take ((wrap64 (16 + (wrap64 (24 * (wrap64 (x13_1 + 1)))))) : Int).toNat).drop ((ji5) : Int).toNat).take 16).drop 8)).bind fun t265 => (if 8 ≤ (((l0.take ((wrap64 (16 + (wrap64 (24 * (wrap64 (x13_1 + 1)))))) : Int).toNat).drop ((ji5) : Int).toNat).length : Int) then ((lock_get.f k1 (((l0.take ((wrap64 (16 + (wrap64 (24 * (wrap64 (x13_1 + 1)))))) : Int).toNat).drop ((ji5) : Int).toNat).take 8)).bind fun t267 => ((lock_mixed.f k1 t267 a2).bind fun t268 => ((lock_mixed.f k1 t268 (⟨#[105, 110]⟩ : ByteArray)).bind fun t269 => ((lock_mixed.f k1 (Go.bits .xor .u64 t265 t269) (⟨#[111, 107]⟩ : ByteArray)).bind fun t270 => ((lock_get.f k1 (((l0.take ((wrap64 (16 + (wrap64 (24 * (wrap64 (x13_1 + 1)))))) : Int).toNat).drop ((ji5) : Int).toNat).drop 16)).bind fun t272 => (if t270 = t272 then (some (x13_1, Go.bits .xor .u64 t265 t269, true)) else (lock_open.l0 k1 l0 a2 a1 (wrap64 (x13_1 + 1))))))))) else (none))) else (none)) else (none)) else (none)) else (none)) else (none)) = some (r1, r2, r3) := by first | (rw [hji5] at H; exact H) | (simp only [hji5] at H ⊢; exact H)
    have hji5w : (IntKind.i64.wrap (16 + (wrap64 (24 * x13_1)))) = ji5 := (i64_w _).trans hji5
    by_cases c6 : 0 ≤ (ji5)
    ·
     rw [if_pos c6] at H
     have c6b0 := eq_true c6
     have c6b1 : decide (0 ≤ (ji5)) = true := decide_eq_true c6
     clear c6
     by_cases c7 : (ji5) ≤ (wrap64 (16 + (wrap64 (24 * (wrap64 (x13_1 + 1))))))
     ·
      rw [if_pos c7] at H
      have c7b0 := eq_true c7
      have c7b1 : decide ((ji5) ≤ (wrap64 (16 + (wrap64 (24 * (wrap64 (x13_1 + 1))))))) = true := decide_eq_true c7
      by_cases c8 : (wrap64 (16 + (wrap64 (24 * (wrap64 (x13_1 + 1)))))) ≤ (l0.length : Int)
      ·
       rw [if_pos c8] at H
       have c8b0 := eq_true c8
       have c8b1 : decide ((wrap64 (16 + (wrap64 (24 * (wrap64 (x13_1 + 1)))))) ≤ (l0.length : Int)) = true := decide_eq_true c8
       by_cases c9 : 8 ≤ 16
       ·
        rw [if_pos c9] at H
        have c9b0 := eq_true c9
        have c9b1 : decide (8 ≤ 16) = true := decide_eq_true c9
        clear c9
        by_cases c10 : 16 ≤ (((l0.take ((wrap64 (16 + (wrap64 (24 * (wrap64 (x13_1 + 1)))))) : Int).toNat).drop ((ji5) : Int).toNat).length : Int)
        ·
         rw [if_pos c10] at H
         have c10b0 := eq_true c10
         have c10b1 : decide (16 ≤ (((l0.take ((wrap64 (16 + (wrap64 (24 * (wrap64 (x13_1 + 1)))))) : Int).toNat).drop ((ji5) : Int).toNat).length : Int)) = true := decide_eq_true c10
         replace H := Option.bind_eq_some_iff.mp H
         obtain ⟨t265, A110, H⟩ := H
         replace H : (if 8 ≤ (((l0.take ((wrap64 (16 + (wrap64 (24 * (wrap64 (x13_1 + 1)))))) : Int).toNat).drop ((ji5) : Int).toNat).length : Int) then ((lock_get.f k1 (((l0.take ((wrap64 (16 + (wrap64 (24 * (wrap64 (x13_1 + 1)))))) : Int).toNat).drop ((ji5) : Int).toNat).take 8)).bind fun t267 => ((lock_mixed.f k1 t267 a2).bind fun t268 => ((lock_mixed.f k1 t268 (⟨#[105, 110]⟩ : ByteArray)).bind fun t269 => ((lock_mixed.f k1 (Go.bits .xor .u64 t265 t269) (⟨#[111, 107]⟩ : ByteArray)).bind fun t270 => ((lock_get.f k1 (((l0.take ((wrap64 (16 + (wrap64 (24 * (wrap64 (x13_1 + 1)))))) : Int).toNat).drop ((ji5) : Int).toNat).drop 16)).bind fun t272 => (if t270 = t272 then (some (x13_1, Go.bits .xor .u64 t265 t269, true)) else (lock_open.l0 k1 l0 a2 a1 (wrap64 (x13_1 + 1))))))))) else (none)) = some (r1, r2, r3) := H
         have A11 := Aside0.mk A110
         clear A110
         by_cases c12 : 8 ≤ (((l0.take ((wrap64 (16 + (wrap64 (24 * (wrap64 (x13_1 + 1)))))) : Int).toNat).drop ((ji5) : Int).toNat).length : Int)
         ·
          rw [if_pos c12] at H
          have c12b0 := eq_true c12
          have c12b1 : decide (8 ≤ (((l0.take ((wrap64 (16 + (wrap64 (24 * (wrap64 (x13_1 + 1)))))) : Int).toNat).drop ((ji5) : Int).toNat).length : Int)) = true := decide_eq_true c12
          replace H := Option.bind_eq_some_iff.mp H
          obtain ⟨t267, A130, H⟩ := H
          replace H : ((lock_mixed.f k1 t267 a2).bind fun t268 => ((lock_mixed.f k1 t268 (⟨#[105, 110]⟩ : ByteArray)).bind fun t269 => ((lock_mixed.f k1 (Go.bits .xor .u64 t265 t269) (⟨#[111, 107]⟩ : ByteArray)).bind fun t270 => ((lock_get.f k1 (((l0.take ((wrap64 (16 + (wrap64 (24 * (wrap64 (x13_1 + 1)))))) : Int).toNat).drop ((ji5) : Int).toNat).drop 16)).bind fun t272 => (if t270 = t272 then (some (x13_1, Go.bits .xor .u64 t265 t269, true)) else (lock_open.l0 k1 l0 a2 a1 (wrap64 (x13_1 + 1)))))))) = some (r1, r2, r3) := H
          have A13 := Aside0.mk A130
          clear A130
          replace H := Option.bind_eq_some_iff.mp H
          obtain ⟨t268, A140, H⟩ := H
          replace H : ((lock_mixed.f k1 t268 (⟨#[105, 110]⟩ : ByteArray)).bind fun t269 => ((lock_mixed.f k1 (Go.bits .xor .u64 t265 t269) (⟨#[111, 107]⟩ : ByteArray)).bind fun t270 => ((lock_get.f k1 (((l0.take ((wrap64 (16 + (wrap64 (24 * (wrap64 (x13_1 + 1)))))) : Int).toNat).drop ((ji5) : Int).toNat).drop 16)).bind fun t272 => (if t270 = t272 then (some (x13_1, Go.bits .xor .u64 t265 t269, true)) else (lock_open.l0 k1 l0 a2 a1 (wrap64 (x13_1 + 1))))))) = some (r1, r2, r3) := H
          have A14 := Aside0.mk A140
          clear A140
          replace H := Option.bind_eq_some_iff.mp H
          obtain ⟨t269, A150, H⟩ := H
          replace H : ((lock_mixed.f k1 (Go.bits .xor .u64 t265 t269) (⟨#[111, 107]⟩ : ByteArray)).bind fun t270 => ((lock_get.f k1 (((l0.take ((wrap64 (16 + (wrap64 (24 * (wrap64 (x13_1 + 1)))))) : Int).toNat).drop ((ji5) : Int).toNat).drop 16)).bind fun t272 => (if t270 = t272 then (some (x13_1, Go.bits .xor .u64 t265 t269, true)) else (lock_open.l0 k1 l0 a2 a1 (wrap64 (x13_1 + 1)))))) = some (r1, r2, r3) := H
          have A15 := Aside0.mk A150
          clear A150
          replace H := Option.bind_eq_some_iff.mp H
          obtain ⟨t270, A160, H⟩ := H
          replace H : ((lock_get.f k1 (((l0.take ((wrap64 (16 + (wrap64 (24 * (wrap64 (x13_1 + 1)))))) : Int).toNat).drop ((ji5) : Int).toNat).drop 16)).bind fun t272 => (if t270 = t272 then (some (x13_1, Go.bits .xor .u64 t265 t269, true)) else (lock_open.l0 k1 l0 a2 a1 (wrap64 (x13_1 + 1))))) = some (r1, r2, r3) := H
          have A16 := Aside0.mk A160
          clear A160
          have c17b0 := eq_true (of_decide_eq_true (by first | (with_reducible assumption) | assumption) : 16 ≤ (((l0.take ((wrap64 (16 + (wrap64 (24 * (wrap64 (x13_1 + 1)))))) : Int).toNat).drop ((ji5) : Int).toNat).length : Int))
          replace H := Option.bind_eq_some_iff.mp H
          obtain ⟨t272, A180, H⟩ := H
          replace H : (if t270 = t272 then (some (x13_1, Go.bits .xor .u64 t265 t269, true)) else (lock_open.l0 k1 l0 a2 a1 (wrap64 (x13_1 + 1)))) = some (r1, r2, r3) := H
          have A18 := Aside0.mk A180
          clear A180
          by_cases c19 : t270 = t272
          ·
           rw [if_pos c19] at H
           have c19b0 : (t270 == t272) = true := beq_iff_eq.mpr c19
           have c19b1 : (t270 != t272) = false := bne_eq_false_iff_eq.mpr c19
           clear c19
           simp only [Option.some.injEq, Prod.mk.injEq] at H
           obtain ⟨rfl, rfl, rfl⟩ := H
           obtain ⟨i020, hi020, _, hsz20, _⟩ := info_parts info5
           obtain ⟨A20, hcut20, hA20, hC20⟩ := print_mid_of (P := Tryz.prog) (Value.int .u8) 0 22 5 .i64 .i64 Tryz.underlying22 hi020 hsz20 A0 c0 l0 (ji5) (wrap64 (16 + (wrap64 (24 * (wrap64 (x13_1 + 1)))))) (of_decide_eq_true (by first | (with_reducible assumption) | assumption)) (by first | omega | exact of_decide_eq_true (by first | (with_reducible assumption) | assumption)) (of_decide_eq_true (by first | (with_reducible assumption) | assumption)) HC0.out
           have HR263 := Aside0.mk (Kd.C_of_reads (h1 := fun _ => rfl) (hA20 _ (Kd.reads_of_C HR0.out)))
           have HC263 := Aside0.mk hC20
           clear hA20 hC20 hi020 hsz20
           try go_wp2
           have n0_ := Aside0.mk (below_drew1 HB.out)
           clear HB
           have HB := n0_
           clear n0_
           obtain ⟨i022, hi022, _, hsz22, _⟩ := info_parts info5
           obtain ⟨A22, hcut22, hA22, hC22⟩ := print_mid_of (P := Tryz.prog) (Value.int .u8) 0 22 5 .i64 .i64 Tryz.underlying22 hi022 hsz22 A20 (c0 - (ji5).toNat) ((l0.take ((wrap64 (16 + (wrap64 (24 * (wrap64 (x13_1 + 1)))))) : Int).toNat).drop ((ji5) : Int).toNat) 8 16 (by omega) (by first | omega | exact of_decide_eq_true (by first | (with_reducible assumption) | assumption)) (of_decide_eq_true (by first | (with_reducible assumption) | assumption)) HC263.out
           try rw [show ((l0.take ((wrap64 (16 + (wrap64 (24 * (wrap64 (x13_1 + 1)))))) : Int).toNat).drop ((ji5) : Int).toNat).length = (wrap64 (16 + (wrap64 (24 * (wrap64 (x13_1 + 1)))))).toNat - (ji5).toNat by rw [List.length_drop, List.length_take]; omega] at hcut22
           have HR264 := Aside0.mk (Kd.C_of_reads (h1 := fun _ => rfl) (hA22 _ (Kd.reads_of_C HR263.out)))
           have HC264 := Aside0.mk hC22
           clear hA22 hC22 hi022 hsz22
           obtain ⟨i023, hi023, _, hsz23, _⟩ := info_parts info5
           obtain ⟨hcut23, hA23, hC23⟩ := print_take_of (P := Tryz.prog) (Value.int .u8) 0 22 5 .i64 Tryz.underlying22 hi023 hsz23 A20 (c0 - (ji5).toNat) ((l0.take ((wrap64 (16 + (wrap64 (24 * (wrap64 (x13_1 + 1)))))) : Int).toNat).drop ((ji5) : Int).toNat) 8 (by omega) (of_decide_eq_true (by first | (with_reducible assumption) | assumption)) HC263.out
           try rw [show ((l0.take ((wrap64 (16 + (wrap64 (24 * (wrap64 (x13_1 + 1)))))) : Int).toNat).drop ((ji5) : Int).toNat).length = (wrap64 (16 + (wrap64 (24 * (wrap64 (x13_1 + 1)))))).toNat - (ji5).toNat by rw [List.length_drop, List.length_take]; omega] at hcut23
           have HR266 := Aside0.mk (Kd.C_of_reads (h1 := fun _ => rfl) (hA23 _ (Kd.reads_of_C HR263.out)))
           have HC266 := Aside0.mk hC23
           clear hA23 hC23 hi023 hsz23
           refine start_ (n := 11) (S := fun w' => True) (ds := []) #[false,false,false,false,false,false,false,false,false,false,false] (by kernel_rfl) rfl rfl trivial (fun hHeld => ?_); refine with_tabW lock_open.tab5 lock_open.bits5 (fun HT_ HW_ => ?_)
           generalize wr.drew = w21 at HB HR264 HR266 hHeld ⊢
           refine pure_ (i := 0) (N := some 25) (v := ?_) (a' := ?_) #[true,false,false,false,false,false,false,false,false,false,false] rfl rfl (any_of HT_.out (by kernel_rfl)) (fun _ _ _ h => h) (Or.inl ⟨by rfl, ?_⟩) ?_ ?_
           rotate_left
           ·
            intro w'
            go_simp
            with_reducible rfl
           rotate_left
           ·
            simp only [Act.put, List.setIfInBounds_toArray, List.set_cons_zero, List.set_cons_succ, i64_w, i32_w]
            rfl
           refine pure_ (i := 1) (N := some 26) (v := ?_) (a' := ?_) #[true,true,false,false,false,false,false,false,false,false,false] rfl rfl (any_of HT_.out (by kernel_rfl)) (fun _ _ _ h => h) (Or.inl ⟨by rfl, ?_⟩) ?_ ?_
           rotate_left
           ·
            intro w'
            go_simp
            with_reducible rfl
           rotate_left
           ·
            simp only [Act.put, List.setIfInBounds_toArray, List.set_cons_zero, List.set_cons_succ, i64_w, i32_w]
            rfl
           refine pure_ (i := 3) (N := some 28) (v := ?_) (a' := ?_) #[true,true,false,true,false,false,false,false,false,false,false] rfl rfl (any_of HT_.out (by kernel_rfl)) (fun _ _ _ h => h) (Or.inl ⟨by rfl, ?_⟩) ?_ ?_
           rotate_left
           ·
            intro w'
            go_simp
            with_reducible rfl
           rotate_left
           ·
            simp only [Act.put, List.setIfInBounds_toArray, List.set_cons_zero, List.set_cons_succ, i64_w, i32_w]
            rfl
           refine pure_ (i := 4) (N := some 29) (v := ?_) (a' := ?_) #[true,true,false,true,true,false,false,false,false,false,false] rfl rfl (any_of HT_.out (by kernel_rfl)) (fun _ _ _ h => h) (Or.inl ⟨by rfl, ?_⟩) ?_ ?_
           rotate_left
           ·
            intro w'
            go_simp
            with_reducible rfl
           rotate_left
           ·
            simp only [Act.put, List.setIfInBounds_toArray, List.set_cons_zero, List.set_cons_succ, i64_w, i32_w]
            rfl
           refine pure_ (i := 6) (N := some 31) (v := ?_) (a' := ?_) #[true,true,false,true,true,false,true,false,false,false,false] rfl rfl (any_of HT_.out (by kernel_rfl)) (fun _ _ _ h => h) (Or.inl ⟨by rfl, ?_⟩) ?_ ?_
           rotate_left
           ·
            intro w'
            go_simp
            with_reducible rfl
           rotate_left
           ·
            simp only [Act.put, List.setIfInBounds_toArray, List.set_cons_zero, List.set_cons_succ, i64_w, i32_w]
            rfl
           refine one_ (i := 2) (N := some 27) #[true,true,true,true,true,false,true,false,false,false,false] rfl rfl (one_of HT_.out (by kernel_rfl)) (by decide) (fun K hK => ?_)
           refine goes_ Tryz.func45 (by kernel_rfl) rfl #[.slice A22 ((((l0.take ((wrap64 (16 + (wrap64 (24 * (wrap64 (x13_1 + 1)))))) : Int).toNat).drop ((ji5) : Int).toNat).take 16).drop 8).length ((c0 - (ji5).toNat) - 8)] (by rfl) rfl rfl (by (try simp only [List.map_toArray, List.map_cons, List.map_nil]); first | done | (rw [show ((((l0.take ((wrap64 (16 + (wrap64 (24 * (wrap64 (x13_1 + 1)))))) : Int).toNat).drop ((ji5) : Int).toNat).take 16).drop 8).length = (16 - 8) from (by rw [List.length_drop, List.length_take]; have h_ : (16 : Int) ≤ (((l0.take ((wrap64 (16 + (wrap64 (24 * (wrap64 (x13_1 + 1)))))) : Int).toNat).drop ((ji5) : Int).toNat).length : Int) := of_decide_eq_true (by first | (with_reducible assumption) | assumption); omega)] <;> rfl) | (simp only [hji5]; rfl) | rfl | (simp only [List.length_drop, List.length_take]; rfl) | (simp only [List.length_drop, List.length_take]; rw [Nat.min_eq_left (show (wrap64 (16 + (wrap64 (24 * (wrap64 (x13_1 + 1)))))).toNat ≤ l0.length by omega)]; rfl)) ?_
           with_reducible refine (lock_get.calls k1 _ _ ((((l0.take ((wrap64 (16 + (wrap64 (24 * (wrap64 (x13_1 + 1)))))) : Int).toNat).drop ((ji5) : Int).toNat).take 16).drop 8) t265 _ ?side1 ?side2 A11.out).mono ?_
           (case side1 => repeat (first | exact (Kd.C_below HR264.out HB.out) | (with_reducible refine Kd.C_alloc ?_ _) | (with_reducible refine Kd.C_drewN ?_ _) | (with_reducible refine Kd.C_drew ?_)))
           (case side2 => exact HC264.out)
           rintro e w' ⟨rfl, ⟨nd, rfl⟩⟩
           refine ⟨_, rfl, ?_⟩
           refine hK.out _ _ trivial (fun hHeld => ?_)
           clear hK K
           refine norm_ (a' := ?_) ?_ ?_
           rotate_left
           ·
            show Act.put _ (some 27) _ = _
            simp only [Act.put, List.setIfInBounds_toArray, List.set_cons_zero, List.set_cons_succ, i64_w, i32_w]
            rfl
           refine one_ (i := 5) (N := some 30) #[true,true,true,true,true,true,true,false,false,false,false] rfl rfl (one_of HT_.out (by kernel_rfl)) (by decide) (fun K hK => ?_)
           refine goes_ Tryz.func45 (by kernel_rfl) rfl #[.slice A20 (((l0.take ((wrap64 (16 + (wrap64 (24 * (wrap64 (x13_1 + 1)))))) : Int).toNat).drop ((ji5) : Int).toNat).take 8).length (c0 - (ji5).toNat)] (by rfl) rfl rfl (by (try simp only [List.map_toArray, List.map_cons, List.map_nil]); first | done | (rw [show (((l0.take ((wrap64 (16 + (wrap64 (24 * (wrap64 (x13_1 + 1)))))) : Int).toNat).drop ((ji5) : Int).toNat).take 8).length = 8 from (by rw [List.length_take]; have h_ : (8 : Int) ≤ (((l0.take ((wrap64 (16 + (wrap64 (24 * (wrap64 (x13_1 + 1)))))) : Int).toNat).drop ((ji5) : Int).toNat).length : Int) := of_decide_eq_true (by first | (with_reducible assumption) | assumption); omega)] <;> rfl) | (simp only [hji5]; rfl) | rfl | (simp only [List.length_drop, List.length_take]; rfl) | (simp only [List.length_drop, List.length_take]; rw [Nat.min_eq_left (show (wrap64 (16 + (wrap64 (24 * (wrap64 (x13_1 + 1)))))).toNat ≤ l0.length by omega)]; rfl)) ?_
           with_reducible refine (lock_get.calls k1 _ _ (((l0.take ((wrap64 (16 + (wrap64 (24 * (wrap64 (x13_1 + 1)))))) : Int).toNat).drop ((ji5) : Int).toNat).take 8) t267 _ ?side1 ?side2 A13.out).mono ?_
           (case side1 => repeat (first | exact (Kd.C_below HR266.out (by repeat (first | (with_reducible first | exact HB.out | apply below_alloc | apply pw_below_drewN | apply below_drew1) | exact HB.out))) | (with_reducible refine Kd.C_alloc ?_ _) | (with_reducible refine Kd.C_drewN ?_ _) | (with_reducible refine Kd.C_drew ?_)))
           (case side2 => exact HC266.out)
           rintro e w' ⟨rfl, ⟨nd, rfl⟩⟩
           refine ⟨_, rfl, ?_⟩
           refine hK.out _ _ trivial (fun hHeld => ?_)
           clear hK K
           refine norm_ (a' := ?_) ?_ ?_
           rotate_left
           ·
            show Act.put _ (some 30) _ = _
            simp only [Act.put, List.setIfInBounds_toArray, List.set_cons_zero, List.set_cons_succ, i64_w, i32_w]
            rfl
           refine one_ (i := 7) (N := some 32) #[true,true,true,true,true,true,true,true,false,false,false] rfl rfl (one_of HT_.out (by kernel_rfl)) (by decide) (fun K hK => ?_)
           refine goes_ Tryz.func40 (by kernel_rfl) rfl #[.int .u64 t267, .string a2] (by rfl) rfl rfl (by (try simp only [List.map_toArray, List.map_cons, List.map_nil]); first | done | rfl | (simp only [List.length_drop, List.length_take]; rfl)) ?_
           with_reducible refine (lock_mixed.calls k1 t267 a2 t268 _ A14.out).mono ?_
           rintro e w24 ⟨rfl, hb⟩
           refine ⟨_, rfl, ?_⟩
           have n0_ := Aside0.mk (below_step (by repeat (first | (with_reducible first | exact HB.out | apply below_alloc | apply pw_below_drewN | apply below_drew1) | exact HB.out)) hb)
           clear HB
           have HB := n0_
           clear n0_
           (try clear hb)
           (try clear hb2)
           (try clear hk)
           (try clear hi)
           refine hK.out _ _ trivial (fun hHeld => ?_)
           clear hK K
           refine norm_ (a' := ?_) ?_ ?_
           rotate_left
           ·
            show Act.put _ (some 32) _ = _
            simp only [Act.put, List.setIfInBounds_toArray, List.set_cons_zero, List.set_cons_succ, i64_w, i32_w]
            rfl
           refine one_ (i := 8) (N := some 33) #[true,true,true,true,true,true,true,true,true,false,false] rfl rfl (one_of HT_.out (by kernel_rfl)) (by decide) (fun K hK => ?_)
           refine goes_ Tryz.func40 (by kernel_rfl) rfl #[.int .u64 t268, .string (⟨#[105, 110]⟩ : ByteArray)] (by rfl) rfl rfl (by (try simp only [List.map_toArray, List.map_cons, List.map_nil]); first | done | rfl | (simp only [List.length_drop, List.length_take]; rfl)) ?_
           with_reducible refine (lock_mixed.calls k1 t268 (⟨#[105, 110]⟩ : ByteArray) t269 _ A15.out).mono ?_
           rintro e w25 ⟨rfl, hb⟩
           refine ⟨_, rfl, ?_⟩
           have n0_ := Aside0.mk (below_step (by repeat (first | (with_reducible first | exact HB.out | apply below_alloc | apply pw_below_drewN | apply below_drew1) | exact HB.out)) hb)
           clear HB
           have HB := n0_
           clear n0_
           (try clear hb)
           (try clear hb2)
           (try clear hk)
           (try clear hi)
           refine hK.out _ _ trivial (fun hHeld => ?_)
           clear hK K
           refine norm_ (a' := ?_) ?_ ?_
           rotate_left
           ·
            show Act.put _ (some 33) _ = _
            simp only [Act.put, List.setIfInBounds_toArray, List.set_cons_zero, List.set_cons_succ, i64_w, i32_w]
            rfl
           refine pure_ (i := 9) (N := some 34) (v := ?_) (a' := ?_) #[true,true,true,true,true,true,true,true,true,true,false] rfl rfl (any_of HT_.out (by kernel_rfl)) (fun _ _ _ h => h) (Or.inl ⟨by rfl, ?_⟩) ?_ ?_
           rotate_left
           ·
            intro w'
            go_simp
            with_reducible rfl
           rotate_left
           ·
            simp only [Act.put, List.setIfInBounds_toArray, List.set_cons_zero, List.set_cons_succ, i64_w, i32_w]
            rfl
           refine pure_ (i := 10) (N := some 11) (v := ?_) (a' := ?_) #[true,true,true,true,true,true,true,true,true,true,true] rfl rfl (any_of HT_.out (by kernel_rfl)) (fun _ _ _ h => h) (Or.inl ⟨by rfl, ?_⟩) ?_ ?_
           rotate_left
           ·
            intro w'
            go_simp
            with_reducible rfl
           rotate_left
           ·
            simp only [Act.put, List.setIfInBounds_toArray, List.set_cons_zero, List.set_cons_succ, i64_w, i32_w]
            rfl
           refine done_ (done_of HT_.out (by kernel_rfl)) ?_
           try go_wp2
           have n0_ := Aside0.mk (below_drew1 HB.out)
           clear HB
           have HB := n0_
           clear n0_
           obtain ⟨i027, hi027, _, hsz27, _⟩ := info_parts info5
           obtain ⟨A27, hcut27, hA27, hC27⟩ := print_drop_of (P := Tryz.prog) (Value.int .u8) 0 22 5 .i64 Tryz.underlying22 hi027 hsz27 A20 (c0 - (ji5).toNat) ((l0.take ((wrap64 (16 + (wrap64 (24 * (wrap64 (x13_1 + 1)))))) : Int).toNat).drop ((ji5) : Int).toNat) 16 (by omega) (of_decide_eq_true (by first | (with_reducible assumption) | assumption)) HC263.out
           try rw [show ((l0.take ((wrap64 (16 + (wrap64 (24 * (wrap64 (x13_1 + 1)))))) : Int).toNat).drop ((ji5) : Int).toNat).length = (wrap64 (16 + (wrap64 (24 * (wrap64 (x13_1 + 1)))))).toNat - (ji5).toNat by rw [List.length_drop, List.length_take]; omega] at hcut27
           have HR271 := Aside0.mk (Kd.C_of_reads (h1 := fun _ => rfl) (hA27 _ (Kd.reads_of_C HR263.out)))
           have HC271 := Aside0.mk hC27
           clear hA27 hC27 hi027 hsz27
           refine start_ (n := 6) (S := fun w' => True) (ds := []) #[false,false,false,false,false,false] (by kernel_rfl) rfl rfl trivial (fun hHeld => ?_)
           generalize w25.drew = w26 at HB HR271 hHeld ⊢
           refine pure_ (i := 0) (N := some 35) (v := ?_) (a' := ?_) #[true,false,false,false,false,false] rfl rfl (by kernel_rfl) (fun _ _ _ h => h) (Or.inl ⟨by rfl, ?_⟩) ?_ ?_
           rotate_left
           ·
            intro w'
            go_simp
            with_reducible rfl
           rotate_left
           ·
            simp only [Act.put, List.setIfInBounds_toArray, List.set_cons_zero, List.set_cons_succ, i64_w, i32_w]
            rfl
           refine pure_ (i := 2) (N := some 37) (v := ?_) (a' := ?_) #[true,false,true,false,false,false] rfl rfl (by kernel_rfl) (fun _ _ _ h => h) (Or.inl ⟨by rfl, ?_⟩) ?_ ?_
           rotate_left
           ·
            intro w'
            go_simp
            with_reducible rfl
           rotate_left
           ·
            simp only [Act.put, List.setIfInBounds_toArray, List.set_cons_zero, List.set_cons_succ, i64_w, i32_w]
            rfl
           refine pure_ (i := 3) (N := some 38) (v := ?_) (a' := ?_) #[true,false,true,true,false,false] rfl rfl (by kernel_rfl) (fun _ _ _ h => h) (Or.inl ⟨by rfl, ?_⟩) ?_ ?_
           rotate_left
           ·
            intro w'
            go_simp
            with_reducible rfl
           rotate_left
           ·
            simp only [Act.put, List.setIfInBounds_toArray, List.set_cons_zero, List.set_cons_succ, i64_w, i32_w]
            rfl
           refine one_ (i := 1) (N := some 36) #[true,true,true,true,false,false] rfl rfl (by kernel_rfl) (by decide) (fun K hK => ?_)
           refine goes_ Tryz.func40 (by kernel_rfl) rfl #[.int .u64 (Go.bits .xor .u64 t265 t269), .string (⟨#[111, 107]⟩ : ByteArray)] (by rfl) rfl rfl (by (try simp only [List.map_toArray, List.map_cons, List.map_nil]); first | done | rfl | (simp only [List.length_drop, List.length_take]; rfl)) ?_
           with_reducible refine (lock_mixed.calls k1 (Go.bits .xor .u64 t265 t269) (⟨#[111, 107]⟩ : ByteArray) t270 _ A16.out).mono ?_
           rintro e w28 ⟨rfl, hb⟩
           refine ⟨_, rfl, ?_⟩
           have n0_ := Aside0.mk (below_step (by repeat (first | (with_reducible first | exact HB.out | apply below_alloc | apply pw_below_drewN | apply below_drew1) | exact HB.out)) hb)
           clear HB
           have HB := n0_
           clear n0_
           (try clear hb)
           (try clear hb2)
           (try clear hk)
           (try clear hi)
           refine hK.out _ _ trivial (fun hHeld => ?_)
           clear hK K
           refine norm_ (a' := ?_) ?_ ?_
           rotate_left
           ·
            show Act.put _ (some 36) _ = _
            simp only [Act.put, List.setIfInBounds_toArray, List.set_cons_zero, List.set_cons_succ, i64_w, i32_w]
            rfl
           refine one_ (i := 4) (N := some 39) #[true,true,true,true,true,false] rfl rfl (by kernel_rfl) (by decide) (fun K hK => ?_)
           refine goes_ Tryz.func45 (by kernel_rfl) rfl #[.slice A27 (((l0.take ((wrap64 (16 + (wrap64 (24 * (wrap64 (x13_1 + 1)))))) : Int).toNat).drop ((ji5) : Int).toNat).drop 16).length ((c0 - (ji5).toNat) - 16)] (by rfl) rfl rfl (by (try simp only [List.map_toArray, List.map_cons, List.map_nil]); first | done | (rw [show (((l0.take ((wrap64 (16 + (wrap64 (24 * (wrap64 (x13_1 + 1)))))) : Int).toNat).drop ((ji5) : Int).toNat).drop 16).length = (((l0.take ((wrap64 (16 + (wrap64 (24 * (wrap64 (x13_1 + 1)))))) : Int).toNat).drop ((ji5) : Int).toNat).length - 16) from List.length_drop] <;> rfl) | (simp only [hji5]; rfl) | rfl | (simp only [List.length_drop, List.length_take]; rfl) | (simp only [List.length_drop, List.length_take]; rw [Nat.min_eq_left (show (wrap64 (16 + (wrap64 (24 * (wrap64 (x13_1 + 1)))))).toNat ≤ l0.length by omega)]; rfl)) ?_
           with_reducible refine (lock_get.calls k1 _ _ (((l0.take ((wrap64 (16 + (wrap64 (24 * (wrap64 (x13_1 + 1)))))) : Int).toNat).drop ((ji5) : Int).toNat).drop 16) t272 _ ?side1 ?side2 A18.out).mono ?_
           (case side1 => repeat (first | exact (Kd.C_below HR271.out HB.out) | (with_reducible refine Kd.C_alloc ?_ _) | (with_reducible refine Kd.C_drewN ?_ _) | (with_reducible refine Kd.C_drew ?_)))
           (case side2 => exact HC271.out)
           rintro e w' ⟨rfl, ⟨nd, rfl⟩⟩
           refine ⟨_, rfl, ?_⟩
           refine hK.out _ _ trivial (fun hHeld => ?_)
           clear hK K
           refine norm_ (a' := ?_) ?_ ?_
           rotate_left
           ·
            show Act.put _ (some 39) _ = _
            simp only [Act.put, List.setIfInBounds_toArray, List.set_cons_zero, List.set_cons_succ, i64_w, i32_w]
            rfl
           refine pure_ (i := 5) (N := some 40) (v := ?_) (a' := ?_) #[true,true,true,true,true,true] rfl rfl (by kernel_rfl) (fun _ _ _ h => h) (Or.inl ⟨by rfl, ?_⟩) ?_ ?_
           rotate_left
           ·
            intro w'
            go_simp
            with_reducible rfl
           rotate_left
           ·
            simp only [Act.put, List.setIfInBounds_toArray, List.set_cons_zero, List.set_cons_succ, i64_w, i32_w]
            rfl
           refine done_ (by kernel_rfl) ?_
           try go_wp2
           go_ret3
           exact ⟨by first | rfl | (simp [errW_none, errW_some] <;> rfl) | (simp only [← hji5]; first | rfl | (simp [errW_none, errW_some] <;> rfl)) | (simp [*, errW_none, errW_some] <;> rfl), by repeat (first | (with_reducible first | exact HB.out | apply below_alloc | apply pw_below_drewN | apply below_drew1) | exact HB.out)⟩
          ·
           rw [if_neg c19] at H
           have c19b0 : (t270 == t272) = false := beq_eq_false_iff_ne.mpr c19
           have c19b1 : (t270 != t272) = true := bne_iff_ne.mpr c19
           have H' := Aside0.mk H
           clear H
           obtain ⟨i029, hi029, _, hsz29, _⟩ := info_parts info5
           obtain ⟨A29, hcut29, hA29, hC29⟩ := print_mid_of (P := Tryz.prog) (Value.int .u8) 0 22 5 .i64 .i64 Tryz.underlying22 hi029 hsz29 A0 c0 l0 (ji5) (wrap64 (16 + (wrap64 (24 * (wrap64 (x13_1 + 1)))))) (of_decide_eq_true (by first | (with_reducible assumption) | assumption)) (by first | omega | exact of_decide_eq_true (by first | (with_reducible assumption) | assumption)) (of_decide_eq_true (by first | (with_reducible assumption) | assumption)) HC0.out
           have HR263 := Aside0.mk (Kd.C_of_reads (h1 := fun _ => rfl) (hA29 _ (Kd.reads_of_C HR0.out)))
           have HC263 := Aside0.mk hC29
           clear hA29 hC29 hi029 hsz29
           try go_wp2
           have n0_ := Aside0.mk (below_drew1 HB.out)
           clear HB
           have HB := n0_
           clear n0_
           obtain ⟨i031, hi031, _, hsz31, _⟩ := info_parts info5
           obtain ⟨A31, hcut31, hA31, hC31⟩ := print_mid_of (P := Tryz.prog) (Value.int .u8) 0 22 5 .i64 .i64 Tryz.underlying22 hi031 hsz31 A29 (c0 - (ji5).toNat) ((l0.take ((wrap64 (16 + (wrap64 (24 * (wrap64 (x13_1 + 1)))))) : Int).toNat).drop ((ji5) : Int).toNat) 8 16 (by omega) (by first | omega | exact of_decide_eq_true (by first | (with_reducible assumption) | assumption)) (of_decide_eq_true (by first | (with_reducible assumption) | assumption)) HC263.out
           try rw [show ((l0.take ((wrap64 (16 + (wrap64 (24 * (wrap64 (x13_1 + 1)))))) : Int).toNat).drop ((ji5) : Int).toNat).length = (wrap64 (16 + (wrap64 (24 * (wrap64 (x13_1 + 1)))))).toNat - (ji5).toNat by rw [List.length_drop, List.length_take]; omega] at hcut31
           have HR264 := Aside0.mk (Kd.C_of_reads (h1 := fun _ => rfl) (hA31 _ (Kd.reads_of_C HR263.out)))
           have HC264 := Aside0.mk hC31
           clear hA31 hC31 hi031 hsz31
           obtain ⟨i032, hi032, _, hsz32, _⟩ := info_parts info5
           obtain ⟨hcut32, hA32, hC32⟩ := print_take_of (P := Tryz.prog) (Value.int .u8) 0 22 5 .i64 Tryz.underlying22 hi032 hsz32 A29 (c0 - (ji5).toNat) ((l0.take ((wrap64 (16 + (wrap64 (24 * (wrap64 (x13_1 + 1)))))) : Int).toNat).drop ((ji5) : Int).toNat) 8 (by omega) (of_decide_eq_true (by first | (with_reducible assumption) | assumption)) HC263.out
           try rw [show ((l0.take ((wrap64 (16 + (wrap64 (24 * (wrap64 (x13_1 + 1)))))) : Int).toNat).drop ((ji5) : Int).toNat).length = (wrap64 (16 + (wrap64 (24 * (wrap64 (x13_1 + 1)))))).toNat - (ji5).toNat by rw [List.length_drop, List.length_take]; omega] at hcut32
           have HR266 := Aside0.mk (Kd.C_of_reads (h1 := fun _ => rfl) (hA32 _ (Kd.reads_of_C HR263.out)))
           have HC266 := Aside0.mk hC32
           clear hA32 hC32 hi032 hsz32
           refine start_ (n := 11) (S := fun w' => True) (ds := []) #[false,false,false,false,false,false,false,false,false,false,false] (by kernel_rfl) rfl rfl trivial (fun hHeld => ?_); refine with_tabW lock_open.tab5 lock_open.bits5 (fun HT_ HW_ => ?_)
           generalize wr.drew = w30 at HB HR264 HR266 hHeld ⊢
           refine pure_ (i := 0) (N := some 25) (v := ?_) (a' := ?_) #[true,false,false,false,false,false,false,false,false,false,false] rfl rfl (any_of HT_.out (by kernel_rfl)) (fun _ _ _ h => h) (Or.inl ⟨by rfl, ?_⟩) ?_ ?_
           rotate_left
           ·
            intro w'
            go_simp
            with_reducible rfl
           rotate_left
           ·
            simp only [Act.put, List.setIfInBounds_toArray, List.set_cons_zero, List.set_cons_succ, i64_w, i32_w]
            rfl
           refine pure_ (i := 1) (N := some 26) (v := ?_) (a' := ?_) #[true,true,false,false,false,false,false,false,false,false,false] rfl rfl (any_of HT_.out (by kernel_rfl)) (fun _ _ _ h => h) (Or.inl ⟨by rfl, ?_⟩) ?_ ?_
           rotate_left
           ·
            intro w'
            go_simp
            with_reducible rfl
           rotate_left
           ·
            simp only [Act.put, List.setIfInBounds_toArray, List.set_cons_zero, List.set_cons_succ, i64_w, i32_w]
            rfl
           refine pure_ (i := 3) (N := some 28) (v := ?_) (a' := ?_) #[true,true,false,true,false,false,false,false,false,false,false] rfl rfl (any_of HT_.out (by kernel_rfl)) (fun _ _ _ h => h) (Or.inl ⟨by rfl, ?_⟩) ?_ ?_
           rotate_left
           ·
            intro w'
            go_simp
            with_reducible rfl
           rotate_left
           ·
            simp only [Act.put, List.setIfInBounds_toArray, List.set_cons_zero, List.set_cons_succ, i64_w, i32_w]
            rfl
           refine pure_ (i := 4) (N := some 29) (v := ?_) (a' := ?_) #[true,true,false,true,true,false,false,false,false,false,false] rfl rfl (any_of HT_.out (by kernel_rfl)) (fun _ _ _ h => h) (Or.inl ⟨by rfl, ?_⟩) ?_ ?_
           rotate_left
           ·
            intro w'
            go_simp
            with_reducible rfl
           rotate_left
           ·
            simp only [Act.put, List.setIfInBounds_toArray, List.set_cons_zero, List.set_cons_succ, i64_w, i32_w]
            rfl
           refine pure_ (i := 6) (N := some 31) (v := ?_) (a' := ?_) #[true,true,false,true,true,false,true,false,false,false,false] rfl rfl (any_of HT_.out (by kernel_rfl)) (fun _ _ _ h => h) (Or.inl ⟨by rfl, ?_⟩) ?_ ?_
           rotate_left
           ·
            intro w'
            go_simp
            with_reducible rfl
           rotate_left
           ·
            simp only [Act.put, List.setIfInBounds_toArray, List.set_cons_zero, List.set_cons_succ, i64_w, i32_w]
            rfl
           refine one_ (i := 2) (N := some 27) #[true,true,true,true,true,false,true,false,false,false,false] rfl rfl (one_of HT_.out (by kernel_rfl)) (by decide) (fun K hK => ?_)
           refine goes_ Tryz.func45 (by kernel_rfl) rfl #[.slice A31 ((((l0.take ((wrap64 (16 + (wrap64 (24 * (wrap64 (x13_1 + 1)))))) : Int).toNat).drop ((ji5) : Int).toNat).take 16).drop 8).length ((c0 - (ji5).toNat) - 8)] (by rfl) rfl rfl (by (try simp only [List.map_toArray, List.map_cons, List.map_nil]); first | done | (rw [show ((((l0.take ((wrap64 (16 + (wrap64 (24 * (wrap64 (x13_1 + 1)))))) : Int).toNat).drop ((ji5) : Int).toNat).take 16).drop 8).length = (16 - 8) from (by rw [List.length_drop, List.length_take]; have h_ : (16 : Int) ≤ (((l0.take ((wrap64 (16 + (wrap64 (24 * (wrap64 (x13_1 + 1)))))) : Int).toNat).drop ((ji5) : Int).toNat).length : Int) := of_decide_eq_true (by first | (with_reducible assumption) | assumption); omega)] <;> rfl) | (simp only [hji5]; rfl) | rfl | (simp only [List.length_drop, List.length_take]; rfl) | (simp only [List.length_drop, List.length_take]; rw [Nat.min_eq_left (show (wrap64 (16 + (wrap64 (24 * (wrap64 (x13_1 + 1)))))).toNat ≤ l0.length by omega)]; rfl)) ?_
           with_reducible refine (lock_get.calls k1 _ _ ((((l0.take ((wrap64 (16 + (wrap64 (24 * (wrap64 (x13_1 + 1)))))) : Int).toNat).drop ((ji5) : Int).toNat).take 16).drop 8) t265 _ ?side1 ?side2 A11.out).mono ?_
           (case side1 => repeat (first | exact (Kd.C_below HR264.out HB.out) | (with_reducible refine Kd.C_alloc ?_ _) | (with_reducible refine Kd.C_drewN ?_ _) | (with_reducible refine Kd.C_drew ?_)))
           (case side2 => exact HC264.out)
           rintro e w' ⟨rfl, ⟨nd, rfl⟩⟩
           refine ⟨_, rfl, ?_⟩
           refine hK.out _ _ trivial (fun hHeld => ?_)
           clear hK K
           refine norm_ (a' := ?_) ?_ ?_
           rotate_left
           ·
            show Act.put _ (some 27) _ = _
            simp only [Act.put, List.setIfInBounds_toArray, List.set_cons_zero, List.set_cons_succ, i64_w, i32_w]
            rfl
           refine one_ (i := 5) (N := some 30) #[true,true,true,true,true,true,true,false,false,false,false] rfl rfl (one_of HT_.out (by kernel_rfl)) (by decide) (fun K hK => ?_)
           refine goes_ Tryz.func45 (by kernel_rfl) rfl #[.slice A29 (((l0.take ((wrap64 (16 + (wrap64 (24 * (wrap64 (x13_1 + 1)))))) : Int).toNat).drop ((ji5) : Int).toNat).take 8).length (c0 - (ji5).toNat)] (by rfl) rfl rfl (by (try simp only [List.map_toArray, List.map_cons, List.map_nil]); first | done | (rw [show (((l0.take ((wrap64 (16 + (wrap64 (24 * (wrap64 (x13_1 + 1)))))) : Int).toNat).drop ((ji5) : Int).toNat).take 8).length = 8 from (by rw [List.length_take]; have h_ : (8 : Int) ≤ (((l0.take ((wrap64 (16 + (wrap64 (24 * (wrap64 (x13_1 + 1)))))) : Int).toNat).drop ((ji5) : Int).toNat).length : Int) := of_decide_eq_true (by first | (with_reducible assumption) | assumption); omega)] <;> rfl) | (simp only [hji5]; rfl) | rfl | (simp only [List.length_drop, List.length_take]; rfl) | (simp only [List.length_drop, List.length_take]; rw [Nat.min_eq_left (show (wrap64 (16 + (wrap64 (24 * (wrap64 (x13_1 + 1)))))).toNat ≤ l0.length by omega)]; rfl)) ?_
           with_reducible refine (lock_get.calls k1 _ _ (((l0.take ((wrap64 (16 + (wrap64 (24 * (wrap64 (x13_1 + 1)))))) : Int).toNat).drop ((ji5) : Int).toNat).take 8) t267 _ ?side1 ?side2 A13.out).mono ?_
           (case side1 => repeat (first | exact (Kd.C_below HR266.out (by repeat (first | (with_reducible first | exact HB.out | apply below_alloc | apply pw_below_drewN | apply below_drew1) | exact HB.out))) | (with_reducible refine Kd.C_alloc ?_ _) | (with_reducible refine Kd.C_drewN ?_ _) | (with_reducible refine Kd.C_drew ?_)))
           (case side2 => exact HC266.out)
           rintro e w' ⟨rfl, ⟨nd, rfl⟩⟩
           refine ⟨_, rfl, ?_⟩
           refine hK.out _ _ trivial (fun hHeld => ?_)
           clear hK K
           refine norm_ (a' := ?_) ?_ ?_
           rotate_left
           ·
            show Act.put _ (some 30) _ = _
            simp only [Act.put, List.setIfInBounds_toArray, List.set_cons_zero, List.set_cons_succ, i64_w, i32_w]
            rfl
           refine one_ (i := 7) (N := some 32) #[true,true,true,true,true,true,true,true,false,false,false] rfl rfl (one_of HT_.out (by kernel_rfl)) (by decide) (fun K hK => ?_)
           refine goes_ Tryz.func40 (by kernel_rfl) rfl #[.int .u64 t267, .string a2] (by rfl) rfl rfl (by (try simp only [List.map_toArray, List.map_cons, List.map_nil]); first | done | rfl | (simp only [List.length_drop, List.length_take]; rfl)) ?_
           with_reducible refine (lock_mixed.calls k1 t267 a2 t268 _ A14.out).mono ?_
           rintro e w33 ⟨rfl, hb⟩
           refine ⟨_, rfl, ?_⟩
           have n0_ := Aside0.mk (below_step (by repeat (first | (with_reducible first | exact HB.out | apply below_alloc | apply pw_below_drewN | apply below_drew1) | exact HB.out)) hb)
           clear HB
           have HB := n0_
           clear n0_
           (try clear hb)
           (try clear hb2)
           (try clear hk)
           (try clear hi)
           refine hK.out _ _ trivial (fun hHeld => ?_)
           clear hK K
           refine norm_ (a' := ?_) ?_ ?_
           rotate_left
           ·
            show Act.put _ (some 32) _ = _
            simp only [Act.put, List.setIfInBounds_toArray, List.set_cons_zero, List.set_cons_succ, i64_w, i32_w]
            rfl
           refine one_ (i := 8) (N := some 33) #[true,true,true,true,true,true,true,true,true,false,false] rfl rfl (one_of HT_.out (by kernel_rfl)) (by decide) (fun K hK => ?_)
           refine goes_ Tryz.func40 (by kernel_rfl) rfl #[.int .u64 t268, .string (⟨#[105, 110]⟩ : ByteArray)] (by rfl) rfl rfl (by (try simp only [List.map_toArray, List.map_cons, List.map_nil]); first | done | rfl | (simp only [List.length_drop, List.length_take]; rfl)) ?_
           with_reducible refine (lock_mixed.calls k1 t268 (⟨#[105, 110]⟩ : ByteArray) t269 _ A15.out).mono ?_
           rintro e w34 ⟨rfl, hb⟩
           refine ⟨_, rfl, ?_⟩
           have n0_ := Aside0.mk (below_step (by repeat (first | (with_reducible first | exact HB.out | apply below_alloc | apply pw_below_drewN | apply below_drew1) | exact HB.out)) hb)
           clear HB
           have HB := n0_
           clear n0_
           (try clear hb)
           (try clear hb2)
           (try clear hk)
           (try clear hi)
           refine hK.out _ _ trivial (fun hHeld => ?_)
           clear hK K
           refine norm_ (a' := ?_) ?_ ?_
           rotate_left
           ·
            show Act.put _ (some 33) _ = _
            simp only [Act.put, List.setIfInBounds_toArray, List.set_cons_zero, List.set_cons_succ, i64_w, i32_w]
            rfl
           refine pure_ (i := 9) (N := some 34) (v := ?_) (a' := ?_) #[true,true,true,true,true,true,true,true,true,true,false] rfl rfl (any_of HT_.out (by kernel_rfl)) (fun _ _ _ h => h) (Or.inl ⟨by rfl, ?_⟩) ?_ ?_
           rotate_left
           ·
            intro w'
            go_simp
            with_reducible rfl
           rotate_left
           ·
            simp only [Act.put, List.setIfInBounds_toArray, List.set_cons_zero, List.set_cons_succ, i64_w, i32_w]
            rfl
           refine pure_ (i := 10) (N := some 11) (v := ?_) (a' := ?_) #[true,true,true,true,true,true,true,true,true,true,true] rfl rfl (any_of HT_.out (by kernel_rfl)) (fun _ _ _ h => h) (Or.inl ⟨by rfl, ?_⟩) ?_ ?_
           rotate_left
           ·
            intro w'
            go_simp
            with_reducible rfl
           rotate_left
           ·
            simp only [Act.put, List.setIfInBounds_toArray, List.set_cons_zero, List.set_cons_succ, i64_w, i32_w]
            rfl
           refine done_ (done_of HT_.out (by kernel_rfl)) ?_
           try go_wp2
           have n0_ := Aside0.mk (below_drew1 HB.out)
           clear HB
           have HB := n0_
           clear n0_
           obtain ⟨i036, hi036, _, hsz36, _⟩ := info_parts info5
           obtain ⟨A36, hcut36, hA36, hC36⟩ := print_drop_of (P := Tryz.prog) (Value.int .u8) 0 22 5 .i64 Tryz.underlying22 hi036 hsz36 A29 (c0 - (ji5).toNat) ((l0.take ((wrap64 (16 + (wrap64 (24 * (wrap64 (x13_1 + 1)))))) : Int).toNat).drop ((ji5) : Int).toNat) 16 (by omega) (of_decide_eq_true (by first | (with_reducible assumption) | assumption)) HC263.out
           try rw [show ((l0.take ((wrap64 (16 + (wrap64 (24 * (wrap64 (x13_1 + 1)))))) : Int).toNat).drop ((ji5) : Int).toNat).length = (wrap64 (16 + (wrap64 (24 * (wrap64 (x13_1 + 1)))))).toNat - (ji5).toNat by rw [List.length_drop, List.length_take]; omega] at hcut36
           have HR271 := Aside0.mk (Kd.C_of_reads (h1 := fun _ => rfl) (hA36 _ (Kd.reads_of_C HR263.out)))
           have HC271 := Aside0.mk hC36
           clear hA36 hC36 hi036 hsz36
           refine start_ (n := 6) (S := fun w' => True) (ds := []) #[false,false,false,false,false,false] (by kernel_rfl) rfl rfl trivial (fun hHeld => ?_)
           generalize w34.drew = w35 at HB HR271 hHeld ⊢
           refine pure_ (i := 0) (N := some 35) (v := ?_) (a' := ?_) #[true,false,false,false,false,false] rfl rfl (by kernel_rfl) (fun _ _ _ h => h) (Or.inl ⟨by rfl, ?_⟩) ?_ ?_
           rotate_left
           ·
            intro w'
            go_simp
            with_reducible rfl
           rotate_left
           ·
            simp only [Act.put, List.setIfInBounds_toArray, List.set_cons_zero, List.set_cons_succ, i64_w, i32_w]
            rfl
           refine pure_ (i := 2) (N := some 37) (v := ?_) (a' := ?_) #[true,false,true,false,false,false] rfl rfl (by kernel_rfl) (fun _ _ _ h => h) (Or.inl ⟨by rfl, ?_⟩) ?_ ?_
           rotate_left
           ·
            intro w'
            go_simp
            with_reducible rfl
           rotate_left
           ·
            simp only [Act.put, List.setIfInBounds_toArray, List.set_cons_zero, List.set_cons_succ, i64_w, i32_w]
            rfl
           refine pure_ (i := 3) (N := some 38) (v := ?_) (a' := ?_) #[true,false,true,true,false,false] rfl rfl (by kernel_rfl) (fun _ _ _ h => h) (Or.inl ⟨by rfl, ?_⟩) ?_ ?_
           rotate_left
           ·
            intro w'
            go_simp
            with_reducible rfl
           rotate_left
           ·
            simp only [Act.put, List.setIfInBounds_toArray, List.set_cons_zero, List.set_cons_succ, i64_w, i32_w]
            rfl
           refine one_ (i := 1) (N := some 36) #[true,true,true,true,false,false] rfl rfl (by kernel_rfl) (by decide) (fun K hK => ?_)
           refine goes_ Tryz.func40 (by kernel_rfl) rfl #[.int .u64 (Go.bits .xor .u64 t265 t269), .string (⟨#[111, 107]⟩ : ByteArray)] (by rfl) rfl rfl (by (try simp only [List.map_toArray, List.map_cons, List.map_nil]); first | done | rfl | (simp only [List.length_drop, List.length_take]; rfl)) ?_
           with_reducible refine (lock_mixed.calls k1 (Go.bits .xor .u64 t265 t269) (⟨#[111, 107]⟩ : ByteArray) t270 _ A16.out).mono ?_
           rintro e w37 ⟨rfl, hb⟩
           refine ⟨_, rfl, ?_⟩
           have n0_ := Aside0.mk (below_step (by repeat (first | (with_reducible first | exact HB.out | apply below_alloc | apply pw_below_drewN | apply below_drew1) | exact HB.out)) hb)
           clear HB
           have HB := n0_
           clear n0_
           (try clear hb)
           (try clear hb2)
           (try clear hk)
           (try clear hi)
           refine hK.out _ _ trivial (fun hHeld => ?_)
           clear hK K
           refine norm_ (a' := ?_) ?_ ?_
           rotate_left
           ·
            show Act.put _ (some 36) _ = _
            simp only [Act.put, List.setIfInBounds_toArray, List.set_cons_zero, List.set_cons_succ, i64_w, i32_w]
            rfl
           refine one_ (i := 4) (N := some 39) #[true,true,true,true,true,false] rfl rfl (by kernel_rfl) (by decide) (fun K hK => ?_)
           refine goes_ Tryz.func45 (by kernel_rfl) rfl #[.slice A36 (((l0.take ((wrap64 (16 + (wrap64 (24 * (wrap64 (x13_1 + 1)))))) : Int).toNat).drop ((ji5) : Int).toNat).drop 16).length ((c0 - (ji5).toNat) - 16)] (by rfl) rfl rfl (by (try simp only [List.map_toArray, List.map_cons, List.map_nil]); first | done | (rw [show (((l0.take ((wrap64 (16 + (wrap64 (24 * (wrap64 (x13_1 + 1)))))) : Int).toNat).drop ((ji5) : Int).toNat).drop 16).length = (((l0.take ((wrap64 (16 + (wrap64 (24 * (wrap64 (x13_1 + 1)))))) : Int).toNat).drop ((ji5) : Int).toNat).length - 16) from List.length_drop] <;> rfl) | (simp only [hji5]; rfl) | rfl | (simp only [List.length_drop, List.length_take]; rfl) | (simp only [List.length_drop, List.length_take]; rw [Nat.min_eq_left (show (wrap64 (16 + (wrap64 (24 * (wrap64 (x13_1 + 1)))))).toNat ≤ l0.length by omega)]; rfl)) ?_
           with_reducible refine (lock_get.calls k1 _ _ (((l0.take ((wrap64 (16 + (wrap64 (24 * (wrap64 (x13_1 + 1)))))) : Int).toNat).drop ((ji5) : Int).toNat).drop 16) t272 _ ?side1 ?side2 A18.out).mono ?_
           (case side1 => repeat (first | exact (Kd.C_below HR271.out HB.out) | (with_reducible refine Kd.C_alloc ?_ _) | (with_reducible refine Kd.C_drewN ?_ _) | (with_reducible refine Kd.C_drew ?_)))
           (case side2 => exact HC271.out)
           rintro e w' ⟨rfl, ⟨nd, rfl⟩⟩
           refine ⟨_, rfl, ?_⟩
           refine hK.out _ _ trivial (fun hHeld => ?_)
           clear hK K
           refine norm_ (a' := ?_) ?_ ?_
           rotate_left
           ·
            show Act.put _ (some 39) _ = _
            simp only [Act.put, List.setIfInBounds_toArray, List.set_cons_zero, List.set_cons_succ, i64_w, i32_w]
            rfl
           refine pure_ (i := 5) (N := some 40) (v := ?_) (a' := ?_) #[true,true,true,true,true,true] rfl rfl (by kernel_rfl) (fun _ _ _ h => h) (Or.inl ⟨by rfl, ?_⟩) ?_ ?_
           rotate_left
           ·
            intro w'
            go_simp
            with_reducible rfl
           rotate_left
           ·
            simp only [Act.put, List.setIfInBounds_toArray, List.set_cons_zero, List.set_cons_succ, i64_w, i32_w]
            rfl
           refine done_ (by kernel_rfl) ?_
           try go_wp2
           go_roundg k1
           case measure => have := HK1.out; omega
           case rel => exact ⟨(wrap64 (x13_1 + 1)), (by first | rfl | (simp; done) | (simp [*]; done)), (by first | exact H' | (simp only [hji5]; exact H')), ⟨by have := HK1.out; omega⟩, ⟨by repeat (first | (with_reducible first | exact HB.out | apply below_alloc | apply pw_below_drewN | apply below_drew1) | exact HB.out)⟩⟩
         ·
          rw [if_neg c12] at H
          exact absurd H (by simp)
        ·
         rw [if_neg c10] at H
         exact absurd H (by simp)
       ·
        rw [if_neg c9] at H
        exact absurd H (by simp)
      ·
       rw [if_neg c8] at H
       exact absurd H (by simp)
     ·
      rw [if_neg c7] at H
      exact absurd H (by simp)
    ·
     rw [if_neg c6] at H
     exact absurd H (by simp)
   ·
    rw [if_neg c4] at H
    have c4b0 : decide (x13_1 < a1) = false := decide_eq_false c4
    clear c4
    simp only [Option.some.injEq, Prod.mk.injEq] at H
    obtain ⟨rfl, rfl, rfl⟩ := H
    go_wp2
    go_ret3
    exact ⟨by first | rfl | (simp [errW_none, errW_some] <;> rfl) | (simp [*, errW_none, errW_some] <;> rfl), by repeat (first | (with_reducible first | exact HB.out | apply below_alloc | apply pw_below_drewN | apply below_drew1) | exact HB.out)⟩
def stringslite_HasPrefix.f (a0 : ByteArray) (a1 : ByteArray) : Option (Bool) := if (a0.size : Int) ≥ (a1.size : Int) then (if 0 ≤ (a1.size : Int) then (if (a1.size : Int) ≤ (a0.size : Int) then (some ((a0.extract 0 ((a1.size : Int) : Int).toNat).toList == a1.toList)) else (none)) else (none)) else (some false)
set_option maxHeartbeats 8000000 in
set_option maxRecDepth 100000 in
theorem stringslite_HasPrefix.calls (a0 : ByteArray) (a1 : ByteArray) (r : Bool) (w : World) (h : stringslite_HasPrefix.f a0 a1 = some r) :
  Calls Tryz.prog 46 #[.string a0, .string a1] w fun e w' => e = .returned (.bool r) ∧ Drawn0 w w' := by
 have H : (if (a0.size : Int) ≥ (a1.size : Int) then (if 0 ≤ (a1.size : Int) then (if (a1.size : Int) ≤ (a0.size : Int) then (some ((a0.extract 0 ((a1.size : Int) : Int).toNat).toList == a1.toList)) else (none)) else (none)) else (some false)) = some r := h
 clear h
 by_cases c3 : (a0.size : Int) ≥ (a1.size : Int)
 ·
  rw [if_pos c3] at H
  have c3b0 : decide ((a1.size : Int) ≤ (a0.size : Int)) = true := decide_eq_true c3
  have c3b1 : decide (a1.size ≤ a0.size) = true := decide_eq_true (Int.ofNat_le.mp c3)
  clear c3
  by_cases c4 : 0 ≤ (a1.size : Int)
  ·
   rw [if_pos c4] at H
   have c4b0 := eq_true c4
   have c4b1 : decide (0 ≤ (a1.size : Int)) = true := decide_eq_true c4
   clear c4
   by_cases c5 : (a1.size : Int) ≤ (a0.size : Int)
   ·
    rw [if_pos c5] at H
    have c5b0 := eq_true c5
    have c5b1 : decide ((a1.size : Int) ≤ (a0.size : Int)) = true := decide_eq_true c5
    clear c5
    obtain rfl := Option.some.inj H
    go_enter Tryz.func46, Tryz.ntmps46
    go_wp2
    go_ret
    exact ⟨by first | rfl | (simp; done) | (simp [*]; done), by repeat (first | exact Drawn0.refl _ | apply Drawn0.step)⟩
   ·
    rw [if_neg c5] at H
    exact absurd H (by simp)
  ·
   rw [if_neg c4] at H
   exact absurd H (by simp)
 ·
  rw [if_neg c3] at H
  have c3b0 : decide ((a1.size : Int) ≤ (a0.size : Int)) = false := decide_eq_false c3
  have c3b1 : decide (a1.size ≤ a0.size) = false := decide_eq_false (fun h => c3 (Int.ofNat_le.mpr h))
  clear c3
  obtain rfl := Option.some.inj H
  go_enter Tryz.func46, Tryz.ntmps46
  go_wp2
  go_ret
  exact ⟨by first | rfl | (simp; done) | (simp [*]; done), by repeat (first | exact Drawn0.refl _ | apply Drawn0.step)⟩
def strings_HasPrefix.f (a0 : ByteArray) (a1 : ByteArray) : Option (Bool) := (stringslite_HasPrefix.f a0 a1).bind fun t273 => (some t273)
set_option maxHeartbeats 8000000 in
set_option maxRecDepth 100000 in
theorem strings_HasPrefix.calls (a0 : ByteArray) (a1 : ByteArray) (r : Bool) (w : World) (h : strings_HasPrefix.f a0 a1 = some r) :
  Calls Tryz.prog 25 #[.string a0, .string a1] w fun e w' => e = .returned (.bool r) ∧ Drawn0 w w' := by
 have H : ((stringslite_HasPrefix.f a0 a1).bind fun t273 => (some t273)) = some r := h
 clear h
 replace H := Option.bind_eq_some_iff.mp H
 obtain ⟨t273, A30, H⟩ := H
 replace H : (some t273) = some r := H
 have A3 := Aside0.mk A30
 clear A30
 obtain rfl := Option.some.inj H
 go_enter Tryz.func25, Tryz.ntmps25
 go_wp2_with (first | ((with_reducible refine gate_callee (f := 46) rfl ?_); refine goesL_ (some 7) rfl rfl Tryz.func46 (by kernel_rfl) rfl #[.string a0, .string a1] rfl (by (try simp only [List.map_toArray, List.map_cons, List.map_nil]); first | done | rfl | (simp only [List.length_drop, List.length_take]; rfl)) ?_; (with_reducible refine (stringslite_HasPrefix.calls a0 a1 t273 _ A3.out).mono ?_); rintro e w' ⟨rfl, ⟨nd, rfl⟩⟩; refine ⟨_, rfl, ?_⟩))
 go_ret
 exact ⟨by first | rfl | (simp; done) | (simp [*]; done), by repeat (first | exact Drawn0.refl _ | apply Drawn0.step)⟩
-- import Derived.Shelf.Strings.Repeat
section
open Go.Shelf Go.RowKit Go.Lib Go.Proofs
def repeatS_ren : Go.Shelf.Ren := ⟨fun | 105 => 47 | 212 => 56 | 99 => 25 | 165 => 57 | 166 => 58 | 170 => 59 | 169 => 60 | 263 => 66 | 264 => 67 | 206 => 46 | 240 => 68 | 241 => 69 | 276 => 84 | 277 => 85 | n => n, fun | 9 => 9 | 3 => 3 | 4 => 4 | 20 => 20 | 0 => 0 | 46 => 90 | 109 => 96 | 5 => 5 | 72 => 100 | 76 => 104 | 51 => 112 | 146 => 113 | 53 => 43 | 148 => 115 | 70 => 98 | 37 => 22 | 75 => 103 | 127 => 117 | 164 => 130 | 80 => 106 | n => n, fun | n => n⟩
theorem repeatS : Go.Proofs.Lays.n105 Tryz.prog repeatS_ren := {
 mixed := by kernel_rfl
 f99 := Tryz.func25.trans (congrArg some (by kernel_rfl))
 f105 := Tryz.func47.trans (congrArg some (by kernel_rfl))
 f165 := Tryz.func57.trans (congrArg some (by kernel_rfl))
 f166 := Tryz.func58.trans (congrArg some (by kernel_rfl))
 f169 := Tryz.func60.trans (congrArg some (by kernel_rfl))
 f170 := Tryz.func59.trans (congrArg some (by kernel_rfl))
 f206 := Tryz.func46.trans (congrArg some (by kernel_rfl))
 f212 := Tryz.func56.trans (congrArg some (by kernel_rfl))
 f240 := Tryz.func68.trans (congrArg some (by kernel_rfl))
 f241 := Tryz.func69.trans (congrArg some (by kernel_rfl))
 f263 := Tryz.func66.trans (congrArg some (by kernel_rfl))
 f264 := Tryz.func67.trans (congrArg some (by kernel_rfl))
 f276 := Tryz.func84.trans (congrArg some (by kernel_rfl))
 f277 := Tryz.func85.trans (congrArg some (by kernel_rfl))
 t0 := Tryz.underlying0
 a0 := Tryz.isAgg0
 z0 := Tryz.sizeOf0
 v0 := Tryz.zeroValue0
 t3 := Tryz.underlying3
 a3 := Tryz.isAgg3
 z3 := Tryz.sizeOf3
 v3 := Tryz.zeroValue3
 t4 := Tryz.underlying4
 a4 := Tryz.isAgg4
 z4 := Tryz.sizeOf4
 v4 := Tryz.zeroValue4
 t5 := Tryz.underlying5
 a5 := Tryz.isAgg5
 z5 := Tryz.sizeOf5
 v5 := Tryz.zeroValue5
 t9 := Tryz.underlying9
 a9 := Tryz.isAgg9
 z9 := Tryz.sizeOf9
 v9 := Tryz.zeroValue9
 t20 := Tryz.underlying20
 a20 := Tryz.isAgg20
 z20 := Tryz.sizeOf20
 v20 := Tryz.zeroValue20
 t37 := Tryz.underlying22
 a37 := Tryz.isAgg22
 z37 := Tryz.sizeOf22
 v37 := Tryz.zeroValue22
 t46 := Tryz.underlying90
 a46 := Tryz.isAgg90
 z46 := Tryz.sizeOf90
 v46 := Tryz.zeroValue90
 t51 := Tryz.underlying112
 a51 := Tryz.isAgg112
 z51 := Tryz.sizeOf112
 v51 := Tryz.zeroValue112
 t53 := Tryz.underlying43
 a53 := Tryz.isAgg43
 z53 := Tryz.sizeOf43
 v53 := Tryz.zeroValue43
 t70 := Tryz.underlying98
 a70 := Tryz.isAgg98
 z70 := Tryz.sizeOf98
 v70 := Tryz.zeroValue98
 t72 := Tryz.underlying100
 a72 := Tryz.isAgg100
 z72 := Tryz.sizeOf100
 v72 := Tryz.zeroValue100
 t75 := Tryz.underlying103
 a75 := Tryz.isAgg103
 z75 := Tryz.sizeOf103
 v75 := Tryz.zeroValue103
 t76 := Tryz.underlying104
 a76 := Tryz.isAgg104
 z76 := Tryz.sizeOf104
 v76 := Tryz.zeroValue104
 t109 := Tryz.underlying96
 a109 := Tryz.isAgg96
 z109 := Tryz.sizeOf96
 v109 := Tryz.zeroValue96
 t127 := Tryz.underlying117
 a127 := Tryz.isAgg117
 z127 := Tryz.sizeOf117
 v127 := Tryz.zeroValue117
 t146 := Tryz.underlying113
 a146 := Tryz.isAgg113
 z146 := Tryz.sizeOf113
 v146 := Tryz.zeroValue113
 t148 := Tryz.underlying115
 a148 := Tryz.isAgg115
 z148 := Tryz.sizeOf115
 v148 := Tryz.zeroValue115
 t164 := Tryz.underlying130
 a164 := Tryz.isAgg130
 z164 := Tryz.sizeOf130
 v164 := Tryz.zeroValue130 }
theorem repeatS_extra : Builder.Extra Tryz.prog repeatS_ren := {
 sizeBuilder := by kernel_rfl
 liesBuilder := by kernel_rfl
 t5 := Tryz.underlying5
 a5 := Tryz.isAgg5
 z5 := Tryz.sizeOf5
 v5 := Tryz.zeroValue5
 infoByte := by kernel_rfl
 cellsByte := by kernel_rfl
 sizeByte := by kernel_rfl
 neB5 := by decide }
end
/-- so many copies of a string, within what one allocation may take -/
def strings_Repeat.f (a0 : ByteArray) (a1 : Int) : Option (ByteArray) := if 0 ≤ a1 ∧ a1 ≤ 9223372036854775807 ∧ a0.size * a1.toNat ≤ 140737488355328 then some ⟨(Go.Lib.repeatL a0.data.toList a1.toNat).toArray⟩ else none
theorem strings_Repeat.calls (a0 : ByteArray) (a1 : Int) (r : ByteArray) (w : World) (h : strings_Repeat.f a0 a1 = some r) :
  Calls Tryz.prog 47 #[.string a0, .int .i64 a1] w fun e w' => e = .returned (.string r) ∧ Below w.heap.size w w' := by
 unfold strings_Repeat.f at h
 split at h
 ·
  rename_i hh
  obtain ⟨h0, h1, h2⟩ := hh
  obtain rfl := Option.some.inj h
  have e : (a1.toNat : Int) = a1 := Int.toNat_of_nonneg h0
  have z := Go.Proofs.Any.strings_Repeat (P := Tryz.prog) repeatS repeatS_extra a0 a1.toNat w (by omega) h2
  rw [e] at z
  exact z
 · cases h
def wrackref1_Filled.f (a0 : ByteArray) (a1 : Int) : Option (ByteArray) := (strings_Repeat.f (⟨#[0]⟩ : ByteArray) (mx 0 (wrap64 (a1 - (a0.size : Int))))).bind fun t274 => (if a0.size + t274.size ≤ 9223372036854775807 then (some (a0 ++ t274)) else (none))
set_option maxHeartbeats 8000000 in
set_option maxRecDepth 100000 in
theorem wrackref1_Filled.calls (a0 : ByteArray) (a1 : Int) (r : ByteArray) (w : World) (h : wrackref1_Filled.f a0 a1 = some r) :
  Calls Tryz.prog 26 #[.string a0, .int .i64 a1] w fun e w' => e = .returned (.string r) ∧ Below w.heap.size w w' := by
 have HB := Aside0.mk (Below.refl w.heap.size w)
 have H : ((strings_Repeat.f (⟨#[0]⟩ : ByteArray) (mx 0 (wrap64 (a1 - (a0.size : Int))))).bind fun t274 => (if a0.size + t274.size ≤ 9223372036854775807 then (some (a0 ++ t274)) else (none))) = some r := h
 clear h
 obtain ⟨ji3, hji3⟩ : ∃ j_ : Int, (mx 0 (wrap64 (a1 - (a0.size : Int)))) = j_ := ⟨_, rfl⟩
 replace H : ((strings_Repeat.f (⟨#[0]⟩ : ByteArray) (ji3)).bind fun t274 => (if a0.size + t274.size ≤ 9223372036854775807 then (some (a0 ++ t274)) else (none))) = some r := by first | (rw [hji3] at H; exact H) | (simp only [hji3] at H ⊢; exact H)
 (try (have hji3l : 0 ≤ ji3 := by (rw [← hji3]; unfold mx; (repeat' split) <;> omega)))
 (try (have hji3m : 0 ≤ ji3 := by omega))
 have hji3_ : (if 0 < (wrap64 (a1 - (a0.size : Int))) then (wrap64 (a1 - (a0.size : Int))) else 0) = ji3 := hji3
 replace H := Option.bind_eq_some_iff.mp H
 obtain ⟨t274, A40, H⟩ := H
 replace H : (if a0.size + t274.size ≤ 9223372036854775807 then (some (a0 ++ t274)) else (none)) = some r := H
 have A4 := Aside0.mk A40
 clear A40
 by_cases c5 : a0.size + t274.size ≤ 9223372036854775807
 ·
  rw [if_pos c5] at H
  have c5b0 := eq_true c5
  have c5b1 : decide (a0.size + t274.size ≤ 9223372036854775807) = true := decide_eq_true c5
  try have c5b2 : (9223372036854775807 < a0.size + t274.size) = False := eq_false (Nat.not_lt.2 c5)
  obtain rfl := Option.some.inj H
  go_enter Tryz.func26, Tryz.ntmps26
  go_wp2_with (first | ((with_reducible refine gate_callee (f := 47) rfl ?_); refine goesL_ (some 11) rfl rfl Tryz.func47 (by kernel_rfl) rfl #[.string (⟨#[0]⟩ : ByteArray), .int .i64 ji3] rfl (by (try simp only [List.map_toArray, List.map_cons, List.map_nil]); first | done | (simp only [hji3]; rfl) | rfl | (simp only [List.length_drop, List.length_take]; rfl)) ?_; (with_reducible refine (strings_Repeat.calls (⟨#[0]⟩ : ByteArray) ji3 t274 _ A4.out).mono ?_); rintro e w6 ⟨rfl, hb⟩; refine ⟨_, rfl, ?_⟩; have n0_ := Aside0.mk (below_step (by repeat (first | (with_reducible first | exact HB.out | apply below_alloc | apply pw_below_drewN | apply below_drew1) | exact HB.out)) hb); clear HB; have HB := n0_; clear n0_; (try clear hb); (try clear hb2); (try clear hk); (try clear hi)))
  go_ret
  exact ⟨by first | rfl | (simp [errW_none, errW_some] <;> rfl) | (simp only [← hji3]; first | rfl | (simp [errW_none, errW_some] <;> rfl)) | (simp [*, errW_none, errW_some] <;> rfl), by repeat (first | (with_reducible first | exact HB.out | apply below_alloc | apply pw_below_drewN | apply below_drew1) | exact HB.out)⟩
 ·
  rw [if_neg c5] at H
  exact absurd H (by simp)
end Go.Proofs.YtagcaheopbmdiaaGreat.QLockOpens
