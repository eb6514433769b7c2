/- Written by a program of this session (wip/mprint): the walk of the Go code, function by function, for every input; no condition. -/
import Derived.Test.YtgkjkhhppmnajaaYQLockRekeysx0
import Derived.Test.YtgkjkhhppmnajaaYQLockRekeysx1
import Derived.Lib.SliceRun
namespace Go.Proofs.Ytgkjkhhppmnajaa.QLockRekeys
open Go.RowKit Go.Proofs.YtgkjkhhppmnajaaW.PrintWords Go.Proofs.YtgkjkhhppmnajaaW.PrintLast Go.Proofs.YtgkjkhhppmnajaaW.PrintMore
attribute [local go_sem] max2_int min2_int max_two min_two max_three min_three max_four min_four   -- for this text's walks alone
set_option linter.unusedVariables false
set_option linter.unusedSimpArgs false
def lock_mixed.f (k : Nat) (a0 : Int) (a1 : ByteArray) : Option (Int) := (sum_Number.f k a0).bind fun t112 => (if t112.length + a1.size < 140737488355328 then ((sum_Hash.f k (t112 ++ bytesOf a1)).bind fun t118 => (some t118)) else (none))
theorem lock_mixed.mono : ∀ a0 a1 k, LeO (lock_mixed.f k a0 a1) (lock_mixed.f (k + 1) a0 a1) := by
 intro a0 a1 k
 unfold lock_mixed.f
 repeat' first
   | (with_reducible exact sum_Hash.mono _ _)
   | (with_reducible exact sum_Number.mono _ _)
   | (with_reducible exact LeO.refl _)
   | (with_reducible exact LeO.none _)
   | (with_reducible refine LeO.ite ?_ ?_)
   | (with_reducible refine LeO.bind ?_ (fun _ => ?_))
   | exact sum_Hash.mono _ _
   | exact sum_Number.mono _ _
   | exact LeO.none _
   | refine LeO.ite ?_ ?_
   | refine LeO.bind ?_ (fun _ => ?_)
set_option maxHeartbeats 8000000 in
set_option maxRecDepth 100000 in
theorem lock_mixed.calls (k : Nat) (a0 : Int) (a1 : ByteArray) (r : Int) (w : World) (h : lock_mixed.f k a0 a1 = some r) :
  Calls Try.prog 63 #[.int .u64 a0, .string a1] w fun e w' => e = .returned (.int .u64 r) ∧ Below w.heap.size w w' := by
 have HB := Aside0.mk (Below.refl w.heap.size w)
 have H : ((sum_Number.f k a0).bind fun t112 => (if t112.length + a1.size < 140737488355328 then ((sum_Hash.f k (t112 ++ bytesOf a1)).bind fun t118 => (some t118)) else (none))) = some r := h
 clear h
 replace H := Option.bind_eq_some_iff.mp H
 obtain ⟨t112, A30, H⟩ := H
 replace H : (if t112.length + a1.size < 140737488355328 then ((sum_Hash.f k (t112 ++ bytesOf a1)).bind fun t118 => (some t118)) else (none)) = some r := H
 have A3 := Aside0.mk A30
 clear A30
 by_cases c4 : t112.length + a1.size < 140737488355328
 ·
  rw [if_pos c4] at H
  have LMc4 := Aside0.mk c4
  clear c4
  obtain ⟨y115, hy115⟩ : ∃ y_ : List Int, y_ = (t112 ++ bytesOf a1) := ⟨_, rfl⟩
  replace H : ((sum_Hash.f k y115).bind fun t118 => (some t118)) = some r := by first | (rw [hy115]; with_reducible exact H) | (have H2_ := (Option.bind_some _ _).symm.trans H; rw [hy115]; with_reducible exact H2_) | (have H2_ := (Option.bind_some _ _).symm.trans H; with_reducible exact H2_) | with_reducible exact H | (rw [hy115]; exact H) | exact H
  have Ny115 := Aside0.mk hy115
  clear hy115
  replace H := Option.bind_eq_some_iff.mp H
  obtain ⟨t118, A50, H⟩ := H
  replace H : (some t118) = some r := H
  have A5 := Aside0.mk A50
  clear A50
  obtain rfl := Option.some.inj H
  go_enter Try.func63, Try.ntmps63
  go_wp2_with (first | ((with_reducible refine gate_callee (f := 30) rfl ?_); refine goesL_ (some 6) rfl rfl Try.func30 (by kernel_rfl) rfl #[.int .u64 a0] rfl (by (try simp only [List.map_toArray, List.map_cons, List.map_nil]); first | done | rfl | (simp only [List.length_drop, List.length_take]; rfl)) ?_; (with_reducible refine (sum_Number.calls k a0 t112 _ A3.out).mono ?_); rintro e w6 ⟨v113, rfl, ho0, hb⟩; refine ⟨_, rfl, ?_⟩; have n0_ := Aside0.mk (Kd.R_lower ho0 (below_size (by repeat (first | (with_reducible first | exact HB.out | apply below_alloc | apply pw_below_drewN | apply below_drew1) | exact HB.out)))); have n1_ := Aside0.mk (below_step (by repeat (first | (with_reducible first | exact HB.out | apply below_alloc | apply pw_below_drewN | apply below_drew1) | exact HB.out)) hb); clear HB; have HO114 := n0_; have HB := n1_; clear n0_ n1_; (try clear hb); (try clear hb2); (try clear hk); (try clear hi); (try clear ho0)) | (at_builtin; refine print_append_str (w0 := w) w.heap.size rfl (.tmp 6) _ 22 9 5 rfl Try.underlying22 Try.underlying9 info5 v113 t112 a1 rfl rfl ?aO ?aB ?aS ?aL ?_; (case aB => exact (by repeat (first | (with_reducible first | exact HB.out | apply below_alloc | apply pw_below_drewN | apply below_drew1) | exact HB.out))); (case aO => exact (Kd.own_of_R (by (with_reducible repeat (first | apply Kd.R_alloc | apply Kd.R_drewN | apply Kd.R_drew)); exact HO114.out))); (case aS => exact (below_size (by repeat (first | (with_reducible first | exact HB.out | apply below_alloc | apply pw_below_drewN | apply below_drew1) | exact HB.out)))); (case aL => have := LMc4.out; omega); intro v116 w7 ho0 hb hg; have ho := Kd.R_of_own (h1 := fun _ => rfl) (ok := fun _ => True) ho0 (fun _ _ => trivial); clear ho0; have hat := True.intro; rw [← Ny115.out] at ho; change Kd.R (Kd.int .u8) 5 w7 w.heap.size (fun _ => True) v116 y115 at ho; have n0_ := Aside0.mk (hb); have n1_ := Aside0.mk (ho); clear HB; clear HO114; have HB := n0_; have HO117 := n1_; clear n0_ n1_; clear ho hb hg hat; obtain ⟨Ao8, co8, eo8⟩ := Kd.R_slice HO117.out; subst eo8) | ((with_reducible refine gate_callee (f := 29) rfl ?_); refine goesL_ (some 9) rfl rfl Try.func29 (by kernel_rfl) rfl #[.slice Ao8 y115.length co8] rfl (by (try simp only [List.map_toArray, List.map_cons, List.map_nil]); first | done | rfl | (simp only [List.length_drop, List.length_take]; rfl)) ?_; (with_reducible refine (sum_Hash.calls k _ _ y115 t118 _ ?side1 ?side2 A5.out).mono ?_); (case side1 => repeat (first | exact (Kd.R_reads' HO117.out).2.2 | (with_reducible refine Kd.C_alloc ?_ _) | (with_reducible refine Kd.C_drewN ?_ _) | (with_reducible refine Kd.C_drew ?_))); (case side2 => exact (Kd.R_reads' HO117.out).2.1); rintro e w' ⟨rfl, ⟨nd, rfl⟩⟩; refine ⟨_, rfl, ?_⟩))
  go_ret
  exact ⟨by first | rfl | (simp [errW_none, errW_some] <;> rfl) | (simp [*, errW_none, errW_some] <;> rfl), by repeat (first | (with_reducible first | exact HB.out | apply below_alloc | apply pw_below_drewN | apply below_drew1) | exact HB.out)⟩
 ·
  rw [if_neg c4] at H
  exact absurd H (by simp)
def lock_open.l0 : Nat → List Int → ByteArray → Int → Int → Option (Int × Int × Bool)
 | 0, _, _, _, _ => none
 | k + 1, x0, x2, x12, x13 => if x13 < x12 then (if 0 ≤ (wrap64 (16 + (wrap64 (24 * x13)))) then (if (wrap64 (16 + (wrap64 (24 * x13)))) ≤ (wrap64 (16 + (wrap64 (24 * (wrap64 (x13 + 1)))))) then (if (wrap64 (16 + (wrap64 (24 * (wrap64 (x13 + 1)))))) ≤ (x0.length : Int) then (if 8 ≤ 16 then (if 16 ≤ (((x0.take ((wrap64 (16 + (wrap64 (24 * (wrap64 (x13 + 1)))))) : Int).toNat).drop ((wrap64 (16 + (wrap64 (24 * x13)))) : Int).toNat).length : Int) then ((lock_get.f k ((((x0.take ((wrap64 (16 + (wrap64 (24 * (wrap64 (x13 + 1)))))) : Int).toNat).drop ((wrap64 (16 + (wrap64 (24 * x13)))) : Int).toNat).take 16).drop 8)).bind fun t121 => (if 8 ≤ (((x0.take ((wrap64 (16 + (wrap64 (24 * (wrap64 (x13 + 1)))))) : Int).toNat).drop ((wrap64 (16 + (wrap64 (24 * x13)))) : Int).toNat).length : Int) then ((lock_get.f k (((x0.take ((wrap64 (16 + (wrap64 (24 * (wrap64 (x13 + 1)))))) : Int).toNat).drop ((wrap64 (16 + (wrap64 (24 * x13)))) : Int).toNat).take 8)).bind fun t123 => ((lock_mixed.f k t123 x2).bind fun t124 => ((lock_mixed.f k t124 (⟨#[105, 110]⟩ : ByteArray)).bind fun t125 => ((lock_mixed.f k (Go.bits .xor .u64 t121 t125) (⟨#[111, 107]⟩ : ByteArray)).bind fun t126 => ((lock_get.f k (((x0.take ((wrap64 (16 + (wrap64 (24 * (wrap64 (x13 + 1)))))) : Int).toNat).drop ((wrap64 (16 + (wrap64 (24 * x13)))) : Int).toNat).drop 16)).bind fun t128 => (if t126 = t128 then (some (x13, Go.bits .xor .u64 t121 t125, true)) else (lock_open.l0 k x0 x2 x12 (wrap64 (x13 + 1))))))))) else (none))) else (none)) else (none)) else (none)) else (none)) else (none)) else (some (0, 0, false))
def lock_open.f (k : Nat) (l0 : List Int) (a1 : Int) (a2 : ByteArray) : Option (Int × Int × Bool) := lock_open.l0 k l0 a2 a1 0
theorem lock_open.mono_l : ∀ k, (∀ y0 y1 y2 y3, LeO (lock_open.l0 k y0 y1 y2 y3) (lock_open.l0 (k + 1) y0 y1 y2 y3))
 | 0 => fun _ _ _ _ r h => by simp [lock_open.l0] at h
 | k + 1 => by
  have ih0 := lock_open.mono_l k
  ·
   intro y0 y1 y2 y3
   unfold lock_open.l0
   repeat' first
   | (with_reducible exact ih0 _ _ _ _)
   | (with_reducible exact lock_get.mono _ _)
   | (with_reducible exact lock_mixed.mono _ _ _)
   | (with_reducible exact LeO.refl _)
   | (with_reducible exact LeO.none _)
   | (with_reducible refine LeO.ite ?_ ?_)
   | (with_reducible refine LeO.bind ?_ (fun _ => ?_))
   | exact ih0 _ _ _ _
   | exact lock_get.mono _ _
   | exact lock_mixed.mono _ _ _
   | exact LeO.none _
   | refine LeO.ite ?_ ?_
   | refine LeO.bind ?_ (fun _ => ?_)
theorem lock_open.mono : ∀ a0 a1 a2 k, LeO (lock_open.f k a0 a1 a2) (lock_open.f (k + 1) a0 a1 a2) := by
 intro a0 a1 a2 k
 have ih0 := lock_open.mono_l k
 unfold lock_open.f
 repeat' first
   | (with_reducible exact ih0 _ _ _ _)
   | (with_reducible exact lock_get.mono _ _)
   | (with_reducible exact lock_mixed.mono _ _ _)
   | (with_reducible exact LeO.refl _)
   | (with_reducible exact LeO.none _)
   | (with_reducible refine LeO.ite ?_ ?_)
   | (with_reducible refine LeO.bind ?_ (fun _ => ?_))
   | exact ih0 _ _ _ _
   | exact lock_get.mono _ _
   | exact lock_mixed.mono _ _ _
   | exact LeO.none _
   | refine LeO.ite ?_ ?_
   | refine LeO.bind ?_ (fun _ => ?_)
def lock_open.T5 : Bool × List (List Nat × List Nat) := (true,[([], []), ([0], [0]), ([1], [1]), ([], []), ([3], [3]), ([4, 2], [4]), ([], []), ([5, 6, 5], [5, 6]), ([7, 7], [7]), ([2, 8], [2, 8]), ([9, 8, 0, 1, 2, 3, 4, 5, 6, 7, 8, 9], [9])])
def lock_open.B5 : List Nat := [0, 1, 3, 0, 8, 31, 0, 127, 255, 511, 1023]
theorem lock_open.tab5 : rtab .any (opsOf Try.f61 5) = lock_open.T5 := by kernel_rfl
theorem lock_open.bits5 : waitsOk lock_open.T5.2 lock_open.B5 = true := by kernel_rfl
set_option maxHeartbeats 8000000 in
set_option maxRecDepth 100000 in
theorem lock_open.calls (k : Nat) (A0 : Option Addr) (c0 : Nat) (l0 : List Int) (a1 : Int) (a2 : ByteArray) (r1 : Int) (r2 : Int) (r3 : Bool) (w : World) (hr0 : Kd.C (Kd.int .u8) w A0 l0.length l0) (hc0 : l0.length ≤ c0) (h : lock_open.f k l0 a1 a2 = some (r1, r2, r3)) :
  Calls Try.prog 61 #[.slice A0 l0.length c0, .int .i64 a1, .string a2] w fun e w' => e = .returned (.tuple #[.int .i64 r1, .int .u64 r2, .bool r3]) ∧ Below w.heap.size w w' := by
 have HR0 := Aside0.mk hr0
 have HC0 := Aside0.mk hc0
 clear hr0 hc0
 have HB := Aside0.mk (Below.refl w.heap.size w)
 have H : (lock_open.l0 k l0 a2 a1 0) = some (r1, r2, r3) := h
 clear h
 have H' := Aside0.mk H
 clear H
 go_enter Try.func61, Try.ntmps61
 go_wp2
 go_loopg [13] k (fun kq v13 w' => ∃ (x13_1 : Int), v13 = .int .i64 x13_1 ∧ Aside0 (lock_open.l0 kq l0 a2 a1 x13_1 = some (r1, r2, r3)) ∧ Aside0 (kq ≤ k) ∧ Aside0 (Below w.heap.size w w'))
 case atStart => exact ⟨(0), (by first | rfl | (simp; done) | (simp [*]; done)), H', ⟨Nat.le_refl _⟩, ⟨by repeat (first | (with_reducible first | exact HB.out | apply below_alloc | apply pw_below_drewN | apply below_drew1) | exact HB.out)⟩⟩
 case round =>
  clear H'
  try clear p2
  obtain ⟨x13_1, rfl, HA, HK1, HB⟩ := hrel
  cases gk with
  | zero => exact absurd HA.out (by simp [lock_open.l0])
  | succ k1 =>
   have H := HA.out
   clear HA
   simp only [lock_open.l0] at H
   by_cases c4 : x13_1 < a1
   ·
    rw [if_pos c4] at H
    have c4b0 : decide (x13_1 < a1) = true := decide_eq_true c4
    clear c4
    obtain ⟨ji5, hji5⟩ : ∃ j_ : Int, (wrap64 (16 + (wrap64 (24 * x13_1)))) = j_ := ⟨_, rfl⟩
    replace H : (if 0 ≤ (ji5) then (if (ji5) ≤ (wrap64 (16 + (wrap64 (24 * (wrap64 (x13_1 + 1)))))) then (if (wrap64 (16 + (wrap64 (24 * (wrap64 (x13_1 + 1)))))) ≤ (l0.length : Int) then (if 8 ≤ 16 then (if 16 ≤ (((l0.take ((wrap64 (16 + (wrap64 (24 * (wrap64 (x13_1 + 1)))))) : Int).toNat).drop ((ji5) : Int).toNat).length : Int) then ((lock_get.f k1 ((((l0.take ((wrap64 (16 + (wrap64 (24 * (wrap64 (x13_1 + 1)))))) : Int).toNat).drop ((ji5) : Int).toNat).take 16).drop 8)).bind fun t121 => (if 8 ≤ (((l0.take ((wrap64 (16 + (wrap64 (24 * (wrap64 (x13_1 + 1)))))) : Int).toNat).drop ((ji5) : Int).toNat).length : Int) then ((lock_get.f k1 (((l0.take ((wrap64 (16 + (wrap64 (24 * (wrap64 (x13_1 + 1)))))) : Int).toNat).drop ((ji5) : Int).toNat).take 8)).bind fun t123 => ((lock_mixed.f k1 t123 a2).bind fun t124 => ((lock_mixed.f k1 t124 (⟨#[105, 110]⟩ : ByteArray)).bind fun t125 => ((lock_mixed.f k1 (Go.bits .xor .u64 t121 t125) (⟨#[111, 107]⟩ : ByteArray)).bind fun t126 => ((lock_get.f k1 (((l0.take ((wrap64 (16 + (wrap64 (24 * (wrap64 (x13_1 + 1)))))) : Int).toNat).drop ((ji5) : Int).toNat).drop 16)).bind fun t128 => (if t126 = t128 then (some (x13_1, Go.bits .xor .u64 t121 t125, true)) else (lock_open.l0 k1 l0 a2 a1 (wrap64 (x13_1 + 1))))))))) else (none))) else (none)) else (none)) else (none)) else (none)) else (none)) = some (r1, r2, r3) := by first | (rw [hji5] at H; exact H) | (simp only [hji5] at H ⊢; exact H)
    have hji5w : (IntKind.i64.wrap (16 + (wrap64 (24 * x13_1)))) = ji5 := (i64_w _).trans hji5
    by_cases c6 : 0 ≤ (ji5)
    ·
     rw [if_pos c6] at H
     have c6b0 := eq_true c6
     have c6b1 : decide (0 ≤ (ji5)) = true := decide_eq_true c6
     clear c6
     by_cases c7 : (ji5) ≤ (wrap64 (16 + (wrap64 (24 * (wrap64 (x13_1 + 1))))))
     ·
      rw [if_pos c7] at H
      have c7b0 := eq_true c7
      have c7b1 : decide ((ji5) ≤ (wrap64 (16 + (wrap64 (24 * (wrap64 (x13_1 + 1))))))) = true := decide_eq_true c7
      by_cases c8 : (wrap64 (16 + (wrap64 (24 * (wrap64 (x13_1 + 1)))))) ≤ (l0.length : Int)
      ·
       rw [if_pos c8] at H
       have c8b0 := eq_true c8
       have c8b1 : decide ((wrap64 (16 + (wrap64 (24 * (wrap64 (x13_1 + 1)))))) ≤ (l0.length : Int)) = true := decide_eq_true c8
       by_cases c9 : 8 ≤ 16
       ·
        rw [if_pos c9] at H
        have c9b0 := eq_true c9
        have c9b1 : decide (8 ≤ 16) = true := decide_eq_true c9
        clear c9
        by_cases c10 : 16 ≤ (((l0.take ((wrap64 (16 + (wrap64 (24 * (wrap64 (x13_1 + 1)))))) : Int).toNat).drop ((ji5) : Int).toNat).length : Int)
        ·
         rw [if_pos c10] at H
         have c10b0 := eq_true c10
         have c10b1 : decide (16 ≤ (((l0.take ((wrap64 (16 + (wrap64 (24 * (wrap64 (x13_1 + 1)))))) : Int).toNat).drop ((ji5) : Int).toNat).length : Int)) = true := decide_eq_true c10
         replace H := Option.bind_eq_some_iff.mp H
         obtain ⟨t121, A110, H⟩ := H
         replace H : (if 8 ≤ (((l0.take ((wrap64 (16 + (wrap64 (24 * (wrap64 (x13_1 + 1)))))) : Int).toNat).drop ((ji5) : Int).toNat).length : Int) then ((lock_get.f k1 (((l0.take ((wrap64 (16 + (wrap64 (24 * (wrap64 (x13_1 + 1)))))) : Int).toNat).drop ((ji5) : Int).toNat).take 8)).bind fun t123 => ((lock_mixed.f k1 t123 a2).bind fun t124 => ((lock_mixed.f k1 t124 (⟨#[105, 110]⟩ : ByteArray)).bind fun t125 => ((lock_mixed.f k1 (Go.bits .xor .u64 t121 t125) (⟨#[111, 107]⟩ : ByteArray)).bind fun t126 => ((lock_get.f k1 (((l0.take ((wrap64 (16 + (wrap64 (24 * (wrap64 (x13_1 + 1)))))) : Int).toNat).drop ((ji5) : Int).toNat).drop 16)).bind fun t128 => (if t126 = t128 then (some (x13_1, Go.bits .xor .u64 t121 t125, true)) else (lock_open.l0 k1 l0 a2 a1 (wrap64 (x13_1 + 1))))))))) else (none)) = some (r1, r2, r3) := H
         have A11 := Aside0.mk A110
         clear A110
         by_cases c12 : 8 ≤ (((l0.take ((wrap64 (16 + (wrap64 (24 * (wrap64 (x13_1 + 1)))))) : Int).toNat).drop ((ji5) : Int).toNat).length : Int)
         ·
          rw [if_pos c12] at H
          have c12b0 := eq_true c12
          have c12b1 : decide (8 ≤ (((l0.take ((wrap64 (16 + (wrap64 (24 * (wrap64 (x13_1 + 1)))))) : Int).toNat).drop ((ji5) : Int).toNat).length : Int)) = true := decide_eq_true c12
          replace H := Option.bind_eq_some_iff.mp H
          obtain ⟨t123, A130, H⟩ := H
          replace H : ((lock_mixed.f k1 t123 a2).bind fun t124 => ((lock_mixed.f k1 t124 (⟨#[105, 110]⟩ : ByteArray)).bind fun t125 => ((lock_mixed.f k1 (Go.bits .xor .u64 t121 t125) (⟨#[111, 107]⟩ : ByteArray)).bind fun t126 => ((lock_get.f k1 (((l0.take ((wrap64 (16 + (wrap64 (24 * (wrap64 (x13_1 + 1)))))) : Int).toNat).drop ((ji5) : Int).toNat).drop 16)).bind fun t128 => (if t126 = t128 then (some (x13_1, Go.bits .xor .u64 t121 t125, true)) else (lock_open.l0 k1 l0 a2 a1 (wrap64 (x13_1 + 1)))))))) = some (r1, r2, r3) := H
          have A13 := Aside0.mk A130
          clear A130
          replace H := Option.bind_eq_some_iff.mp H
          obtain ⟨t124, A140, H⟩ := H
          replace H : ((lock_mixed.f k1 t124 (⟨#[105, 110]⟩ : ByteArray)).bind fun t125 => ((lock_mixed.f k1 (Go.bits .xor .u64 t121 t125) (⟨#[111, 107]⟩ : ByteArray)).bind fun t126 => ((lock_get.f k1 (((l0.take ((wrap64 (16 + (wrap64 (24 * (wrap64 (x13_1 + 1)))))) : Int).toNat).drop ((ji5) : Int).toNat).drop 16)).bind fun t128 => (if t126 = t128 then (some (x13_1, Go.bits .xor .u64 t121 t125, true)) else (lock_open.l0 k1 l0 a2 a1 (wrap64 (x13_1 + 1))))))) = some (r1, r2, r3) := H
          have A14 := Aside0.mk A140
          clear A140
          replace H := Option.bind_eq_some_iff.mp H
          obtain ⟨t125, A150, H⟩ := H
          replace H : ((lock_mixed.f k1 (Go.bits .xor .u64 t121 t125) (⟨#[111, 107]⟩ : ByteArray)).bind fun t126 => ((lock_get.f k1 (((l0.take ((wrap64 (16 + (wrap64 (24 * (wrap64 (x13_1 + 1)))))) : Int).toNat).drop ((ji5) : Int).toNat).drop 16)).bind fun t128 => (if t126 = t128 then (some (x13_1, Go.bits .xor .u64 t121 t125, true)) else (lock_open.l0 k1 l0 a2 a1 (wrap64 (x13_1 + 1)))))) = some (r1, r2, r3) := H
          have A15 := Aside0.mk A150
          clear A150
          replace H := Option.bind_eq_some_iff.mp H
          obtain ⟨t126, A160, H⟩ := H
          replace H : ((lock_get.f k1 (((l0.take ((wrap64 (16 + (wrap64 (24 * (wrap64 (x13_1 + 1)))))) : Int).toNat).drop ((ji5) : Int).toNat).drop 16)).bind fun t128 => (if t126 = t128 then (some (x13_1, Go.bits .xor .u64 t121 t125, true)) else (lock_open.l0 k1 l0 a2 a1 (wrap64 (x13_1 + 1))))) = some (r1, r2, r3) := H
          have A16 := Aside0.mk A160
          clear A160
          have c17b0 := eq_true (of_decide_eq_true (by first | (with_reducible assumption) | assumption) : 16 ≤ (((l0.take ((wrap64 (16 + (wrap64 (24 * (wrap64 (x13_1 + 1)))))) : Int).toNat).drop ((ji5) : Int).toNat).length : Int))
          replace H := Option.bind_eq_some_iff.mp H
          obtain ⟨t128, A180, H⟩ := H
          replace H : (if t126 = t128 then (some (x13_1, Go.bits .xor .u64 t121 t125, true)) else (lock_open.l0 k1 l0 a2 a1 (wrap64 (x13_1 + 1)))) = some (r1, r2, r3) := H
          have A18 := Aside0.mk A180
          clear A180
          by_cases c19 : t126 = t128
          ·
           rw [if_pos c19] at H
           have c19b0 : (t126 == t128) = true := beq_iff_eq.mpr c19
           have c19b1 : (t126 != t128) = false := bne_eq_false_iff_eq.mpr c19
           clear c19
           simp only [Option.some.injEq, Prod.mk.injEq] at H
           obtain ⟨rfl, rfl, rfl⟩ := H
           obtain ⟨i020, hi020, _, hsz20, _⟩ := info_parts info5
           obtain ⟨A20, hcut20, hA20, hC20⟩ := print_mid_of (P := Try.prog) (Value.int .u8) 0 22 5 .i64 .i64 Try.underlying22 hi020 hsz20 A0 c0 l0 (ji5) (wrap64 (16 + (wrap64 (24 * (wrap64 (x13_1 + 1)))))) (of_decide_eq_true (by first | (with_reducible assumption) | assumption)) (by first | omega | exact of_decide_eq_true (by first | (with_reducible assumption) | assumption)) (of_decide_eq_true (by first | (with_reducible assumption) | assumption)) HC0.out
           have HR119 := Aside0.mk (Kd.C_of_reads (h1 := fun _ => rfl) (hA20 _ (Kd.reads_of_C HR0.out)))
           have HC119 := Aside0.mk hC20
           clear hA20 hC20 hi020 hsz20
           try go_wp2
           have n0_ := Aside0.mk (below_drew1 HB.out)
           clear HB
           have HB := n0_
           clear n0_
           obtain ⟨i022, hi022, _, hsz22, _⟩ := info_parts info5
           obtain ⟨A22, hcut22, hA22, hC22⟩ := print_mid_of (P := Try.prog) (Value.int .u8) 0 22 5 .i64 .i64 Try.underlying22 hi022 hsz22 A20 (c0 - (ji5).toNat) ((l0.take ((wrap64 (16 + (wrap64 (24 * (wrap64 (x13_1 + 1)))))) : Int).toNat).drop ((ji5) : Int).toNat) 8 16 (by omega) (by first | omega | exact of_decide_eq_true (by first | (with_reducible assumption) | assumption)) (of_decide_eq_true (by first | (with_reducible assumption) | assumption)) HC119.out
           try rw [show ((l0.take ((wrap64 (16 + (wrap64 (24 * (wrap64 (x13_1 + 1)))))) : Int).toNat).drop ((ji5) : Int).toNat).length = (wrap64 (16 + (wrap64 (24 * (wrap64 (x13_1 + 1)))))).toNat - (ji5).toNat by rw [List.length_drop, List.length_take]; omega] at hcut22
           have HR120 := Aside0.mk (Kd.C_of_reads (h1 := fun _ => rfl) (hA22 _ (Kd.reads_of_C HR119.out)))
           have HC120 := Aside0.mk hC22
           clear hA22 hC22 hi022 hsz22
           obtain ⟨i023, hi023, _, hsz23, _⟩ := info_parts info5
           obtain ⟨hcut23, hA23, hC23⟩ := print_take_of (P := Try.prog) (Value.int .u8) 0 22 5 .i64 Try.underlying22 hi023 hsz23 A20 (c0 - (ji5).toNat) ((l0.take ((wrap64 (16 + (wrap64 (24 * (wrap64 (x13_1 + 1)))))) : Int).toNat).drop ((ji5) : Int).toNat) 8 (by omega) (of_decide_eq_true (by first | (with_reducible assumption) | assumption)) HC119.out
           try rw [show ((l0.take ((wrap64 (16 + (wrap64 (24 * (wrap64 (x13_1 + 1)))))) : Int).toNat).drop ((ji5) : Int).toNat).length = (wrap64 (16 + (wrap64 (24 * (wrap64 (x13_1 + 1)))))).toNat - (ji5).toNat by rw [List.length_drop, List.length_take]; omega] at hcut23
           have HR122 := Aside0.mk (Kd.C_of_reads (h1 := fun _ => rfl) (hA23 _ (Kd.reads_of_C HR119.out)))
           have HC122 := Aside0.mk hC23
           clear hA23 hC23 hi023 hsz23
           refine start_ (n := 11) (S := fun w' => True) (ds := []) #[false,false,false,false,false,false,false,false,false,false,false] (by kernel_rfl) rfl rfl trivial (fun hHeld => ?_); refine with_tabW lock_open.tab5 lock_open.bits5 (fun HT_ HW_ => ?_)
           generalize wr.drew = w21 at HB HR120 HR122 hHeld ⊢
           refine pure_ (i := 0) (N := some 25) (v := ?_) (a' := ?_) #[true,false,false,false,false,false,false,false,false,false,false] rfl rfl (any_of HT_.out (by kernel_rfl)) (fun _ _ _ h => h) (Or.inl ⟨by rfl, ?_⟩) ?_ ?_
           rotate_left
           ·
            intro w'
            go_simp
            with_reducible rfl
           rotate_left
           ·
            simp only [Act.put, List.setIfInBounds_toArray, List.set_cons_zero, List.set_cons_succ, i64_w, i32_w]
            rfl
           refine pure_ (i := 1) (N := some 26) (v := ?_) (a' := ?_) #[true,true,false,false,false,false,false,false,false,false,false] rfl rfl (any_of HT_.out (by kernel_rfl)) (fun _ _ _ h => h) (Or.inl ⟨by rfl, ?_⟩) ?_ ?_
           rotate_left
           ·
            intro w'
            go_simp
            with_reducible rfl
           rotate_left
           ·
            simp only [Act.put, List.setIfInBounds_toArray, List.set_cons_zero, List.set_cons_succ, i64_w, i32_w]
            rfl
           refine pure_ (i := 3) (N := some 28) (v := ?_) (a' := ?_) #[true,true,false,true,false,false,false,false,false,false,false] rfl rfl (any_of HT_.out (by kernel_rfl)) (fun _ _ _ h => h) (Or.inl ⟨by rfl, ?_⟩) ?_ ?_
           rotate_left
           ·
            intro w'
            go_simp
            with_reducible rfl
           rotate_left
           ·
            simp only [Act.put, List.setIfInBounds_toArray, List.set_cons_zero, List.set_cons_succ, i64_w, i32_w]
            rfl
           refine pure_ (i := 4) (N := some 29) (v := ?_) (a' := ?_) #[true,true,false,true,true,false,false,false,false,false,false] rfl rfl (any_of HT_.out (by kernel_rfl)) (fun _ _ _ h => h) (Or.inl ⟨by rfl, ?_⟩) ?_ ?_
           rotate_left
           ·
            intro w'
            go_simp
            with_reducible rfl
           rotate_left
           ·
            simp only [Act.put, List.setIfInBounds_toArray, List.set_cons_zero, List.set_cons_succ, i64_w, i32_w]
            rfl
           refine pure_ (i := 6) (N := some 31) (v := ?_) (a' := ?_) #[true,true,false,true,true,false,true,false,false,false,false] rfl rfl (any_of HT_.out (by kernel_rfl)) (fun _ _ _ h => h) (Or.inl ⟨by rfl, ?_⟩) ?_ ?_
           rotate_left
           ·
            intro w'
            go_simp
            with_reducible rfl
           rotate_left
           ·
            simp only [Act.put, List.setIfInBounds_toArray, List.set_cons_zero, List.set_cons_succ, i64_w, i32_w]
            rfl
           refine one_ (i := 2) (N := some 27) #[true,true,true,true,true,false,true,false,false,false,false] rfl rfl (one_of HT_.out (by kernel_rfl)) (by decide) (fun K hK => ?_)
           refine goes_ Try.func59 (by kernel_rfl) rfl #[.slice A22 ((((l0.take ((wrap64 (16 + (wrap64 (24 * (wrap64 (x13_1 + 1)))))) : Int).toNat).drop ((ji5) : Int).toNat).take 16).drop 8).length ((c0 - (ji5).toNat) - 8)] (by rfl) rfl rfl (by (try simp only [List.map_toArray, List.map_cons, List.map_nil]); first | done | (rw [show ((((l0.take ((wrap64 (16 + (wrap64 (24 * (wrap64 (x13_1 + 1)))))) : Int).toNat).drop ((ji5) : Int).toNat).take 16).drop 8).length = (16 - 8) from (by rw [List.length_drop, List.length_take]; have h_ : (16 : Int) ≤ (((l0.take ((wrap64 (16 + (wrap64 (24 * (wrap64 (x13_1 + 1)))))) : Int).toNat).drop ((ji5) : Int).toNat).length : Int) := of_decide_eq_true (by first | (with_reducible assumption) | assumption); omega)] <;> rfl) | (simp only [hji5]; rfl) | rfl | (simp only [List.length_drop, List.length_take]; rfl) | (simp only [List.length_drop, List.length_take]; rw [Nat.min_eq_left (show (wrap64 (16 + (wrap64 (24 * (wrap64 (x13_1 + 1)))))).toNat ≤ l0.length by omega)]; rfl)) ?_
           with_reducible refine (lock_get.calls k1 _ _ ((((l0.take ((wrap64 (16 + (wrap64 (24 * (wrap64 (x13_1 + 1)))))) : Int).toNat).drop ((ji5) : Int).toNat).take 16).drop 8) t121 _ ?side1 ?side2 A11.out).mono ?_
           (case side1 => repeat (first | exact (Kd.C_below HR120.out HB.out) | (with_reducible refine Kd.C_alloc ?_ _) | (with_reducible refine Kd.C_drewN ?_ _) | (with_reducible refine Kd.C_drew ?_)))
           (case side2 => exact HC120.out)
           rintro e w' ⟨rfl, ⟨nd, rfl⟩⟩
           refine ⟨_, rfl, ?_⟩
           refine hK.out _ _ trivial (fun hHeld => ?_)
           clear hK K
           refine norm_ (a' := ?_) ?_ ?_
           rotate_left
           ·
            show Act.put _ (some 27) _ = _
            simp only [Act.put, List.setIfInBounds_toArray, List.set_cons_zero, List.set_cons_succ, i64_w, i32_w]
            rfl
           refine one_ (i := 5) (N := some 30) #[true,true,true,true,true,true,true,false,false,false,false] rfl rfl (one_of HT_.out (by kernel_rfl)) (by decide) (fun K hK => ?_)
           refine goes_ Try.func59 (by kernel_rfl) rfl #[.slice A20 (((l0.take ((wrap64 (16 + (wrap64 (24 * (wrap64 (x13_1 + 1)))))) : Int).toNat).drop ((ji5) : Int).toNat).take 8).length (c0 - (ji5).toNat)] (by rfl) rfl rfl (by (try simp only [List.map_toArray, List.map_cons, List.map_nil]); first | done | (rw [show (((l0.take ((wrap64 (16 + (wrap64 (24 * (wrap64 (x13_1 + 1)))))) : Int).toNat).drop ((ji5) : Int).toNat).take 8).length = 8 from (by rw [List.length_take]; have h_ : (8 : Int) ≤ (((l0.take ((wrap64 (16 + (wrap64 (24 * (wrap64 (x13_1 + 1)))))) : Int).toNat).drop ((ji5) : Int).toNat).length : Int) := of_decide_eq_true (by first | (with_reducible assumption) | assumption); omega)] <;> rfl) | (simp only [hji5]; rfl) | rfl | (simp only [List.length_drop, List.length_take]; rfl) | (simp only [List.length_drop, List.length_take]; rw [Nat.min_eq_left (show (wrap64 (16 + (wrap64 (24 * (wrap64 (x13_1 + 1)))))).toNat ≤ l0.length by omega)]; rfl)) ?_
           with_reducible refine (lock_get.calls k1 _ _ (((l0.take ((wrap64 (16 + (wrap64 (24 * (wrap64 (x13_1 + 1)))))) : Int).toNat).drop ((ji5) : Int).toNat).take 8) t123 _ ?side1 ?side2 A13.out).mono ?_
           (case side1 => repeat (first | exact (Kd.C_below HR122.out (by repeat (first | (with_reducible first | exact HB.out | apply below_alloc | apply pw_below_drewN | apply below_drew1) | exact HB.out))) | (with_reducible refine Kd.C_alloc ?_ _) | (with_reducible refine Kd.C_drewN ?_ _) | (with_reducible refine Kd.C_drew ?_)))
           (case side2 => exact HC122.out)
           rintro e w' ⟨rfl, ⟨nd, rfl⟩⟩
           refine ⟨_, rfl, ?_⟩
           refine hK.out _ _ trivial (fun hHeld => ?_)
           clear hK K
           refine norm_ (a' := ?_) ?_ ?_
           rotate_left
           ·
            show Act.put _ (some 30) _ = _
            simp only [Act.put, List.setIfInBounds_toArray, List.set_cons_zero, List.set_cons_succ, i64_w, i32_w]
            rfl
           refine one_ (i := 7) (N := some 32) #[true,true,true,true,true,true,true,true,false,false,false] rfl rfl (one_of HT_.out (by kernel_rfl)) (by decide) (fun K hK => ?_)
           refine goes_ Try.func63 (by kernel_rfl) rfl #[.int .u64 t123, .string a2] (by rfl) rfl rfl (by (try simp only [List.map_toArray, List.map_cons, List.map_nil]); first | done | rfl | (simp only [List.length_drop, List.length_take]; rfl)) ?_
           with_reducible refine (lock_mixed.calls k1 t123 a2 t124 _ A14.out).mono ?_
           rintro e w24 ⟨rfl, hb⟩
           refine ⟨_, rfl, ?_⟩
           have n0_ := Aside0.mk (below_step (by repeat (first | (with_reducible first | exact HB.out | apply below_alloc | apply pw_below_drewN | apply below_drew1) | exact HB.out)) hb)
           clear HB
           have HB := n0_
           clear n0_
           (try clear hb)
           (try clear hb2)
           (try clear hk)
           (try clear hi)
           refine hK.out _ _ trivial (fun hHeld => ?_)
           clear hK K
           refine norm_ (a' := ?_) ?_ ?_
           rotate_left
           ·
            show Act.put _ (some 32) _ = _
            simp only [Act.put, List.setIfInBounds_toArray, List.set_cons_zero, List.set_cons_succ, i64_w, i32_w]
            rfl
           refine one_ (i := 8) (N := some 33) #[true,true,true,true,true,true,true,true,true,false,false] rfl rfl (one_of HT_.out (by kernel_rfl)) (by decide) (fun K hK => ?_)
           refine goes_ Try.func63 (by kernel_rfl) rfl #[.int .u64 t124, .string (⟨#[105, 110]⟩ : ByteArray)] (by rfl) rfl rfl (by (try simp only [List.map_toArray, List.map_cons, List.map_nil]); first | done | rfl | (simp only [List.length_drop, List.length_take]; rfl)) ?_
           with_reducible refine (lock_mixed.calls k1 t124 (⟨#[105, 110]⟩ : ByteArray) t125 _ A15.out).mono ?_
           rintro e w25 ⟨rfl, hb⟩
           refine ⟨_, rfl, ?_⟩
           have n0_ := Aside0.mk (below_step (by repeat (first | (with_reducible first | exact HB.out | apply below_alloc | apply pw_below_drewN | apply below_drew1) | exact HB.out)) hb)
           clear HB
           have HB := n0_
           clear n0_
           (try clear hb)
           (try clear hb2)
           (try clear hk)
           (try clear hi)
           refine hK.out _ _ trivial (fun hHeld => ?_)
           clear hK K
           refine norm_ (a' := ?_) ?_ ?_
           rotate_left
           ·
            show Act.put _ (some 33) _ = _
            simp only [Act.put, List.setIfInBounds_toArray, List.set_cons_zero, List.set_cons_succ, i64_w, i32_w]
            rfl
           refine pure_ (i := 9) (N := some 34) (v := ?_) (a' := ?_) #[true,true,true,true,true,true,true,true,true,true,false] rfl rfl (any_of HT_.out (by kernel_rfl)) (fun _ _ _ h => h) (Or.inl ⟨by rfl, ?_⟩) ?_ ?_
           rotate_left
           ·
            intro w'
            go_simp
            with_reducible rfl
           rotate_left
           ·
            simp only [Act.put, List.setIfInBounds_toArray, List.set_cons_zero, List.set_cons_succ, i64_w, i32_w]
            rfl
           refine pure_ (i := 10) (N := some 11) (v := ?_) (a' := ?_) #[true,true,true,true,true,true,true,true,true,true,true] rfl rfl (any_of HT_.out (by kernel_rfl)) (fun _ _ _ h => h) (Or.inl ⟨by rfl, ?_⟩) ?_ ?_
           rotate_left
           ·
            intro w'
            go_simp
            with_reducible rfl
           rotate_left
           ·
            simp only [Act.put, List.setIfInBounds_toArray, List.set_cons_zero, List.set_cons_succ, i64_w, i32_w]
            rfl
           refine done_ (done_of HT_.out (by kernel_rfl)) ?_
           try go_wp2
           have n0_ := Aside0.mk (below_drew1 HB.out)
           clear HB
           have HB := n0_
           clear n0_
           obtain ⟨i027, hi027, _, hsz27, _⟩ := info_parts info5
           obtain ⟨A27, hcut27, hA27, hC27⟩ := print_drop_of (P := Try.prog) (Value.int .u8) 0 22 5 .i64 Try.underlying22 hi027 hsz27 A20 (c0 - (ji5).toNat) ((l0.take ((wrap64 (16 + (wrap64 (24 * (wrap64 (x13_1 + 1)))))) : Int).toNat).drop ((ji5) : Int).toNat) 16 (by omega) (of_decide_eq_true (by first | (with_reducible assumption) | assumption)) HC119.out
           try rw [show ((l0.take ((wrap64 (16 + (wrap64 (24 * (wrap64 (x13_1 + 1)))))) : Int).toNat).drop ((ji5) : Int).toNat).length = (wrap64 (16 + (wrap64 (24 * (wrap64 (x13_1 + 1)))))).toNat - (ji5).toNat by rw [List.length_drop, List.length_take]; omega] at hcut27
           have HR127 := Aside0.mk (Kd.C_of_reads (h1 := fun _ => rfl) (hA27 _ (Kd.reads_of_C HR119.out)))
           have HC127 := Aside0.mk hC27
           clear hA27 hC27 hi027 hsz27
           refine start_ (n := 6) (S := fun w' => True) (ds := []) #[false,false,false,false,false,false] (by kernel_rfl) rfl rfl trivial (fun hHeld => ?_)
           generalize w25.drew = w26 at HB HR127 hHeld ⊢
           refine pure_ (i := 0) (N := some 35) (v := ?_) (a' := ?_) #[true,false,false,false,false,false] rfl rfl (by kernel_rfl) (fun _ _ _ h => h) (Or.inl ⟨by rfl, ?_⟩) ?_ ?_
           rotate_left
           ·
            intro w'
            go_simp
            with_reducible rfl
           rotate_left
           ·
            simp only [Act.put, List.setIfInBounds_toArray, List.set_cons_zero, List.set_cons_succ, i64_w, i32_w]
            rfl
           refine pure_ (i := 2) (N := some 37) (v := ?_) (a' := ?_) #[true,false,true,false,false,false] rfl rfl (by kernel_rfl) (fun _ _ _ h => h) (Or.inl ⟨by rfl, ?_⟩) ?_ ?_
           rotate_left
           ·
            intro w'
            go_simp
            with_reducible rfl
           rotate_left
           ·
            simp only [Act.put, List.setIfInBounds_toArray, List.set_cons_zero, List.set_cons_succ, i64_w, i32_w]
            rfl
           refine pure_ (i := 3) (N := some 38) (v := ?_) (a' := ?_) #[true,false,true,true,false,false] rfl rfl (by kernel_rfl) (fun _ _ _ h => h) (Or.inl ⟨by rfl, ?_⟩) ?_ ?_
           rotate_left
           ·
            intro w'
            go_simp
            with_reducible rfl
           rotate_left
           ·
            simp only [Act.put, List.setIfInBounds_toArray, List.set_cons_zero, List.set_cons_succ, i64_w, i32_w]
            rfl
           refine one_ (i := 1) (N := some 36) #[true,true,true,true,false,false] rfl rfl (by kernel_rfl) (by decide) (fun K hK => ?_)
           refine goes_ Try.func63 (by kernel_rfl) rfl #[.int .u64 (Go.bits .xor .u64 t121 t125), .string (⟨#[111, 107]⟩ : ByteArray)] (by rfl) rfl rfl (by (try simp only [List.map_toArray, List.map_cons, List.map_nil]); first | done | rfl | (simp only [List.length_drop, List.length_take]; rfl)) ?_
           with_reducible refine (lock_mixed.calls k1 (Go.bits .xor .u64 t121 t125) (⟨#[111, 107]⟩ : ByteArray) t126 _ A16.out).mono ?_
           rintro e w28 ⟨rfl, hb⟩
           refine ⟨_, rfl, ?_⟩
           have n0_ := Aside0.mk (below_step (by repeat (first | (with_reducible first | exact HB.out | apply below_alloc | apply pw_below_drewN | apply below_drew1) | exact HB.out)) hb)
           clear HB
           have HB := n0_
           clear n0_
           (try clear hb)
           (try clear hb2)
           (try clear hk)
           (try clear hi)
           refine hK.out _ _ trivial (fun hHeld => ?_)
           clear hK K
           refine norm_ (a' := ?_) ?_ ?_
           rotate_left
           ·
            show Act.put _ (some 36) _ = _
            simp only [Act.put, List.setIfInBounds_toArray, List.set_cons_zero, List.set_cons_succ, i64_w, i32_w]
            rfl
           refine one_ (i := 4) (N := some 39) #[true,true,true,true,true,false] rfl rfl (by kernel_rfl) (by decide) (fun K hK => ?_)
           refine goes_ Try.func59 (by kernel_rfl) rfl #[.slice A27 (((l0.take ((wrap64 (16 + (wrap64 (24 * (wrap64 (x13_1 + 1)))))) : Int).toNat).drop ((ji5) : Int).toNat).drop 16).length ((c0 - (ji5).toNat) - 16)] (by rfl) rfl rfl (by (try simp only [List.map_toArray, List.map_cons, List.map_nil]); first | done | (rw [show (((l0.take ((wrap64 (16 + (wrap64 (24 * (wrap64 (x13_1 + 1)))))) : Int).toNat).drop ((ji5) : Int).toNat).drop 16).length = (((l0.take ((wrap64 (16 + (wrap64 (24 * (wrap64 (x13_1 + 1)))))) : Int).toNat).drop ((ji5) : Int).toNat).length - 16) from List.length_drop] <;> rfl) | (simp only [hji5]; rfl) | rfl | (simp only [List.length_drop, List.length_take]; rfl) | (simp only [List.length_drop, List.length_take]; rw [Nat.min_eq_left (show (wrap64 (16 + (wrap64 (24 * (wrap64 (x13_1 + 1)))))).toNat ≤ l0.length by omega)]; rfl)) ?_
           with_reducible refine (lock_get.calls k1 _ _ (((l0.take ((wrap64 (16 + (wrap64 (24 * (wrap64 (x13_1 + 1)))))) : Int).toNat).drop ((ji5) : Int).toNat).drop 16) t128 _ ?side1 ?side2 A18.out).mono ?_
           (case side1 => repeat (first | exact (Kd.C_below HR127.out HB.out) | (with_reducible refine Kd.C_alloc ?_ _) | (with_reducible refine Kd.C_drewN ?_ _) | (with_reducible refine Kd.C_drew ?_)))
           (case side2 => exact HC127.out)
           rintro e w' ⟨rfl, ⟨nd, rfl⟩⟩
           refine ⟨_, rfl, ?_⟩
           refine hK.out _ _ trivial (fun hHeld => ?_)
           clear hK K
           refine norm_ (a' := ?_) ?_ ?_
           rotate_left
           ·
            show Act.put _ (some 39) _ = _
            simp only [Act.put, List.setIfInBounds_toArray, List.set_cons_zero, List.set_cons_succ, i64_w, i32_w]
            rfl
           refine pure_ (i := 5) (N := some 40) (v := ?_) (a' := ?_) #[true,true,true,true,true,true] rfl rfl (by kernel_rfl) (fun _ _ _ h => h) (Or.inl ⟨by rfl, ?_⟩) ?_ ?_
           rotate_left
           ·
            intro w'
            go_simp
            with_reducible rfl
           rotate_left
           ·
            simp only [Act.put, List.setIfInBounds_toArray, List.set_cons_zero, List.set_cons_succ, i64_w, i32_w]
            rfl
           refine done_ (by kernel_rfl) ?_
           try go_wp2
           go_ret3
           exact ⟨by first | rfl | (simp [errW_none, errW_some] <;> rfl) | (simp only [← hji5]; first | rfl | (simp [errW_none, errW_some] <;> rfl)) | (simp [*, errW_none, errW_some] <;> rfl), by repeat (first | (with_reducible first | exact HB.out | apply below_alloc | apply pw_below_drewN | apply below_drew1) | exact HB.out)⟩
          ·
           rw [if_neg c19] at H
           have c19b0 : (t126 == t128) = false := beq_eq_false_iff_ne.mpr c19
           have c19b1 : (t126 != t128) = true := bne_iff_ne.mpr c19
           have H' := Aside0.mk H
           clear H
           obtain ⟨i029, hi029, _, hsz29, _⟩ := info_parts info5
           obtain ⟨A29, hcut29, hA29, hC29⟩ := print_mid_of (P := Try.prog) (Value.int .u8) 0 22 5 .i64 .i64 Try.underlying22 hi029 hsz29 A0 c0 l0 (ji5) (wrap64 (16 + (wrap64 (24 * (wrap64 (x13_1 + 1)))))) (of_decide_eq_true (by first | (with_reducible assumption) | assumption)) (by first | omega | exact of_decide_eq_true (by first | (with_reducible assumption) | assumption)) (of_decide_eq_true (by first | (with_reducible assumption) | assumption)) HC0.out
           have HR119 := Aside0.mk (Kd.C_of_reads (h1 := fun _ => rfl) (hA29 _ (Kd.reads_of_C HR0.out)))
           have HC119 := Aside0.mk hC29
           clear hA29 hC29 hi029 hsz29
           try go_wp2
           have n0_ := Aside0.mk (below_drew1 HB.out)
           clear HB
           have HB := n0_
           clear n0_
           obtain ⟨i031, hi031, _, hsz31, _⟩ := info_parts info5
           obtain ⟨A31, hcut31, hA31, hC31⟩ := print_mid_of (P := Try.prog) (Value.int .u8) 0 22 5 .i64 .i64 Try.underlying22 hi031 hsz31 A29 (c0 - (ji5).toNat) ((l0.take ((wrap64 (16 + (wrap64 (24 * (wrap64 (x13_1 + 1)))))) : Int).toNat).drop ((ji5) : Int).toNat) 8 16 (by omega) (by first | omega | exact of_decide_eq_true (by first | (with_reducible assumption) | assumption)) (of_decide_eq_true (by first | (with_reducible assumption) | assumption)) HC119.out
           try rw [show ((l0.take ((wrap64 (16 + (wrap64 (24 * (wrap64 (x13_1 + 1)))))) : Int).toNat).drop ((ji5) : Int).toNat).length = (wrap64 (16 + (wrap64 (24 * (wrap64 (x13_1 + 1)))))).toNat - (ji5).toNat by rw [List.length_drop, List.length_take]; omega] at hcut31
           have HR120 := Aside0.mk (Kd.C_of_reads (h1 := fun _ => rfl) (hA31 _ (Kd.reads_of_C HR119.out)))
           have HC120 := Aside0.mk hC31
           clear hA31 hC31 hi031 hsz31
           obtain ⟨i032, hi032, _, hsz32, _⟩ := info_parts info5
           obtain ⟨hcut32, hA32, hC32⟩ := print_take_of (P := Try.prog) (Value.int .u8) 0 22 5 .i64 Try.underlying22 hi032 hsz32 A29 (c0 - (ji5).toNat) ((l0.take ((wrap64 (16 + (wrap64 (24 * (wrap64 (x13_1 + 1)))))) : Int).toNat).drop ((ji5) : Int).toNat) 8 (by omega) (of_decide_eq_true (by first | (with_reducible assumption) | assumption)) HC119.out
           try rw [show ((l0.take ((wrap64 (16 + (wrap64 (24 * (wrap64 (x13_1 + 1)))))) : Int).toNat).drop ((ji5) : Int).toNat).length = (wrap64 (16 + (wrap64 (24 * (wrap64 (x13_1 + 1)))))).toNat - (ji5).toNat by rw [List.length_drop, List.length_take]; omega] at hcut32
           have HR122 := Aside0.mk (Kd.C_of_reads (h1 := fun _ => rfl) (hA32 _ (Kd.reads_of_C HR119.out)))
           have HC122 := Aside0.mk hC32
           clear hA32 hC32 hi032 hsz32
           refine start_ (n := 11) (S := fun w' => True) (ds := []) #[false,false,false,false,false,false,false,false,false,false,false] (by kernel_rfl) rfl rfl trivial (fun hHeld => ?_); refine with_tabW lock_open.tab5 lock_open.bits5 (fun HT_ HW_ => ?_)
           generalize wr.drew = w30 at HB HR120 HR122 hHeld ⊢
           refine pure_ (i := 0) (N := some 25) (v := ?_) (a' := ?_) #[true,false,false,false,false,false,false,false,false,false,false] rfl rfl (any_of HT_.out (by kernel_rfl)) (fun _ _ _ h => h) (Or.inl ⟨by rfl, ?_⟩) ?_ ?_
           rotate_left
           ·
            intro w'
            go_simp
            with_reducible rfl
           rotate_left
           ·
            simp only [Act.put, List.setIfInBounds_toArray, List.set_cons_zero, List.set_cons_succ, i64_w, i32_w]
            rfl
           refine pure_ (i := 1) (N := some 26) (v := ?_) (a' := ?_) #[true,true,false,false,false,false,false,false,false,false,false] rfl rfl (any_of HT_.out (by kernel_rfl)) (fun _ _ _ h => h) (Or.inl ⟨by rfl, ?_⟩) ?_ ?_
           rotate_left
           ·
            intro w'
            go_simp
            with_reducible rfl
           rotate_left
           ·
            simp only [Act.put, List.setIfInBounds_toArray, List.set_cons_zero, List.set_cons_succ, i64_w, i32_w]
            rfl
           refine pure_ (i := 3) (N := some 28) (v := ?_) (a' := ?_) #[true,true,false,true,false,false,false,false,false,false,false] rfl rfl (any_of HT_.out (by kernel_rfl)) (fun _ _ _ h => h) (Or.inl ⟨by rfl, ?_⟩) ?_ ?_
           rotate_left
           ·
            intro w'
            go_simp
            with_reducible rfl
           rotate_left
           ·
            simp only [Act.put, List.setIfInBounds_toArray, List.set_cons_zero, List.set_cons_succ, i64_w, i32_w]
            rfl
           refine pure_ (i := 4) (N := some 29) (v := ?_) (a' := ?_) #[true,true,false,true,true,false,false,false,false,false,false] rfl rfl (any_of HT_.out (by kernel_rfl)) (fun _ _ _ h => h) (Or.inl ⟨by rfl, ?_⟩) ?_ ?_
           rotate_left
           ·
            intro w'
            go_simp
            with_reducible rfl
           rotate_left
           ·
            simp only [Act.put, List.setIfInBounds_toArray, List.set_cons_zero, List.set_cons_succ, i64_w, i32_w]
            rfl
           refine pure_ (i := 6) (N := some 31) (v := ?_) (a' := ?_) #[true,true,false,true,true,false,true,false,false,false,false] rfl rfl (any_of HT_.out (by kernel_rfl)) (fun _ _ _ h => h) (Or.inl ⟨by rfl, ?_⟩) ?_ ?_
           rotate_left
           ·
            intro w'
            go_simp
            with_reducible rfl
           rotate_left
           ·
            simp only [Act.put, List.setIfInBounds_toArray, List.set_cons_zero, List.set_cons_succ, i64_w, i32_w]
            rfl
           refine one_ (i := 2) (N := some 27) #[true,true,true,true,true,false,true,false,false,false,false] rfl rfl (one_of HT_.out (by kernel_rfl)) (by decide) (fun K hK => ?_)
           refine goes_ Try.func59 (by kernel_rfl) rfl #[.slice A31 ((((l0.take ((wrap64 (16 + (wrap64 (24 * (wrap64 (x13_1 + 1)))))) : Int).toNat).drop ((ji5) : Int).toNat).take 16).drop 8).length ((c0 - (ji5).toNat) - 8)] (by rfl) rfl rfl (by (try simp only [List.map_toArray, List.map_cons, List.map_nil]); first | done | (rw [show ((((l0.take ((wrap64 (16 + (wrap64 (24 * (wrap64 (x13_1 + 1)))))) : Int).toNat).drop ((ji5) : Int).toNat).take 16).drop 8).length = (16 - 8) from (by rw [List.length_drop, List.length_take]; have h_ : (16 : Int) ≤ (((l0.take ((wrap64 (16 + (wrap64 (24 * (wrap64 (x13_1 + 1)))))) : Int).toNat).drop ((ji5) : Int).toNat).length : Int) := of_decide_eq_true (by first | (with_reducible assumption) | assumption); omega)] <;> rfl) | (simp only [hji5]; rfl) | rfl | (simp only [List.length_drop, List.length_take]; rfl) | (simp only [List.length_drop, List.length_take]; rw [Nat.min_eq_left (show (wrap64 (16 + (wrap64 (24 * (wrap64 (x13_1 + 1)))))).toNat ≤ l0.length by omega)]; rfl)) ?_
           with_reducible refine (lock_get.calls k1 _ _ ((((l0.take ((wrap64 (16 + (wrap64 (24 * (wrap64 (x13_1 + 1)))))) : Int).toNat).drop ((ji5) : Int).toNat).take 16).drop 8) t121 _ ?side1 ?side2 A11.out).mono ?_
           (case side1 => repeat (first | exact (Kd.C_below HR120.out HB.out) | (with_reducible refine Kd.C_alloc ?_ _) | (with_reducible refine Kd.C_drewN ?_ _) | (with_reducible refine Kd.C_drew ?_)))
           (case side2 => exact HC120.out)
           rintro e w' ⟨rfl, ⟨nd, rfl⟩⟩
           refine ⟨_, rfl, ?_⟩
           refine hK.out _ _ trivial (fun hHeld => ?_)
           clear hK K
           refine norm_ (a' := ?_) ?_ ?_
           rotate_left
           ·
            show Act.put _ (some 27) _ = _
            simp only [Act.put, List.setIfInBounds_toArray, List.set_cons_zero, List.set_cons_succ, i64_w, i32_w]
            rfl
           refine one_ (i := 5) (N := some 30) #[true,true,true,true,true,true,true,false,false,false,false] rfl rfl (one_of HT_.out (by kernel_rfl)) (by decide) (fun K hK => ?_)
           refine goes_ Try.func59 (by kernel_rfl) rfl #[.slice A29 (((l0.take ((wrap64 (16 + (wrap64 (24 * (wrap64 (x13_1 + 1)))))) : Int).toNat).drop ((ji5) : Int).toNat).take 8).length (c0 - (ji5).toNat)] (by rfl) rfl rfl (by (try simp only [List.map_toArray, List.map_cons, List.map_nil]); first | done | (rw [show (((l0.take ((wrap64 (16 + (wrap64 (24 * (wrap64 (x13_1 + 1)))))) : Int).toNat).drop ((ji5) : Int).toNat).take 8).length = 8 from (by rw [List.length_take]; have h_ : (8 : Int) ≤ (((l0.take ((wrap64 (16 + (wrap64 (24 * (wrap64 (x13_1 + 1)))))) : Int).toNat).drop ((ji5) : Int).toNat).length : Int) := of_decide_eq_true (by first | (with_reducible assumption) | assumption); omega)] <;> rfl) | (simp only [hji5]; rfl) | rfl | (simp only [List.length_drop, List.length_take]; rfl) | (simp only [List.length_drop, List.length_take]; rw [Nat.min_eq_left (show (wrap64 (16 + (wrap64 (24 * (wrap64 (x13_1 + 1)))))).toNat ≤ l0.length by omega)]; rfl)) ?_
           with_reducible refine (lock_get.calls k1 _ _ (((l0.take ((wrap64 (16 + (wrap64 (24 * (wrap64 (x13_1 + 1)))))) : Int).toNat).drop ((ji5) : Int).toNat).take 8) t123 _ ?side1 ?side2 A13.out).mono ?_
           (case side1 => repeat (first | exact (Kd.C_below HR122.out (by repeat (first | (with_reducible first | exact HB.out | apply below_alloc | apply pw_below_drewN | apply below_drew1) | exact HB.out))) | (with_reducible refine Kd.C_alloc ?_ _) | (with_reducible refine Kd.C_drewN ?_ _) | (with_reducible refine Kd.C_drew ?_)))
           (case side2 => exact HC122.out)
           rintro e w' ⟨rfl, ⟨nd, rfl⟩⟩
           refine ⟨_, rfl, ?_⟩
           refine hK.out _ _ trivial (fun hHeld => ?_)
           clear hK K
           refine norm_ (a' := ?_) ?_ ?_
           rotate_left
           ·
            show Act.put _ (some 30) _ = _
            simp only [Act.put, List.setIfInBounds_toArray, List.set_cons_zero, List.set_cons_succ, i64_w, i32_w]
            rfl
           refine one_ (i := 7) (N := some 32) #[true,true,true,true,true,true,true,true,false,false,false] rfl rfl (one_of HT_.out (by kernel_rfl)) (by decide) (fun K hK => ?_)
           refine goes_ Try.func63 (by kernel_rfl) rfl #[.int .u64 t123, .string a2] (by rfl) rfl rfl (by (try simp only [List.map_toArray, List.map_cons, List.map_nil]); first | done | rfl | (simp only [List.length_drop, List.length_take]; rfl)) ?_
           with_reducible refine (lock_mixed.calls k1 t123 a2 t124 _ A14.out).mono ?_
           rintro e w33 ⟨rfl, hb⟩
           refine ⟨_, rfl, ?_⟩
           have n0_ := Aside0.mk (below_step (by repeat (first | (with_reducible first | exact HB.out | apply below_alloc | apply pw_below_drewN | apply below_drew1) | exact HB.out)) hb)
           clear HB
           have HB := n0_
           clear n0_
           (try clear hb)
           (try clear hb2)
           (try clear hk)
           (try clear hi)
           refine hK.out _ _ trivial (fun hHeld => ?_)
           clear hK K
           refine norm_ (a' := ?_) ?_ ?_
           rotate_left
           ·
            show Act.put _ (some 32) _ = _
            simp only [Act.put, List.setIfInBounds_toArray, List.set_cons_zero, List.set_cons_succ, i64_w, i32_w]
            rfl
           refine one_ (i := 8) (N := some 33) #[true,true,true,true,true,true,true,true,true,false,false] rfl rfl (one_of HT_.out (by kernel_rfl)) (by decide) (fun K hK => ?_)
           refine goes_ Try.func63 (by kernel_rfl) rfl #[.int .u64 t124, .string (⟨#[105, 110]⟩ : ByteArray)] (by rfl) rfl rfl (by (try simp only [List.map_toArray, List.map_cons, List.map_nil]); first | done | rfl | (simp only [List.length_drop, List.length_take]; rfl)) ?_
           with_reducible refine (lock_mixed.calls k1 t124 (⟨#[105, 110]⟩ : ByteArray) t125 _ A15.out).mono ?_
           rintro e w34 ⟨rfl, hb⟩
           refine ⟨_, rfl, ?_⟩
           have n0_ := Aside0.mk (below_step (by repeat (first | (with_reducible first | exact HB.out | apply below_alloc | apply pw_below_drewN | apply below_drew1) | exact HB.out)) hb)
           clear HB
           have HB := n0_
           clear n0_
           (try clear hb)
           (try clear hb2)
           (try clear hk)
           (try clear hi)
           refine hK.out _ _ trivial (fun hHeld => ?_)
           clear hK K
           refine norm_ (a' := ?_) ?_ ?_
           rotate_left
           ·
            show Act.put _ (some 33) _ = _
            simp only [Act.put, List.setIfInBounds_toArray, List.set_cons_zero, List.set_cons_succ, i64_w, i32_w]
            rfl
           refine pure_ (i := 9) (N := some 34) (v := ?_) (a' := ?_) #[true,true,true,true,true,true,true,true,true,true,false] rfl rfl (any_of HT_.out (by kernel_rfl)) (fun _ _ _ h => h) (Or.inl ⟨by rfl, ?_⟩) ?_ ?_
           rotate_left
           ·
            intro w'
            go_simp
            with_reducible rfl
           rotate_left
           ·
            simp only [Act.put, List.setIfInBounds_toArray, List.set_cons_zero, List.set_cons_succ, i64_w, i32_w]
            rfl
           refine pure_ (i := 10) (N := some 11) (v := ?_) (a' := ?_) #[true,true,true,true,true,true,true,true,true,true,true] rfl rfl (any_of HT_.out (by kernel_rfl)) (fun _ _ _ h => h) (Or.inl ⟨by rfl, ?_⟩) ?_ ?_
           rotate_left
           ·
            intro w'
            go_simp
            with_reducible rfl
           rotate_left
           ·
            simp only [Act.put, List.setIfInBounds_toArray, List.set_cons_zero, List.set_cons_succ, i64_w, i32_w]
            rfl
           refine done_ (done_of HT_.out (by kernel_rfl)) ?_
           try go_wp2
           have n0_ := Aside0.mk (below_drew1 HB.out)
           clear HB
           have HB := n0_
           clear n0_
           obtain ⟨i036, hi036, _, hsz36, _⟩ := info_parts info5
           obtain ⟨A36, hcut36, hA36, hC36⟩ := print_drop_of (P := Try.prog) (Value.int .u8) 0 22 5 .i64 Try.underlying22 hi036 hsz36 A29 (c0 - (ji5).toNat) ((l0.take ((wrap64 (16 + (wrap64 (24 * (wrap64 (x13_1 + 1)))))) : Int).toNat).drop ((ji5) : Int).toNat) 16 (by omega) (of_decide_eq_true (by first | (with_reducible assumption) | assumption)) HC119.out
           try rw [show ((l0.take ((wrap64 (16 + (wrap64 (24 * (wrap64 (x13_1 + 1)))))) : Int).toNat).drop ((ji5) : Int).toNat).length = (wrap64 (16 + (wrap64 (24 * (wrap64 (x13_1 + 1)))))).toNat - (ji5).toNat by rw [List.length_drop, List.length_take]; omega] at hcut36
           have HR127 := Aside0.mk (Kd.C_of_reads (h1 := fun _ => rfl) (hA36 _ (Kd.reads_of_C HR119.out)))
           have HC127 := Aside0.mk hC36
           clear hA36 hC36 hi036 hsz36
           refine start_ (n := 6) (S := fun w' => True) (ds := []) #[false,false,false,false,false,false] (by kernel_rfl) rfl rfl trivial (fun hHeld => ?_)
           generalize w34.drew = w35 at HB HR127 hHeld ⊢
           refine pure_ (i := 0) (N := some 35) (v := ?_) (a' := ?_) #[true,false,false,false,false,false] rfl rfl (by kernel_rfl) (fun _ _ _ h => h) (Or.inl ⟨by rfl, ?_⟩) ?_ ?_
           rotate_left
           ·
            intro w'
            go_simp
            with_reducible rfl
           rotate_left
           ·
            simp only [Act.put, List.setIfInBounds_toArray, List.set_cons_zero, List.set_cons_succ, i64_w, i32_w]
            rfl
           refine pure_ (i := 2) (N := some 37) (v := ?_) (a' := ?_) #[true,false,true,false,false,false] rfl rfl (by kernel_rfl) (fun _ _ _ h => h) (Or.inl ⟨by rfl, ?_⟩) ?_ ?_
           rotate_left
           ·
            intro w'
            go_simp
            with_reducible rfl
           rotate_left
           ·
            simp only [Act.put, List.setIfInBounds_toArray, List.set_cons_zero, List.set_cons_succ, i64_w, i32_w]
            rfl
           refine pure_ (i := 3) (N := some 38) (v := ?_) (a' := ?_) #[true,false,true,true,false,false] rfl rfl (by kernel_rfl) (fun _ _ _ h => h) (Or.inl ⟨by rfl, ?_⟩) ?_ ?_
           rotate_left
           ·
            intro w'
            go_simp
            with_reducible rfl
           rotate_left
           ·
            simp only [Act.put, List.setIfInBounds_toArray, List.set_cons_zero, List.set_cons_succ, i64_w, i32_w]
            rfl
           refine one_ (i := 1) (N := some 36) #[true,true,true,true,false,false] rfl rfl (by kernel_rfl) (by decide) (fun K hK => ?_)
           refine goes_ Try.func63 (by kernel_rfl) rfl #[.int .u64 (Go.bits .xor .u64 t121 t125), .string (⟨#[111, 107]⟩ : ByteArray)] (by rfl) rfl rfl (by (try simp only [List.map_toArray, List.map_cons, List.map_nil]); first | done | rfl | (simp only [List.length_drop, List.length_take]; rfl)) ?_
           with_reducible refine (lock_mixed.calls k1 (Go.bits .xor .u64 t121 t125) (⟨#[111, 107]⟩ : ByteArray) t126 _ A16.out).mono ?_
           rintro e w37 ⟨rfl, hb⟩
           refine ⟨_, rfl, ?_⟩
           have n0_ := Aside0.mk (below_step (by repeat (first | (with_reducible first | exact HB.out | apply below_alloc | apply pw_below_drewN | apply below_drew1) | exact HB.out)) hb)
           clear HB
           have HB := n0_
           clear n0_
           (try clear hb)
           (try clear hb2)
           (try clear hk)
           (try clear hi)
           refine hK.out _ _ trivial (fun hHeld => ?_)
           clear hK K
           refine norm_ (a' := ?_) ?_ ?_
           rotate_left
           ·
            show Act.put _ (some 36) _ = _
            simp only [Act.put, List.setIfInBounds_toArray, List.set_cons_zero, List.set_cons_succ, i64_w, i32_w]
            rfl
           refine one_ (i := 4) (N := some 39) #[true,true,true,true,true,false] rfl rfl (by kernel_rfl) (by decide) (fun K hK => ?_)
           refine goes_ Try.func59 (by kernel_rfl) rfl #[.slice A36 (((l0.take ((wrap64 (16 + (wrap64 (24 * (wrap64 (x13_1 + 1)))))) : Int).toNat).drop ((ji5) : Int).toNat).drop 16).length ((c0 - (ji5).toNat) - 16)] (by rfl) rfl rfl (by (try simp only [List.map_toArray, List.map_cons, List.map_nil]); first | done | (rw [show (((l0.take ((wrap64 (16 + (wrap64 (24 * (wrap64 (x13_1 + 1)))))) : Int).toNat).drop ((ji5) : Int).toNat).drop 16).length = (((l0.take ((wrap64 (16 + (wrap64 (24 * (wrap64 (x13_1 + 1)))))) : Int).toNat).drop ((ji5) : Int).toNat).length - 16) from List.length_drop] <;> rfl) | (simp only [hji5]; rfl) | rfl | (simp only [List.length_drop, List.length_take]; rfl) | (simp only [List.length_drop, List.length_take]; rw [Nat.min_eq_left (show (wrap64 (16 + (wrap64 (24 * (wrap64 (x13_1 + 1)))))).toNat ≤ l0.length by omega)]; rfl)) ?_
           with_reducible refine (lock_get.calls k1 _ _ (((l0.take ((wrap64 (16 + (wrap64 (24 * (wrap64 (x13_1 + 1)))))) : Int).toNat).drop ((ji5) : Int).toNat).drop 16) t128 _ ?side1 ?side2 A18.out).mono ?_
           (case side1 => repeat (first | exact (Kd.C_below HR127.out HB.out) | (with_reducible refine Kd.C_alloc ?_ _) | (with_reducible refine Kd.C_drewN ?_ _) | (with_reducible refine Kd.C_drew ?_)))
           (case side2 => exact HC127.out)
           rintro e w' ⟨rfl, ⟨nd, rfl⟩⟩
           refine ⟨_, rfl, ?_⟩
           refine hK.out _ _ trivial (fun hHeld => ?_)
           clear hK K
           refine norm_ (a' := ?_) ?_ ?_
           rotate_left
           ·
            show Act.put _ (some 39) _ = _
            simp only [Act.put, List.setIfInBounds_toArray, List.set_cons_zero, List.set_cons_succ, i64_w, i32_w]
            rfl
           refine pure_ (i := 5) (N := some 40) (v := ?_) (a' := ?_) #[true,true,true,true,true,true] rfl rfl (by kernel_rfl) (fun _ _ _ h => h) (Or.inl ⟨by rfl, ?_⟩) ?_ ?_
           rotate_left
           ·
            intro w'
            go_simp
            with_reducible rfl
           rotate_left
           ·
            simp only [Act.put, List.setIfInBounds_toArray, List.set_cons_zero, List.set_cons_succ, i64_w, i32_w]
            rfl
           refine done_ (by kernel_rfl) ?_
           try go_wp2
           go_roundg k1
           case measure => have := HK1.out; omega
           case rel => exact ⟨(wrap64 (x13_1 + 1)), (by first | rfl | (simp; done) | (simp [*]; done)), (by first | exact H' | (simp only [hji5]; exact H')), ⟨by have := HK1.out; omega⟩, ⟨by repeat (first | (with_reducible first | exact HB.out | apply below_alloc | apply pw_below_drewN | apply below_drew1) | exact HB.out)⟩⟩
         ·
          rw [if_neg c12] at H
          exact absurd H (by simp)
        ·
         rw [if_neg c10] at H
         exact absurd H (by simp)
       ·
        rw [if_neg c9] at H
        exact absurd H (by simp)
      ·
       rw [if_neg c8] at H
       exact absurd H (by simp)
     ·
      rw [if_neg c7] at H
      exact absurd H (by simp)
    ·
     rw [if_neg c6] at H
     exact absurd H (by simp)
   ·
    rw [if_neg c4] at H
    have c4b0 : decide (x13_1 < a1) = false := decide_eq_false c4
    clear c4
    simp only [Option.some.injEq, Prod.mk.injEq] at H
    obtain ⟨rfl, rfl, rfl⟩ := H
    go_wp2
    go_ret3
    exact ⟨by first | rfl | (simp [errW_none, errW_some] <;> rfl) | (simp [*, errW_none, errW_some] <;> rfl), by repeat (first | (with_reducible first | exact HB.out | apply below_alloc | apply pw_below_drewN | apply below_drew1) | exact HB.out)⟩
/-- all lists, one after the other -/
def slices_Concat_byte.f (l0 : List (List Int)) : Option (List Int) := if totLen l0 ≤ 140737488355328 then some l0.flatten else none
set_option maxHeartbeats 2000000 in
set_option maxRecDepth 100000 in
theorem slices_Concat_byte_grow (n : Int) (w : World) (h0 : 0 ≤ n) (hn : n ≤ 140737488355328) :
  Calls Try.prog 78 #[.slice none 0 0, .int .i64 n] w fun e w' => ∃ v, e = .returned v ∧ Kd.R (Kd.int .u8) 5 w' w.heap.size (fun _ => True) v [] ∧ Below w.heap.size w w' := by
 have hd : decide (n < 0) = false := decide_eq_false (by omega)
 by_cases hz : 0 < n
 ·
  have hd2 : decide (0 < n) = true := decide_eq_true hz
  have hroom : (([] : List Int).length + n.toNat) * 1 ≤ 140737488355328 := by simp; omega
  obtain ⟨i5, hi5, hz0, hz1, hz2⟩ := info_parts info5
  go_enter Try.func78, Try.ntmps78
  go_wp2_with (first
   | (refine Kd.R_append_zeros (Kd.int .u8) _ rfl (.tmp 20) (.tmp 21) 22 3 5 (.int .u8 0) 1 rfl Try.underlying22 Try.underlying3 info5 rfl (by decide) (by decide) (.slice none 0 0) [] 0 n (fun _ => True) rfl rfl rfl (fun _ _ => trivial) (Kd.R_nil _ _ _ _ _) h0 (Below.refl _ _) (Nat.le_refl _) hroom ?_; intro v1 w1 HO HB hg hat; obtain ⟨A, c, rfl⟩ := Kd.R_slice HO; have hcut := cut_to (P := Try.prog) 22 5 .i64 Try.underlying22 hi5 A _ c 0 (by omega) (by omega) (Kd.R_reads' HO).2.1; have HT := Kd.R_take (m := 0) HO (by omega)))
  go_ret
  exact ⟨_, rfl, by simpa using HT, HB⟩
 ·
  have hd2 : decide (0 < n) = false := decide_eq_false hz
  go_enter Try.func78, Try.ntmps78
  go_wp2
  go_ret
  exact ⟨_, rfl, Kd.R_nil _ _ _ _ _, Below.refl _ _⟩
set_option maxHeartbeats 2000000 in
set_option maxRecDepth 100000 in
theorem slices_Concat_byte_any (A0 : Option Addr) (c0 : Nat) (l0 : List (List Int)) (w : World) (hr0 : Kd.C (Kd.slice 5 (Kd.int .u8)) w A0 l0.length l0) (hc0 : l0.length ≤ c0) (hl : totLen l0 ≤ 140737488355328) :
  Calls Try.prog 51 #[.slice A0 l0.length c0] w fun e w' => ∃ v, e = .returned v ∧ Kd.R (Kd.int .u8) 5 w' w.heap.size (fun _ => True) v l0.flatten ∧ Below w.heap.size w w' := by
 have hmax := Kd.C_max hr0
 go_enter Try.func51, Try.ntmps51
 go_wp2
 go_loop [3, 11] (fun s i => ∃ k : Nat, k ≤ l0.length ∧ i = .int .i64 k ∧ s = .int .i64 (totLen (l0.take k))) (fun _ i => l0.length - (intOf i).toNat)
 case atStart => exact ⟨0, Nat.zero_le _, rfl, rfl⟩
 case round =>
  obtain ⟨k, hk, rfl, rfl⟩ := hrel
  by_cases hlt : k < l0.length
  ·
   obtain ⟨ad, A1, c1, rfl, hcell, hle1, hC1⟩ := Kd.at_slice hr0 k hlt
   have ht := tot_take l0 k hlt
   have htl := tot_le l0 (k + 1)
   obtain ⟨m, hm⟩ : ∃ m, m = (l0.getD k []).length := ⟨_, rfl⟩
   rw [← hm] at hcell hle1 hC1 ht
   obtain ⟨T0, hT0⟩ : ∃ m, m = totLen (l0.take k) := ⟨_, rfl⟩
   rw [← hT0] at ht ⊢
   have hT1 := Aside0.mk ht
   have hb : T0 + m ≤ 140737488355328 := by omega
   clear ht htl hm hT0 hC1
   go_wp2
   go_round
   case rel => exact ⟨k + 1, by omega, by go_num, by rw [hT1.out]; go_num⟩
   case measure => simp [intOf]; omega
  ·
   have : k = l0.length := by omega
   subst this
   have HT := Aside0.mk (show totLen (l0.take l0.length) = totLen l0 by rw [List.take_length])
   rw [HT.out]
   have hb0 : (0 : Int) ≤ (totLen l0 : Int) := by omega
   have hb1 : (totLen l0 : Int) ≤ 140737488355328 := by omega
   go_wp2_with (first | (go_at_call 78; refine (slices_Concat_byte_grow _ _ hb0 hb1).mono ?_; rintro e w1 ⟨v, rfl, HO, HB⟩))
   go_loopw [6, 27] (fun v i wr => ∃ k : Nat, k ≤ l0.length ∧ i = .int .i64 k ∧ Aside0 (Kd.R (Kd.int .u8) 5 wr w.heap.size (fun _ => True) v (l0.take k).flatten) ∧ Aside0 (Below w.heap.size w wr)) (fun _ i _ => l0.length - (intOf i).toNat)
   case atStart => exact ⟨0, Nat.zero_le _, rfl, ⟨HO⟩, ⟨HB⟩⟩
   case round =>
    clear HO HB
    obtain ⟨k, hk, rfl, HO, HB⟩ := hrel
    by_cases hlt : k < l0.length
    ·
     obtain ⟨ad, A1, c1, rfl, hcell, hle1, hC1⟩ := Kd.at_slice (Kd.C_below hr0 HB.out) k hlt
     have HT2 := Aside0.mk (flat_take l0 k hlt)
     have ht := tot_take l0 k hlt
     have htl := tot_le l0 (k + 1)
     obtain ⟨ys, hys⟩ : ∃ ys, ys = l0.getD k [] := ⟨_, rfl⟩
     rw [← hys] at hcell hle1 hC1 HT2 ht
     have hC1 := Aside0.mk hC1
     obtain ⟨A, c, hv⟩ := Kd.R_slice HO.out
     have hroom : ((l0.take k).flatten.length + ys.length) * 1 ≤ 140737488355328 := by unfold totLen at *; omega
     clear ht htl hys
     subst hv
     go_wp2_with (first | (refine Kd.R_append_rows (Kd.int .u8) (Rr := (Kd.int .u8).K wr) w.heap.size rfl (.tmp 31) (.tmp 32) 22 5 (.int .u8 0) 1 rfl Try.underlying22 info5 rfl (by decide) (by decide) (.slice A (l0.take k).flatten.length c) (l0.take k).flatten ys A1 ys.length c1 (fun _ => True) (fun _ => False) rfl rfl HO.out hC1.out (fun _ _ h => h) (fun _ h => h.elim) (fun _ _ => trivial) HB.out HB.out.size hroom ?_; intro v1 w2 HO2 HB2 hg hat))
     go_roundw
     case rel => exact ⟨k + 1, by omega, by go_num, ⟨by rw [HT2.out]; exact HO2⟩, ⟨HB2⟩⟩
     case measure => simp [intOf]; omega
    ·
     have : k = l0.length := by omega
     subst this
     go_wp2
     go_ret
     exact ⟨_, rfl, by have := HO.out; rw [List.take_length] at this; exact this, HB.out⟩
theorem slices_Concat_byte.calls (A0 : Option Addr) (c0 : Nat) (l0 : List (List Int)) (r : List Int) (w : World) (hr0 : Kd.C (Kd.slice 5 (Kd.int .u8)) w A0 l0.length l0) (hc0 : l0.length ≤ c0) (h : slices_Concat_byte.f l0 = some r) :
  Calls Try.prog 51 #[.slice A0 l0.length c0] w fun e w' => ∃ v0_ : Value, e = .returned (v0_) ∧ Kd.R (Kd.int .u8) 5 w' w.heap.size (fun _ => True) v0_ r ∧ Below w.heap.size w w' := by
 unfold slices_Concat_byte.f at h
 split at h
 ·
  obtain rfl := Option.some.inj h
  exact slices_Concat_byte_any A0 c0 l0 w hr0 hc0 (by assumption)
 · cases h
def lock_slot.f (k : Nat) (a0 : Int) (a1 : Int) (a2 : ByteArray) : Option (List Int) := (lock_mixed.f k a0 a2).bind fun t129 => ((sum_Number.f k a0).bind fun t130 => ((lock_mixed.f k t129 (⟨#[105, 110]⟩ : ByteArray)).bind fun t133 => ((sum_Number.f k (Go.bits .xor .u64 a1 t133)).bind fun t134 => ((lock_mixed.f k a1 (⟨#[111, 107]⟩ : ByteArray)).bind fun t137 => ((sum_Number.f k t137).bind fun t138 => ((slices_Concat_byte.f (([t130, t134, t138] : List (List Int)))).bind fun t144 => (some t144)))))))
theorem lock_slot.mono : ∀ a0 a1 a2 k, LeO (lock_slot.f k a0 a1 a2) (lock_slot.f (k + 1) a0 a1 a2) := by
 intro a0 a1 a2 k
 unfold lock_slot.f
 repeat' first
   | (with_reducible exact lock_mixed.mono _ _ _)
   | (with_reducible exact sum_Number.mono _ _)
   | (with_reducible exact LeO.refl _)
   | (with_reducible exact LeO.none _)
   | (with_reducible refine LeO.ite ?_ ?_)
   | (with_reducible refine LeO.bind ?_ (fun _ => ?_))
   | exact lock_mixed.mono _ _ _
   | exact sum_Number.mono _ _
   | exact LeO.none _
   | refine LeO.ite ?_ ?_
   | refine LeO.bind ?_ (fun _ => ?_)
set_option maxHeartbeats 8000000 in
set_option maxRecDepth 100000 in
theorem lock_slot.calls (k : Nat) (a0 : Int) (a1 : Int) (a2 : ByteArray) (r : List Int) (w : World) (h : lock_slot.f k a0 a1 a2 = some r) :
  Calls Try.prog 62 #[.int .u64 a0, .int .u64 a1, .string a2] w fun e w' => ∃ v0_ : Value, e = .returned (v0_) ∧ Kd.R (Kd.int .u8) 5 w' w.heap.size (fun _ => True) v0_ r ∧ Below w.heap.size w w' := by
 have HB := Aside0.mk (Below.refl w.heap.size w)
 have H : ((lock_mixed.f k a0 a2).bind fun t129 => ((sum_Number.f k a0).bind fun t130 => ((lock_mixed.f k t129 (⟨#[105, 110]⟩ : ByteArray)).bind fun t133 => ((sum_Number.f k (Go.bits .xor .u64 a1 t133)).bind fun t134 => ((lock_mixed.f k a1 (⟨#[111, 107]⟩ : ByteArray)).bind fun t137 => ((sum_Number.f k t137).bind fun t138 => ((slices_Concat_byte.f (([t130, t134, t138] : List (List Int)))).bind fun t144 => (some t144)))))))) = some r := h
 clear h
 replace H := Option.bind_eq_some_iff.mp H
 obtain ⟨t129, A40, H⟩ := H
 replace H : ((sum_Number.f k a0).bind fun t130 => ((lock_mixed.f k t129 (⟨#[105, 110]⟩ : ByteArray)).bind fun t133 => ((sum_Number.f k (Go.bits .xor .u64 a1 t133)).bind fun t134 => ((lock_mixed.f k a1 (⟨#[111, 107]⟩ : ByteArray)).bind fun t137 => ((sum_Number.f k t137).bind fun t138 => ((slices_Concat_byte.f (([t130, t134, t138] : List (List Int)))).bind fun t144 => (some t144))))))) = some r := H
 have A4 := Aside0.mk A40
 clear A40
 replace H := Option.bind_eq_some_iff.mp H
 obtain ⟨t130, A50, H⟩ := H
 replace H : ((lock_mixed.f k t129 (⟨#[105, 110]⟩ : ByteArray)).bind fun t133 => ((sum_Number.f k (Go.bits .xor .u64 a1 t133)).bind fun t134 => ((lock_mixed.f k a1 (⟨#[111, 107]⟩ : ByteArray)).bind fun t137 => ((sum_Number.f k t137).bind fun t138 => ((slices_Concat_byte.f (([t130, t134, t138] : List (List Int)))).bind fun t144 => (some t144)))))) = some r := H
 have A5 := Aside0.mk A50
 clear A50
 replace H := Option.bind_eq_some_iff.mp H
 obtain ⟨t133, A60, H⟩ := H
 replace H : ((sum_Number.f k (Go.bits .xor .u64 a1 t133)).bind fun t134 => ((lock_mixed.f k a1 (⟨#[111, 107]⟩ : ByteArray)).bind fun t137 => ((sum_Number.f k t137).bind fun t138 => ((slices_Concat_byte.f (([t130, t134, t138] : List (List Int)))).bind fun t144 => (some t144))))) = some r := H
 have A6 := Aside0.mk A60
 clear A60
 replace H := Option.bind_eq_some_iff.mp H
 obtain ⟨t134, A70, H⟩ := H
 replace H : ((lock_mixed.f k a1 (⟨#[111, 107]⟩ : ByteArray)).bind fun t137 => ((sum_Number.f k t137).bind fun t138 => ((slices_Concat_byte.f (([t130, t134, t138] : List (List Int)))).bind fun t144 => (some t144)))) = some r := H
 have A7 := Aside0.mk A70
 clear A70
 replace H := Option.bind_eq_some_iff.mp H
 obtain ⟨t137, A80, H⟩ := H
 replace H : ((sum_Number.f k t137).bind fun t138 => ((slices_Concat_byte.f (([t130, t134, t138] : List (List Int)))).bind fun t144 => (some t144))) = some r := H
 have A8 := Aside0.mk A80
 clear A80
 replace H := Option.bind_eq_some_iff.mp H
 obtain ⟨t138, A90, H⟩ := H
 replace H : ((slices_Concat_byte.f (([t130, t134, t138] : List (List Int)))).bind fun t144 => (some t144)) = some r := H
 have A9 := Aside0.mk A90
 clear A90
 obtain ⟨y141, hy141⟩ : ∃ y_ : List (List Int), y_ = (([t130, t134, t138] : List (List Int))) := ⟨_, rfl⟩
 replace H : ((slices_Concat_byte.f y141).bind fun t144 => (some t144)) = some r := by first | (rw [hy141]; with_reducible exact H) | (have H2_ := (Option.bind_some _ _).symm.trans H; rw [hy141]; with_reducible exact H2_) | (have H2_ := (Option.bind_some _ _).symm.trans H; with_reducible exact H2_) | with_reducible exact H | (rw [hy141]; exact H) | exact H
 have Ny141 := Aside0.mk hy141
 clear hy141
 replace H := Option.bind_eq_some_iff.mp H
 obtain ⟨t144, A100, H⟩ := H
 replace H : (some t144) = some r := H
 have A10 := Aside0.mk A100
 clear A100
 obtain rfl := Option.some.inj H
 go_enter Try.func62, Try.ntmps62
 go_wp2_with (first | ((with_reducible refine gate_callee (f := 63) rfl ?_); refine goesL_ (some 10) rfl rfl Try.func63 (by kernel_rfl) rfl #[.int .u64 a0, .string a2] rfl (by (try simp only [List.map_toArray, List.map_cons, List.map_nil]); first | done | rfl | (simp only [List.length_drop, List.length_take]; rfl)) ?_; (with_reducible refine (lock_mixed.calls k a0 a2 t129 _ A4.out).mono ?_); rintro e w11 ⟨rfl, hb⟩; refine ⟨_, rfl, ?_⟩; have n0_ := Aside0.mk (below_step (by repeat (first | (with_reducible first | exact HB.out | apply below_alloc | apply pw_below_drewN | apply below_drew1) | exact HB.out)) hb); clear HB; have HB := n0_; clear n0_; (try clear hb); (try clear hb2); (try clear hk); (try clear hi)) | ((with_reducible refine gate_callee (f := 30) rfl ?_); refine goesL_ (some 12) rfl rfl Try.func30 (by kernel_rfl) rfl #[.int .u64 a0] rfl (by (try simp only [List.map_toArray, List.map_cons, List.map_nil]); first | done | rfl | (simp only [List.length_drop, List.length_take]; rfl)) ?_; (with_reducible refine (sum_Number.calls k a0 t130 _ A5.out).mono ?_); rintro e w12 ⟨v131, rfl, ho0, hb⟩; refine ⟨_, rfl, ?_⟩; have n0_ := Aside0.mk (Kd.R_lower ho0 (below_size (by repeat (first | (with_reducible first | exact HB.out | apply below_alloc | apply pw_below_drewN | apply below_drew1) | exact HB.out)))); have n1_ := Aside0.mk (below_step (by repeat (first | (with_reducible first | exact HB.out | apply below_alloc | apply pw_below_drewN | apply below_drew1) | exact HB.out)) hb); clear HB; have HO132 := n0_; have HB := n1_; clear n0_ n1_; (try clear hb); (try clear hb2); (try clear hk); (try clear hi); (try clear ho0)) | ((with_reducible refine gate_callee (f := 63) rfl ?_); refine goesL_ (some 15) rfl rfl Try.func63 (by kernel_rfl) rfl #[.int .u64 t129, .string (⟨#[105, 110]⟩ : ByteArray)] rfl (by (try simp only [List.map_toArray, List.map_cons, List.map_nil]); first | done | rfl | (simp only [List.length_drop, List.length_take]; rfl)) ?_; (with_reducible refine (lock_mixed.calls k t129 (⟨#[105, 110]⟩ : ByteArray) t133 _ A6.out).mono ?_); rintro e w13 ⟨rfl, hb⟩; refine ⟨_, rfl, ?_⟩; have n0_ := Aside0.mk (Kd.R_below (by (with_reducible repeat (first | apply Kd.R_alloc | apply Kd.R_drewN | apply Kd.R_drew)); exact HO132.out) hb); have n1_ := Aside0.mk (below_step (by repeat (first | (with_reducible first | exact HB.out | apply below_alloc | apply pw_below_drewN | apply below_drew1) | exact HB.out)) hb); clear HO132; clear HB; have HO132 := n0_; have HB := n1_; clear n0_ n1_; (try clear hb); (try clear hb2); (try clear hk); (try clear hi)) | ((with_reducible refine gate_callee (f := 30) rfl ?_); refine goesL_ (some 17) rfl rfl Try.func30 (by kernel_rfl) rfl #[.int .u64 (Go.bits .xor .u64 a1 t133)] rfl (by (try simp only [List.map_toArray, List.map_cons, List.map_nil]); first | done | rfl | (simp only [List.length_drop, List.length_take]; rfl)) ?_; (with_reducible refine (sum_Number.calls k (Go.bits .xor .u64 a1 t133) t134 _ A7.out).mono ?_); rintro e w14 ⟨v135, rfl, ho0, hb⟩; refine ⟨_, rfl, ?_⟩; have n0_ := Aside0.mk (Kd.R_elder' (by (with_reducible repeat (first | apply Kd.R_alloc | apply Kd.R_drewN | apply Kd.R_drew)); exact HO132.out) (Kd.R_base ho0) hb); have n1_ := Aside0.mk (Kd.R_lower (Kd.R_new' ho0 (Kd.R_lt (by (with_reducible repeat (first | apply Kd.R_alloc | apply Kd.R_drewN | apply Kd.R_drew)); exact HO132.out))) (below_size (by repeat (first | (with_reducible first | exact HB.out | apply below_alloc | apply pw_below_drewN | apply below_drew1) | exact HB.out)))); have n2_ := Aside0.mk (below_step (by repeat (first | (with_reducible first | exact HB.out | apply below_alloc | apply pw_below_drewN | apply below_drew1) | exact HB.out)) hb); clear HO132; clear HB; have HO132 := n0_; have HO136 := n1_; have HB := n2_; clear n0_ n1_ n2_; (try clear hb); (try clear hb2); (try clear hk); (try clear hi); (try clear ho0)) | ((with_reducible refine gate_callee (f := 63) rfl ?_); refine goesL_ (some 19) rfl rfl Try.func63 (by kernel_rfl) rfl #[.int .u64 a1, .string (⟨#[111, 107]⟩ : ByteArray)] rfl (by (try simp only [List.map_toArray, List.map_cons, List.map_nil]); first | done | rfl | (simp only [List.length_drop, List.length_take]; rfl)) ?_; (with_reducible refine (lock_mixed.calls k a1 (⟨#[111, 107]⟩ : ByteArray) t137 _ A8.out).mono ?_); rintro e w15 ⟨rfl, hb⟩; refine ⟨_, rfl, ?_⟩; have n0_ := Aside0.mk (Kd.R_below (by (with_reducible repeat (first | apply Kd.R_alloc | apply Kd.R_drewN | apply Kd.R_drew)); exact HO132.out) hb); have n1_ := Aside0.mk (Kd.R_below (by (with_reducible repeat (first | apply Kd.R_alloc | apply Kd.R_drewN | apply Kd.R_drew)); exact HO136.out) hb); have n2_ := Aside0.mk (below_step (by repeat (first | (with_reducible first | exact HB.out | apply below_alloc | apply pw_below_drewN | apply below_drew1) | exact HB.out)) hb); clear HO132; clear HO136; clear HB; have HO132 := n0_; have HO136 := n1_; have HB := n2_; clear n0_ n1_ n2_; (try clear hb); (try clear hb2); (try clear hk); (try clear hi)) | ((with_reducible refine gate_callee (f := 30) rfl ?_); refine goesL_ (some 20) rfl rfl Try.func30 (by kernel_rfl) rfl #[.int .u64 t137] rfl (by (try simp only [List.map_toArray, List.map_cons, List.map_nil]); first | done | rfl | (simp only [List.length_drop, List.length_take]; rfl)) ?_; (with_reducible refine (sum_Number.calls k t137 t138 _ A9.out).mono ?_); rintro e w16 ⟨v139, rfl, ho0, hb⟩; refine ⟨_, rfl, ?_⟩; have n0_ := Aside0.mk (Kd.R_elder' (by (with_reducible repeat (first | apply Kd.R_alloc | apply Kd.R_drewN | apply Kd.R_drew)); exact HO132.out) (Kd.R_base ho0) hb); have n1_ := Aside0.mk (Kd.R_elder' (by (with_reducible repeat (first | apply Kd.R_alloc | apply Kd.R_drewN | apply Kd.R_drew)); exact HO136.out) (Kd.R_base ho0) hb); have n2_ := Aside0.mk (Kd.R_lower (Kd.R_new' (Kd.R_new' ho0 (Kd.R_lt (by (with_reducible repeat (first | apply Kd.R_alloc | apply Kd.R_drewN | apply Kd.R_drew)); exact HO132.out))) (Kd.R_lt (by (with_reducible repeat (first | apply Kd.R_alloc | apply Kd.R_drewN | apply Kd.R_drew)); exact HO136.out))) (below_size (by repeat (first | (with_reducible first | exact HB.out | apply below_alloc | apply pw_below_drewN | apply below_drew1) | exact HB.out)))); have n3_ := Aside0.mk (below_step (by repeat (first | (with_reducible first | exact HB.out | apply below_alloc | apply pw_below_drewN | apply below_drew1) | exact HB.out)) hb); clear HO132; clear HO136; clear HB; have HO132 := n0_; have HO136 := n1_; have HO140 := n2_; have HB := n3_; clear n0_ n1_ n2_ n3_; (try clear hb); (try clear hb2); (try clear hk); (try clear hi); (try clear ho0); obtain ⟨Ao17, co17, eo17⟩ := Kd.R_slice HO132.out; subst eo17; obtain ⟨Ao18, co18, eo18⟩ := Kd.R_slice HO136.out; subst eo18; obtain ⟨Ao19, co19, eo19⟩ := Kd.R_slice HO140.out; subst eo19) | ((with_reducible refine gate_dst (N := 21) rfl ?_); refine Kd.N_lit (Kd.slice 5 (Kd.int .u8)) _ 22 ?hg (N' := 21) ?hd (xs := ([t130, t134, t138] : List (List Int))) (inner := [.slice Ao17 t130.length co17, .slice Ao18 t134.length co18, .slice Ao19 t138.length co19]) (ok := (fun _ => True)) (okp := (fun _ => True)) ?hr ?hp (fun _ hk => hk) ((show ∀ k_, w16.heap.size ≤ k_ → (fun _ => True) k_ from fun k_ hk => trivial) _ (Nat.le_refl _)) (Below.refl _ _) (Nat.le_refl _) (by simp) ?_; (case hd => rfl); (case hg => rfl); (case hr => first | (go_simp; done) | (go_simp; rfl)); (case hp => exact (Reps.one (show Kd.FK (Kd.slice 5 (Kd.int .u8)) _ _ t130 [.slice Ao17 t130.length co17] from (Kd.FK_slice_mk (Kd.R_reads' (Kd.R_mono (ok' := (fun _ => True)) (HO132.out) (fun k_ hk => trivial))).2.1 (Kd.R_F (Kd.R_mono (ok' := (fun _ => True)) (HO132.out) (fun k_ hk => trivial))))) (Reps.one (show Kd.FK (Kd.slice 5 (Kd.int .u8)) _ _ t134 [.slice Ao18 t134.length co18] from (Kd.FK_slice_mk (Kd.R_reads' (Kd.R_mono (ok' := (fun _ => True)) (HO136.out) (fun k_ hk => trivial))).2.1 (Kd.R_F (Kd.R_mono (ok' := (fun _ => True)) (HO136.out) (fun k_ hk => trivial))))) (Reps.one (show Kd.FK (Kd.slice 5 (Kd.int .u8)) _ _ t138 [.slice Ao19 t138.length co19] from (Kd.FK_slice_mk (Kd.R_reads' (Kd.R_mono (ok' := (fun _ => True)) (HO140.out) (fun k_ hk => trivial))).2.1 (Kd.R_F (Kd.R_mono (ok' := (fun _ => True)) (HO140.out) (fun k_ hk => trivial))))) (Reps.none _ _))))); intro v142 w20 ho21 hb hg_ hnew_; clear hg_ hnew_; (first | rw [← Ny141.out] at ho21 | (simp only [Int.reduceToNat] at ho21; rw [← Ny141.out] at ho21)); have n0_ := Aside0.mk (Kd.N_lower ho21 (below_size (by repeat (first | (with_reducible first | exact HB.out | apply below_alloc | apply pw_below_drewN | apply below_drew1) | exact HB.out)))); have n1_ := Aside0.mk (below_step (by repeat (first | (with_reducible first | exact HB.out | apply below_alloc | apply pw_below_drewN | apply below_drew1) | exact HB.out)) hb); clear HB; clear HO132; clear HO136; clear HO140; have HO143 := n0_; have HB := n1_; clear n0_ n1_; clear hb ho21; obtain ⟨Ao22, co22, eo22⟩ := Kd.N_slice HO143.out; subst eo22) | ((with_reducible refine gate_callee (f := 51) rfl ?_); refine goesL_ (some 22) rfl rfl Try.func51 (by kernel_rfl) rfl #[.slice Ao22 y141.length co22] rfl (by (try simp only [List.map_toArray, List.map_cons, List.map_nil]); first | done | rfl | (simp only [List.length_drop, List.length_take]; rfl)) ?_; (with_reducible refine (slices_Concat_byte.calls _ _ y141 t144 _ ?side1 ?side2 A10.out).mono ?_); (case side1 => repeat (first | exact (Kd.N_reads' HO143.out).2.2 | (with_reducible refine Kd.C_alloc ?_ _) | (with_reducible refine Kd.C_drewN ?_ _) | (with_reducible refine Kd.C_drew ?_))); (case side2 => exact (Kd.N_reads' HO143.out).2.1); rintro e w23 ⟨v145, rfl, ho0, hb⟩; refine ⟨_, rfl, ?_⟩; have n0_ := Aside0.mk (Kd.N_elder' (by (with_reducible repeat (first | apply Kd.N_alloc | apply Kd.N_drewN | apply Kd.N_drew)); exact HO143.out) (Kd.R_base ho0) hb); have n1_ := Aside0.mk (Kd.R_lower ho0 (below_size (by repeat (first | (with_reducible first | exact HB.out | apply below_alloc | apply pw_below_drewN | apply below_drew1) | exact HB.out)))); have n2_ := Aside0.mk (below_step (by repeat (first | (with_reducible first | exact HB.out | apply below_alloc | apply pw_below_drewN | apply below_drew1) | exact HB.out)) hb); clear HO143; clear HB; have HO143 := n0_; have HO146 := n1_; have HB := n2_; clear n0_ n1_ n2_; (try clear hb); (try clear hb2); (try clear hk); (try clear hi); (try clear ho0)))
 go_ret
 exact ⟨_, by first | rfl | (simp [errW_none, errW_some] <;> rfl) | (simp [*, errW_none, errW_some] <;> rfl), by (with_reducible repeat (first | apply Kd.R_alloc | apply Kd.R_drewN | apply Kd.R_drew)); exact HO146.out, by repeat (first | (with_reducible first | exact HB.out | apply below_alloc | apply pw_below_drewN | apply below_drew1) | exact HB.out)⟩
-- import Derived.Lib.SliceRun
/-- a copy -/
def slices_Clone_byte.f (l0 : List Int) : Option (List Int) := if l0.length ≤ 140737488355328 then some l0 else none
set_option maxHeartbeats 2000000 in
set_option maxRecDepth 100000 in
theorem slices_Clone_byte.calls (A0 : Option Addr) (c0 : Nat) (l0 : List Int) (r : List Int) (w : World) (hr0 : Kd.C (Kd.int .u8) w A0 l0.length l0) (hc0 : l0.length ≤ c0) (h : slices_Clone_byte.f l0 = some r) :
  Calls Try.prog 52 #[.slice A0 l0.length c0] w fun e w' => ∃ v0_ : Value, e = .returned v0_ ∧ Kd.R (Kd.int .u8) 5 w' w.heap.size (fun _ => True) v0_ r ∧ Below w.heap.size w w' := by
 unfold slices_Clone_byte.f at h
 split at h
 ·
  rename_i hl
  obtain rfl := Option.some.inj h
  have q22 : ∀ (w : World) (a : Option Addr) (n c n' c' : Nat), (binOp .eql 22 (.slice a n c) (.slice none n' c')).run Try.prog w = .ok (.bool a.isNone) w := fun w a n c n' c' => Go.Lib.run_eql_slice_nil w _ _ a n c n' c' Try.underlying22
  cases A0 with
  | none =>
   have h0 : l0 = [] := by
    refine List.eq_nil_of_length_eq_zero ?_
    rcases Nat.eq_zero_or_pos l0.length with h | h
    · exact h
    ·
     obtain ⟨a, ha, _⟩ := hr0.2.2 h
     exact absurd ha (by simp)
   subst h0
   clear hr0
   go_enter Try.func52, Try.ntmps52
   go_wp2
   go_ret
   exact ⟨_, rfl, Kd.R_nil _ _ _ _ _, Below.refl _ _⟩
  | some ad =>
   have HR := Aside0.mk hr0
   clear hr0
   go_enter Try.func52, Try.ntmps52
   go_wp2_with (first
    | ((with_reducible refine gate_dst (N := 5) rfl ?_); refine Kd.R_lit (Kd.int .u8) _ 5 ?hg (N := 5) ?hd (xs := ([] : List Int)) (inner := []) (ok := fun _ => True) (okp := fun _ => True) ?hr (Reps.none _ _) (fun _ hk => hk) trivial (Below.refl _ _) (Nat.le_refl _) (by simp) ?_; (case hd => rfl); (case hg => rfl); (case hr => first | (go_simp; done) | (go_simp; rfl)); intro v1 w1 HO HB hg hat; have HC := Aside0.mk (Kd.C_below HR.out HB); have HO := Aside0.mk HO; have HB := Aside0.mk HB; clear hg hat)
    | ((with_reducible refine gate_dst (N := 7) rfl ?_); refine Kd.R_append_rows (Kd.int .u8) (Rr := (Kd.int .u8).K w1) w.heap.size rfl (.tmp 5) (.tmp 6) 22 5 (.int .u8 0) 1 rfl Try.underlying22 info5 rfl (by decide) (by decide) v1 [] l0 (some ad) l0.length c0 (fun _ => True) (fun _ => False) rfl rfl HO.out HC.out (fun _ _ h => h) (fun _ h => h.elim) (fun _ _ => trivial) HB.out HB.out.size (by simpa using hl) ?_; intro v2 w2 HO2 HB2 hg hat))
   go_ret
   exact ⟨_, rfl, by simpa using HO2, HB2⟩
 · exact absurd h (by simp)
end Go.Proofs.Ytgkjkhhppmnajaa.QLockRekeys
