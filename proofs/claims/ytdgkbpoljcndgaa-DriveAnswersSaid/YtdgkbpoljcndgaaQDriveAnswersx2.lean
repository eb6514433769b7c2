/- Written by a program of this session (wip/mprint): the walk of the Go code, function by function, for every input; no condition. -/
import Derived.Test.YtdgkbpoljcndgaaQDriveAnswersx0
import Derived.Test.YtdgkbpoljcndgaaQDriveAnswersx1
import Derived.Lib.SliceRun
namespace Go.Proofs.Ytdgkbpoljcndgaa.QDriveAnswers
open Go.RowKit Go.Proofs.YtdgkbpoljcndgaaW.PrintWords Go.Proofs.YtdgkbpoljcndgaaW.PrintLast Go.Proofs.YtdgkbpoljcndgaaW.PrintMore
attribute [local go_sem] max2_int min2_int max_two min_two max_three min_three max_four min_four   -- for this text's walks alone
set_option linter.unusedVariables false
set_option linter.unusedSimpArgs false

/-- the search: the least place from which on no block is less, if they are in order -/
def bsF (l : List S121) (a : Int) : Nat → Nat → Nat → Nat
  | 0, i, _ => i
  | m + 1, i, j => if i < j then (if wrap64 ((rd_T121 l (((i + j) / 2 : Nat) : Int)).f0 - a) < 0 then bsF l a m ((i + j) / 2 + 1) j else bsF l a m i ((i + j) / 2)) else i
theorem bsF_stop (l : List S121) (a : Int) (m i j : Nat) (h : ¬ i < j) : bsF l a m i j = i := by
  cases m with
  | zero => rfl
  | succ m => simp only [bsF]; rw [if_neg h]
theorem bsF_le (l : List S121) (a : Int) : ∀ (m i j : Nat), i ≤ j → bsF l a m i j ≤ j
  | 0, i, j, h => h
  | m + 1, i, j, h => by
    simp only [bsF]
    split
    · split
      · exact bsF_le l a m _ j (by omega)
      · exact Nat.le_trans (bsF_le l a m i _ (by omega)) (by omega)
    · exact h
set_option maxHeartbeats 2000000 in
set_option maxRecDepth 100000 in
theorem bsCmp (x0 x1 x2 a : Int) (W : World) :
    Calls Try.prog 120 #[.agg #[.int .i64 x0, .int .i64 x1, .int .i64 x2], .int .i64 a] W fun e w' => e = .returned (.int .i64 (wrap64 (x0 - a))) ∧ Below W.heap.size W w' := by
  go_enter Try.func120, Try.ntmps120
  go_wp2
  go_ret
  exact ⟨by simp [i64_w], by repeat (first | exact Below.refl _ _ | apply below_alloc)⟩
set_option maxHeartbeats 4000000 in
set_option maxRecDepth 100000 in
theorem bs_calls (A : Option Addr) (c : Nat) (xs : List S121) (a : Int) (w : World) (hr0 : Kd.C k121 w A xs.length xs) (hn : xs.length ≤ 140737488351232) :
    Calls Try.prog 119 #[.slice A xs.length c, .int .i64 a, .func (.func 120) #[] #[]] w fun e w' =>
      e = .returned (.tuple #[.int .i64 ((bsF xs a (xs.length + 1) 0 xs.length : Nat) : Int), .bool (decide (bsF xs a (xs.length + 1) 0 xs.length < xs.length) && decide (wrap64 ((rd_T121 xs ((bsF xs a (xs.length + 1) 0 xs.length : Nat) : Int)).f0 - a) = 0))]) ∧ Below w.heap.size w w' := by
  obtain ⟨R, hR⟩ : ∃ R, bsF xs a (xs.length + 1) 0 xs.length = R := ⟨_, rfl⟩
  rw [hR]
  have hRN : R ≤ xs.length := by rw [← hR]; exact bsF_le _ _ _ _ _ (Nat.zero_le _)
  obtain ⟨D, hD⟩ : ∃ D, decide (wrap64 ((rd_T121 xs (R : Int)).f0 - a) = 0) = D := ⟨_, rfl⟩
  rw [hD]
  replace hD := Aside0.mk hD
  obtain ⟨N, hN⟩ : ∃ N, xs.length = N := ⟨_, rfl⟩
  rw [hN] at hr0 hn hR hRN ⊢
  replace hN := Aside0.mk hN
  replace hr0 := Aside0.mk hr0
  replace hR := Aside0.mk hR
  go_enter Try.func119, Try.ntmps119
  go_wp2
  go_loopw [9, 10] (fun vi vj wr => ∃ i j m : Nat, i ≤ j ∧ j ≤ N ∧ j - i < m ∧ vi = .int .i64 (i : Int) ∧ vj = .int .i64 (j : Int) ∧ Aside0 (bsF xs a m i j = R) ∧ Aside0 (Below w.heap.size w wr)) (fun vi vj _ => (intOf vj).toNat - (intOf vi).toNat)
  case atStart => exact ⟨0, N, N + 1, Nat.zero_le _, Nat.le_refl _, by omega, rfl, rfl, hR, ⟨Below.refl _ _⟩⟩
  case round =>
    obtain ⟨i, j, m, hij, hjN, hm, rfl, rfl, hb, HB⟩ := hrel
    by_cases hlt : i < j
    · obtain ⟨m', rfl⟩ : ∃ q, m = q + 1 := ⟨m - 1, by omega⟩
      have hb2 := hb.out
      simp only [bsF] at hb2
      rw [if_pos hlt] at hb2
      obtain ⟨ad, hA, q0, q1, q2⟩ := at_T121 (Kd.C_below hr0.out HB.out) (((i + j) / 2 : Nat) : Int) (by omega) (by omega)
      subst hA
      obtain ⟨x, hx⟩ : ∃ x, rd_T121 xs (((i + j) / 2 : Nat) : Int) = x := ⟨_, rfl⟩
      rw [hx] at q0 q1 q2 hb2
      replace hx := Aside0.mk hx
      simp only [Int.toNat_natCast] at q0 q1 q2
      have hlti : (i : Int) < (j : Int) := by omega
      have hw1 : IntKind.i64.wrap ((i : Int) + (j : Int)) = (i : Int) + (j : Int) := by rw [i64_w]; unfold wrap64; omega
      have hhN : ((i : Int) + (j : Int)) / 2 < (N : Int) := by omega
      have hh0 : decide (0 ≤ ((i : Int) + (j : Int)) / 2) = true := decide_eq_true (by omega)
      have hnx : IntKind.i64.wrap (((i : Int) + (j : Int)) / 2 + 1) = ((i : Int) + (j : Int)) / 2 + 1 := by rw [i64_w]; unfold wrap64; omega
      have hnt : (((i : Int) + (j : Int)) / 2).toNat = (i + j) / 2 := by omega
      have hcall := fun W => bsCmp x.f0 x.f1 x.f2 a W
      obtain ⟨s, hs⟩ : ∃ s, wrap64 (x.f0 - a) = s := ⟨_, rfl⟩
      simp only [hs] at hcall
      rw [hs] at hb2
      replace hs := Aside0.mk hs
      replace hb2 := Aside0.mk hb2
      by_cases hneg : s < 0
      · have hneg1 : decide (s < 0) = true := decide_eq_true hneg
        go_wp2_with (first | (go_at_call 120; refine (hcall _).mono ?_; rintro e w2 ⟨rfl, hb3⟩))
        go_roundw
        case rel => exact ⟨(i + j) / 2 + 1, j, m', by omega, hjN, by omega, congrArg (Value.int .i64) (by omega), rfl, ⟨by have := hb2.out; rwa [if_pos (by omega)] at this⟩, ⟨below_step HB.out hb3⟩⟩
        case measure => simp [intOf]; omega
      · have hneg1 : decide (s < 0) = false := decide_eq_false hneg
        go_wp2_with (first | (go_at_call 120; refine (hcall _).mono ?_; rintro e w2 ⟨rfl, hb3⟩))
        go_roundw
        case rel => exact ⟨i, (i + j) / 2, m', by omega, by omega, by omega, rfl, congrArg (Value.int .i64) (by omega), ⟨by have := hb2.out; rwa [if_neg (by omega)] at this⟩, ⟨below_step HB.out hb3⟩⟩
        case measure => simp [intOf]; omega
    · have hiR : i = R := by have := hb.out; rwa [bsF_stop _ _ _ _ _ hlt] at this
      subst hiR
      by_cases hin : i < N
      · have hlti : (i : Int) < (N : Int) := by omega
        have hnlt : decide ((i : Int) < (j : Int)) = false := decide_eq_false (by omega)
        obtain ⟨ad, hA, q0, q1, q2⟩ := at_T121 (Kd.C_below hr0.out HB.out) (i : Int) (by omega) (by omega)
        subst hA
        obtain ⟨x, hx⟩ : ∃ x, rd_T121 xs (i : Int) = x := ⟨_, rfl⟩
        rw [hx] at q0 q1 q2
        replace hx := Aside0.mk hx
        simp only [Int.toNat_natCast] at q0 q1 q2
        have hcall := fun W => bsCmp x.f0 x.f1 x.f2 a W
        obtain ⟨s, hs⟩ : ∃ s, wrap64 (x.f0 - a) = s := ⟨_, rfl⟩
        simp only [hs] at hcall
        have hD2 := hD.out
        rw [hx.out, hs] at hD2
        replace hD2 := Aside0.mk hD2
        replace hs := Aside0.mk hs
        go_wp2_with (first | (go_at_call 120; refine (hcall _).mono ?_; rintro e w2 ⟨rfl, hb3⟩))
        go_ret2
        exact ⟨by rw [← hD2.out]; simp [hin]; rfl, below_step HB.out hb3⟩
      · have hnlt : decide ((i : Int) < (j : Int)) = false := decide_eq_false (by omega)
        have hnlt2 : decide ((i : Int) < (N : Int)) = false := decide_eq_false (by omega)
        go_wp2
        go_ret2
        exact ⟨by simp [hin], HB.out⟩
def slices_BinarySearchFunc_faults.f (l0 : List S121) (a1 : Int) : Option (Int × Bool) := if l0.length ≤ 140737488351232 then some (((bsF l0 a1 (l0.length + 1) 0 l0.length : Nat) : Int), decide (bsF l0 a1 (l0.length + 1) 0 l0.length < l0.length) && decide (wrap64 ((rd_T121 l0 ((bsF l0 a1 (l0.length + 1) 0 l0.length : Nat) : Int)).f0 - a1) = 0)) else none
theorem slices_BinarySearchFunc_faults.calls (A0 : Option Addr) (c0 : Nat) (l0 : List S121) (a1 : Int) (r1 : Int) (r2 : Bool) (w : World) (hr0 : Kd.C k121 w A0 l0.length l0) (hc0 : l0.length ≤ c0) (h : slices_BinarySearchFunc_faults.f l0 a1 = some (r1, r2)) :
    Calls Try.prog 119 #[.slice A0 l0.length c0, .int .i64 a1, .func (.func 120) #[] #[]] w fun e w' => e = .returned (.tuple #[.int .i64 r1, .bool r2]) ∧ Below w.heap.size w w' := by
  unfold slices_BinarySearchFunc_faults.f at h
  split at h
  · rename_i hh
    obtain ⟨rfl, rfl⟩ := Prod.mk.inj (Option.some.inj h)
    exact bs_calls A0 c0 l0 a1 w hr0 hh
  · exact absurd h (by simp)


/-! ### drive_fault: function 110 -/
def drive_fault.f (l0_0 : List Int) (l0_1 : List (S121)) (a1 : Int) : Option (Int × Int × Int) := (slices_BinarySearchFunc_faults.f l0_1 a1).bind fun bt106 => (if bt106.2 = true then (if 0 ≤ bt106.1 then (if bt106.1 < (l0_1.length : Int) then (some ((rd_T121 l0_1 bt106.1).f0, (rd_T121 l0_1 bt106.1).f1, (rd_T121 l0_1 bt106.1).f2)) else (none)) else (none)) else (some (0, 0, 0)))
set_option maxHeartbeats 8000000 in
set_option maxRecDepth 100000 in
theorem drive_fault.calls (A0_0 : Option Addr) (c0_0 : Nat) (l0_0 : List Int) (A0_1 : Option Addr) (c0_1 : Nat) (l0_1 : List (S121)) (a1 : Int) (r1 : Int) (r2 : Int) (r3 : Int) (w : World) (hr0_0 : Kd.C (Kd.int .u8) w A0_0 l0_0.length l0_0) (hc0_0 : l0_0.length ≤ c0_0) (hr0_1 : Kd.C k121 w A0_1 l0_1.length l0_1) (hc0_1 : l0_1.length ≤ c0_1) (h : drive_fault.f l0_0 l0_1 a1 = some (r1, r2, r3)) :
    Calls Try.prog 110 #[.agg #[.slice A0_0 l0_0.length c0_0, .slice A0_1 l0_1.length c0_1], .int .i64 a1] w fun e w' => e = .returned (.agg #[.int .i64 r1, .int .i64 r2, .int .i64 r3]) ∧ Below w.heap.size w w' := by
  have hu46 := Try.underlying46
  have hu121 := Try.underlying121
  have HR0_0 := Aside0.mk hr0_0
  have HC0_0 := Aside0.mk hc0_0
  clear hr0_0 hc0_0
  have HR0_1 := Aside0.mk hr0_1
  have HC0_1 := Aside0.mk hc0_1
  clear hr0_1 hc0_1
  have HB := Aside0.mk (Below.refl w.heap.size w)
  have H : ((slices_BinarySearchFunc_faults.f l0_1 a1).bind fun bt106 => (if bt106.2 = true then (if 0 ≤ bt106.1 then (if bt106.1 < (l0_1.length : Int) then (some ((rd_T121 l0_1 bt106.1).f0, (rd_T121 l0_1 bt106.1).f1, (rd_T121 l0_1 bt106.1).f2)) else (none)) else (none)) else (some (0, 0, 0)))) = some (r1, r2, r3) := h
  clear h
  replace H := Option.bind_eq_some_iff.mp H
  obtain ⟨⟨t106, t107⟩, A30, H⟩ := H
  replace H : (if t107 = true then (if 0 ≤ t106 then (if t106 < (l0_1.length : Int) then (some ((rd_T121 l0_1 t106).f0, (rd_T121 l0_1 t106).f1, (rd_T121 l0_1 t106).f2)) else (none)) else (none)) else (some (0, 0, 0))) = some (r1, r2, r3) := H
  have A3 := Aside0.mk A30
  clear A30
  by_cases c4 : t107 = true
  · subst c4
    have H1 : (if 0 ≤ t106 then (if t106 < (l0_1.length : Int) then (some ((rd_T121 l0_1 t106).f0, (rd_T121 l0_1 t106).f1, (rd_T121 l0_1 t106).f2)) else (none)) else (none)) = some (r1, r2, r3) := by rw [if_pos rfl] at H; exact H
    clear H
    have H := H1
    clear H1
    by_cases c5 : 0 ≤ t106
    · rw [if_pos c5] at H
      have c5b0 : decide (0 ≤ t106) = true := decide_eq_true c5
      clear c5
      by_cases c6 : t106 < (l0_1.length : Int)
      · rw [if_pos c6] at H
        have c6b0 : decide (t106 < (l0_1.length : Int)) = true := decide_eq_true c6
        clear c6
        simp only [Option.some.injEq, Prod.mk.injEq] at H
        obtain ⟨rfl, rfl, rfl⟩ := H
        go_enter Try.func110, Try.ntmps110
        go_wp2_with (first | ((with_reducible refine gate_dst (N := 2) rfl ?_); refine box_event ?hg (N := 2) ?hd (cs := #[.slice A0_0 l0_0.length c0_0, .slice A0_1 l0_1.length c0_1]) (t := 46) ?hr ?_; (case hd => rfl); (case hg => rfl); (case hr => first | (go_simp; done) | (go_simp; rfl)); intro gb104 hg w7 hbox hb; have n0_ := Aside0.mk (below_step (by repeat (first | (with_reducible first | exact HB.out | apply below_alloc | apply pw_below_drewN | apply below_drew1) | exact HB.out)) hb); have n1_ := Aside0.mk (hbox); have n2_ := Aside0.mk ((by rw [hg]; exact (below_size (by repeat (first | (with_reducible first | exact HB.out | apply below_alloc | apply pw_below_drewN | apply below_drew1) | exact HB.out))) : w.heap.size ≤ gb104)); have n3_ := Aside0.mk ((by rw [hg]; exact (below_size (by repeat (first | (with_reducible first | exact HB.out | apply below_alloc | apply pw_below_drewN | apply below_drew1) | exact HB.out))) : w.heap.size ≤ gb104)); clear HB; have HB := n0_; have BK104 := n1_; have GW104 := n2_; have GE104 := n3_; clear n0_ n1_ n2_ n3_; clear hb hbox hg) | ((with_reducible refine gate_dst (N := 4) rfl ?_); refine box_event ?hg (N := 4) ?hd (cs := #[.int .i64 0, .int .i64 0, .int .i64 0]) (t := 121) ?hr ?_; (case hd => rfl); (case hg => rfl); (case hr => first | (go_simp; done) | (go_simp; rfl)); intro gb105 hg w8 hbox hb; have n0_ := Aside0.mk (blk_below (g := gb104) (o := .cells #[.slice A0_0 l0_0.length c0_0, .slice A0_1 l0_1.length c0_1] 46 (0, 0)) (by (with_reducible repeat (first | refine blk_drewN ?_ _ | refine blk_drew ?_ | refine blk_alloc ?_ _)); exact BK104.out) hb); have n1_ := Aside0.mk (below_step (by repeat (first | (with_reducible first | exact HB.out | apply below_alloc | apply pw_below_drewN | apply below_drew1 | refine below_set ?_ GE104.out) | exact HB.out)) hb); have n2_ := Aside0.mk (hbox); have n3_ := Aside0.mk ((by rw [hg]; exact (below_size (by repeat (first | (with_reducible first | exact HB.out | apply below_alloc | apply pw_below_drewN | apply below_drew1 | refine below_set ?_ GE104.out) | exact HB.out))) : w.heap.size ≤ gb105)); have n4_ := Aside0.mk ((by rw [hg]; exact (below_size (by repeat (first | (with_reducible first | exact HB.out | apply below_alloc | apply pw_below_drewN | apply below_drew1 | refine below_set ?_ GE104.out) | exact HB.out))) : w.heap.size ≤ gb105)); have n5_ := Aside0.mk ((by rw [hg]; exact Nat.ne_of_lt (blk_lt (g := gb104) (o := .cells #[.slice A0_0 l0_0.length c0_0, .slice A0_1 l0_1.length c0_1] 46 (0, 0)) (by (with_reducible repeat (first | refine blk_drewN ?_ _ | refine blk_drew ?_ | refine blk_alloc ?_ _)); exact BK104.out)) : gb104 ≠ gb105)); have n6_ := Aside0.mk ((by rw [hg]; exact Nat.ne_of_gt (blk_lt (g := gb104) (o := .cells #[.slice A0_0 l0_0.length c0_0, .slice A0_1 l0_1.length c0_1] 46 (0, 0)) (by (with_reducible repeat (first | refine blk_drewN ?_ _ | refine blk_drew ?_ | refine blk_alloc ?_ _)); exact BK104.out)) : gb105 ≠ gb104)); clear BK104; clear HB; have BK104 := n0_; have HB := n1_; have BK105 := n2_; have GW105 := n3_; have GE105 := n4_; have NB104_105 := n5_; have NB105_104 := n6_; clear n0_ n1_ n2_ n3_ n4_ n5_ n6_; clear hb hbox hg; have hnb9 := NB104_105.out; have hnc9 := NB105_104.out; have hcz10_0 : w8.cell? ⟨gb104, 0, none⟩ = some (.slice A0_0 l0_0.length c0_0) := (blk_cell BK104.out 0).trans rfl; have hcz10_1 : w8.cell? ⟨gb104, 1, none⟩ = some (.slice A0_1 l0_1.length c0_1) := (blk_cell BK104.out 1).trans rfl; have hfz10_0 := blk_frozen BK104.out 0; have hfz10_1 := blk_frozen BK104.out 1) | ((with_reducible refine gate_callee (f := 119) rfl ?_); refine goesL_ (some 11) rfl rfl Try.func119 (by kernel_rfl) rfl #[.slice A0_1 l0_1.length c0_1, .int .i64 a1, .func (.func 120) #[] #[]] rfl (by (try simp only [List.map_toArray, List.map_cons, List.map_nil]); first | done | rfl | (simp only [List.length_drop, List.length_take]; rfl)) ?_; (with_reducible refine (slices_BinarySearchFunc_faults.calls _ _ l0_1 a1 t106 true _ ?side1 ?side2 A3.out).mono ?_); (case side1 => repeat (first | exact (Kd.C_below HR0_1.out HB.out) | (with_reducible refine Kd.C_alloc ?_ _) | (with_reducible refine Kd.C_drewN ?_ _) | (with_reducible refine Kd.C_drew ?_))); (case side2 => exact HC0_1.out); rintro e w11 ⟨rfl, hb⟩; refine ⟨_, rfl, ?_⟩; have n0_ := Aside0.mk (blk_below (g := gb104) (o := .cells #[.slice A0_0 l0_0.length c0_0, .slice A0_1 l0_1.length c0_1] 46 (0, 0)) (by (with_reducible repeat (first | refine blk_drewN ?_ _ | refine blk_drew ?_ | refine blk_alloc ?_ _)); exact BK104.out) hb); have n1_ := Aside0.mk (blk_below (g := gb105) (o := .cells #[.int .i64 0, .int .i64 0, .int .i64 0] 121 (0, 0)) (by (with_reducible repeat (first | refine blk_drewN ?_ _ | refine blk_drew ?_ | refine blk_alloc ?_ _)); exact BK105.out) hb); have n2_ := Aside0.mk (below_step (by repeat (first | (with_reducible first | exact HB.out | apply below_alloc | apply pw_below_drewN | apply below_drew1 | refine below_set ?_ GE104.out | refine below_set ?_ GE105.out) | exact HB.out)) hb); clear BK104; clear BK105; clear HB; have BK104 := n0_; have BK105 := n1_; have HB := n2_; clear n0_ n1_ n2_; (try clear hb); (try clear hb2); (try clear hk); (try clear hi); have hcz12_0 : w11.cell? ⟨gb104, 0, none⟩ = some (.slice A0_0 l0_0.length c0_0) := (blk_cell BK104.out 0).trans rfl; have hcz12_1 : w11.cell? ⟨gb104, 1, none⟩ = some (.slice A0_1 l0_1.length c0_1) := (blk_cell BK104.out 1).trans rfl; have hfz12_0 := blk_frozen BK104.out 0; have hfz12_1 := blk_frozen BK104.out 1; have p108 : 0 ≤ (t106 : Int) := of_decide_eq_true (by first | (with_reducible assumption) | assumption); have q108 : t106 < (l0_1.length : Int) := of_decide_eq_true (by first | (with_reducible assumption) | assumption); obtain ⟨ad108, e108, hx108_0, hx108_1, hx108_2⟩ := at_T121 HR0_1.out t106 p108 q108; cases e108; replace hx108_0 := (HB.out.cell (World.block_lt_of_cell? w _ hx108_0)).trans hx108_0; replace hx108_1 := (HB.out.cell (World.block_lt_of_cell? w _ hx108_1)).trans hx108_1; replace hx108_2 := (HB.out.cell (World.block_lt_of_cell? w _ hx108_2)).trans hx108_2; replace p108 := eq_true p108; replace q108 := eq_true q108; have hcz13_0 : w11.cell? ⟨gb105, 0, none⟩ = some (.int .i64 0) := (blk_cell BK105.out 0).trans rfl; have hcz13_1 : w11.cell? ⟨gb105, 1, none⟩ = some (.int .i64 0) := (blk_cell BK105.out 1).trans rfl; have hcz13_2 : w11.cell? ⟨gb105, 2, none⟩ = some (.int .i64 0) := (blk_cell BK105.out 2).trans rfl; have hfz13_0 := blk_frozen BK105.out 0; have hfz13_1 := blk_frozen BK105.out 1; have hfz13_2 := blk_frozen BK105.out 2))
        refine bodyPost_ret (results_cell_row rfl _ _ gb105 121 #[.int .i64 ((rd_T121 l0_1 t106).f0), .int .i64 ((rd_T121 l0_1 t106).f1), .int .i64 ((rd_T121 l0_1 t106).f2)] (0, 0) _ rfl (by (with_reducible repeat (first | refine blk_drewN ?_ _ | refine blk_drew ?_ | refine blk_alloc ?_ _)); refine blk_put (cs := #[.int .i64 ((rd_T121 l0_1 t106).f0), .int .i64 ((rd_T121 l0_1 t106).f1), .int .i64 0]) ?_ 2 _ rfl; (with_reducible repeat (first | refine blk_drewN ?_ _ | refine blk_drew ?_ | refine blk_alloc ?_ _)); refine blk_put (cs := #[.int .i64 ((rd_T121 l0_1 t106).f0), .int .i64 0, .int .i64 0]) ?_ 1 _ rfl; (with_reducible repeat (first | refine blk_drewN ?_ _ | refine blk_drew ?_ | refine blk_alloc ?_ _)); refine blk_put (cs := #[.int .i64 0, .int .i64 0, .int .i64 0]) ?_ 0 _ rfl; (with_reducible repeat (first | refine blk_drewN ?_ _ | refine blk_drew ?_ | refine blk_alloc ?_ _)); exact BK105.out) Try.underlying121 rfl (by kernel_rfl)) rfl ?_
        exact ⟨by first | rfl | (simp [errW_none, errW_some] <;> rfl) | (simp [*, errW_none, errW_some] <;> rfl), by repeat (first | (with_reducible first | exact HB.out | apply below_alloc | apply pw_below_drewN | apply below_drew1 | refine below_set ?_ GE104.out | refine below_set ?_ GE105.out) | exact HB.out)⟩
      · rw [if_neg c6] at H
        exact absurd H (by simp)
    · rw [if_neg c5] at H
      exact absurd H (by simp)
  · replace c4 := Bool.eq_false_iff.mpr c4
    subst c4
    have H1 : (some (0, 0, 0)) = some (r1, r2, r3) := by rw [if_neg (show ¬ (false = true) by decide)] at H; exact H
    clear H
    have H := H1
    clear H1
    simp only [Option.some.injEq, Prod.mk.injEq] at H
    obtain ⟨rfl, rfl, rfl⟩ := H
    go_enter Try.func110, Try.ntmps110
    go_wp2_with (first | ((with_reducible refine gate_dst (N := 2) rfl ?_); refine box_event ?hg (N := 2) ?hd (cs := #[.slice A0_0 l0_0.length c0_0, .slice A0_1 l0_1.length c0_1]) (t := 46) ?hr ?_; (case hd => rfl); (case hg => rfl); (case hr => first | (go_simp; done) | (go_simp; rfl)); intro gb104 hg w14 hbox hb; have n0_ := Aside0.mk (below_step (by repeat (first | (with_reducible first | exact HB.out | apply below_alloc | apply pw_below_drewN | apply below_drew1) | exact HB.out)) hb); have n1_ := Aside0.mk (hbox); have n2_ := Aside0.mk ((by rw [hg]; exact (below_size (by repeat (first | (with_reducible first | exact HB.out | apply below_alloc | apply pw_below_drewN | apply below_drew1) | exact HB.out))) : w.heap.size ≤ gb104)); have n3_ := Aside0.mk ((by rw [hg]; exact (below_size (by repeat (first | (with_reducible first | exact HB.out | apply below_alloc | apply pw_below_drewN | apply below_drew1) | exact HB.out))) : w.heap.size ≤ gb104)); clear HB; have HB := n0_; have BK104 := n1_; have GW104 := n2_; have GE104 := n3_; clear n0_ n1_ n2_ n3_; clear hb hbox hg) | ((with_reducible refine gate_dst (N := 4) rfl ?_); refine box_event ?hg (N := 4) ?hd (cs := #[.int .i64 0, .int .i64 0, .int .i64 0]) (t := 121) ?hr ?_; (case hd => rfl); (case hg => rfl); (case hr => first | (go_simp; done) | (go_simp; rfl)); intro gb105 hg w15 hbox hb; have n0_ := Aside0.mk (blk_below (g := gb104) (o := .cells #[.slice A0_0 l0_0.length c0_0, .slice A0_1 l0_1.length c0_1] 46 (0, 0)) (by (with_reducible repeat (first | refine blk_drewN ?_ _ | refine blk_drew ?_ | refine blk_alloc ?_ _)); exact BK104.out) hb); have n1_ := Aside0.mk (below_step (by repeat (first | (with_reducible first | exact HB.out | apply below_alloc | apply pw_below_drewN | apply below_drew1 | refine below_set ?_ GE104.out) | exact HB.out)) hb); have n2_ := Aside0.mk (hbox); have n3_ := Aside0.mk ((by rw [hg]; exact (below_size (by repeat (first | (with_reducible first | exact HB.out | apply below_alloc | apply pw_below_drewN | apply below_drew1 | refine below_set ?_ GE104.out) | exact HB.out))) : w.heap.size ≤ gb105)); have n4_ := Aside0.mk ((by rw [hg]; exact (below_size (by repeat (first | (with_reducible first | exact HB.out | apply below_alloc | apply pw_below_drewN | apply below_drew1 | refine below_set ?_ GE104.out) | exact HB.out))) : w.heap.size ≤ gb105)); have n5_ := Aside0.mk ((by rw [hg]; exact Nat.ne_of_lt (blk_lt (g := gb104) (o := .cells #[.slice A0_0 l0_0.length c0_0, .slice A0_1 l0_1.length c0_1] 46 (0, 0)) (by (with_reducible repeat (first | refine blk_drewN ?_ _ | refine blk_drew ?_ | refine blk_alloc ?_ _)); exact BK104.out)) : gb104 ≠ gb105)); have n6_ := Aside0.mk ((by rw [hg]; exact Nat.ne_of_gt (blk_lt (g := gb104) (o := .cells #[.slice A0_0 l0_0.length c0_0, .slice A0_1 l0_1.length c0_1] 46 (0, 0)) (by (with_reducible repeat (first | refine blk_drewN ?_ _ | refine blk_drew ?_ | refine blk_alloc ?_ _)); exact BK104.out)) : gb105 ≠ gb104)); clear BK104; clear HB; have BK104 := n0_; have HB := n1_; have BK105 := n2_; have GW105 := n3_; have GE105 := n4_; have NB104_105 := n5_; have NB105_104 := n6_; clear n0_ n1_ n2_ n3_ n4_ n5_ n6_; clear hb hbox hg; have hnb16 := NB104_105.out; have hnc16 := NB105_104.out; have hcz17_0 : w15.cell? ⟨gb104, 0, none⟩ = some (.slice A0_0 l0_0.length c0_0) := (blk_cell BK104.out 0).trans rfl; have hcz17_1 : w15.cell? ⟨gb104, 1, none⟩ = some (.slice A0_1 l0_1.length c0_1) := (blk_cell BK104.out 1).trans rfl; have hfz17_0 := blk_frozen BK104.out 0; have hfz17_1 := blk_frozen BK104.out 1) | ((with_reducible refine gate_callee (f := 119) rfl ?_); refine goesL_ (some 11) rfl rfl Try.func119 (by kernel_rfl) rfl #[.slice A0_1 l0_1.length c0_1, .int .i64 a1, .func (.func 120) #[] #[]] rfl (by (try simp only [List.map_toArray, List.map_cons, List.map_nil]); first | done | rfl | (simp only [List.length_drop, List.length_take]; rfl)) ?_; (with_reducible refine (slices_BinarySearchFunc_faults.calls _ _ l0_1 a1 t106 false _ ?side1 ?side2 A3.out).mono ?_); (case side1 => repeat (first | exact (Kd.C_below HR0_1.out HB.out) | (with_reducible refine Kd.C_alloc ?_ _) | (with_reducible refine Kd.C_drewN ?_ _) | (with_reducible refine Kd.C_drew ?_))); (case side2 => exact HC0_1.out); rintro e w18 ⟨rfl, hb⟩; refine ⟨_, rfl, ?_⟩; have n0_ := Aside0.mk (blk_below (g := gb104) (o := .cells #[.slice A0_0 l0_0.length c0_0, .slice A0_1 l0_1.length c0_1] 46 (0, 0)) (by (with_reducible repeat (first | refine blk_drewN ?_ _ | refine blk_drew ?_ | refine blk_alloc ?_ _)); exact BK104.out) hb); have n1_ := Aside0.mk (blk_below (g := gb105) (o := .cells #[.int .i64 0, .int .i64 0, .int .i64 0] 121 (0, 0)) (by (with_reducible repeat (first | refine blk_drewN ?_ _ | refine blk_drew ?_ | refine blk_alloc ?_ _)); exact BK105.out) hb); have n2_ := Aside0.mk (below_step (by repeat (first | (with_reducible first | exact HB.out | apply below_alloc | apply pw_below_drewN | apply below_drew1 | refine below_set ?_ GE104.out | refine below_set ?_ GE105.out) | exact HB.out)) hb); clear BK104; clear BK105; clear HB; have BK104 := n0_; have BK105 := n1_; have HB := n2_; clear n0_ n1_ n2_; (try clear hb); (try clear hb2); (try clear hk); (try clear hi); have hcz19_0 : w18.cell? ⟨gb105, 0, none⟩ = some (.int .i64 0) := (blk_cell BK105.out 0).trans rfl; have hcz19_1 : w18.cell? ⟨gb105, 1, none⟩ = some (.int .i64 0) := (blk_cell BK105.out 1).trans rfl; have hcz19_2 : w18.cell? ⟨gb105, 2, none⟩ = some (.int .i64 0) := (blk_cell BK105.out 2).trans rfl; have hfz19_0 := blk_frozen BK105.out 0; have hfz19_1 := blk_frozen BK105.out 1; have hfz19_2 := blk_frozen BK105.out 2))
    refine bodyPost_ret (results_cell_row rfl _ _ gb105 121 #[.int .i64 0, .int .i64 0, .int .i64 0] (0, 0) _ rfl (by (with_reducible repeat (first | refine blk_drewN ?_ _ | refine blk_drew ?_ | refine blk_alloc ?_ _)); refine blk_put (cs := #[.int .i64 0, .int .i64 0, .int .i64 0]) ?_ 2 _ rfl; (with_reducible repeat (first | refine blk_drewN ?_ _ | refine blk_drew ?_ | refine blk_alloc ?_ _)); refine blk_put (cs := #[.int .i64 0, .int .i64 0, .int .i64 0]) ?_ 1 _ rfl; (with_reducible repeat (first | refine blk_drewN ?_ _ | refine blk_drew ?_ | refine blk_alloc ?_ _)); refine blk_put (cs := #[.int .i64 0, .int .i64 0, .int .i64 0]) ?_ 0 _ rfl; (with_reducible repeat (first | refine blk_drewN ?_ _ | refine blk_drew ?_ | refine blk_alloc ?_ _)); exact BK105.out) Try.underlying121 rfl (by kernel_rfl)) rfl ?_
    exact ⟨by first | rfl | (simp [errW_none, errW_some] <;> rfl) | (simp [*, errW_none, errW_some] <;> rfl), by repeat (first | (with_reducible first | exact HB.out | apply below_alloc | apply pw_below_drewN | apply below_drew1 | refine below_set ?_ GE104.out | refine below_set ?_ GE105.out) | exact HB.out)⟩

-- import Derived.Lib.SliceRun
/-- a copy -/
def slices_Clone_byte.f (l0 : List Int) : Option (List Int) := if l0.length ≤ 140737488355328 then some l0 else none
set_option maxHeartbeats 2000000 in
set_option maxRecDepth 100000 in
theorem slices_Clone_byte.calls (A0 : Option Addr) (c0 : Nat) (l0 : List Int) (r : List Int) (w : World) (hr0 : Kd.C (Kd.int .u8) w A0 l0.length l0) (hc0 : l0.length ≤ c0) (h : slices_Clone_byte.f l0 = some r) :
    Calls Try.prog 82 #[.slice A0 l0.length c0] w fun e w' => ∃ v0_ : Value, e = .returned v0_ ∧ Kd.R (Kd.int .u8) 5 w' w.heap.size (fun _ => True) v0_ r ∧ Below w.heap.size w w' := by
  unfold slices_Clone_byte.f at h
  split at h
  · rename_i hl
    obtain rfl := Option.some.inj h
    have q22 : ∀ (w : World) (a : Option Addr) (n c n' c' : Nat), (binOp .eql 22 (.slice a n c) (.slice none n' c')).run Try.prog w = .ok (.bool a.isNone) w := fun w a n c n' c' => Go.Lib.run_eql_slice_nil w _ _ a n c n' c' Try.underlying22
    cases A0 with
    | none =>
      have h0 : l0 = [] := by
        refine List.eq_nil_of_length_eq_zero ?_
        rcases Nat.eq_zero_or_pos l0.length with h | h
        · exact h
        · obtain ⟨a, ha, _⟩ := hr0.2.2 h
          exact absurd ha (by simp)
      subst h0
      clear hr0
      go_enter Try.func82, Try.ntmps82
      go_wp2
      go_ret
      exact ⟨_, rfl, Kd.R_nil _ _ _ _ _, Below.refl _ _⟩
    | some ad =>
      have HR := Aside0.mk hr0
      clear hr0
      go_enter Try.func82, Try.ntmps82
      go_wp2_with (first
        | ((with_reducible refine gate_dst (N := 5) rfl ?_); refine Kd.R_lit (Kd.int .u8) _ 5 ?hg (N := 5) ?hd (xs := ([] : List Int)) (inner := []) (ok := fun _ => True) (okp := fun _ => True) ?hr (Reps.none _ _) (fun _ hk => hk) trivial (Below.refl _ _) (Nat.le_refl _) (by simp) ?_; (case hd => rfl); (case hg => rfl); (case hr => first | (go_simp; done) | (go_simp; rfl)); intro v1 w1 HO HB hg hat; have HC := Aside0.mk (Kd.C_below HR.out HB); have HO := Aside0.mk HO; have HB := Aside0.mk HB; clear hg hat)
        | ((with_reducible refine gate_dst (N := 7) rfl ?_); refine Kd.R_append_rows (Kd.int .u8) (Rr := (Kd.int .u8).K w1) w.heap.size rfl (.tmp 5) (.tmp 6) 22 5 (.int .u8 0) 1 rfl Try.underlying22 info5 rfl (by decide) (by decide) v1 [] l0 (some ad) l0.length c0 (fun _ => True) (fun _ => False) rfl rfl HO.out HC.out (fun _ _ h => h) (fun _ h => h.elim) (fun _ _ => trivial) HB.out HB.out.size (by simpa using hl) ?_; intro v2 w2 HO2 HB2 hg hat))
      go_ret
      exact ⟨_, rfl, by simpa using HO2, HB2⟩
  · exact absurd h (by simp)


/-- the bytes of a block, in the row that came in; the time; the error -/
def ansV (A : Option Addr) (c : Nat) (block : Int) (bad : Bool) : Value := if bad = true then .slice none 0 0 else .slice (if c = (block * 64).toNat then A else A.map (·.add ((block * 64).toNat * 1))) 64 (c - (block * 64).toNat)
def ansBad (f1 f2 try_ : Int) : Bool := f1 == 1 || (f1 == 2 && decide (try_ < f2))
def ansTime (f1 f2 : Int) : Int := if f1 = 3 then f2 else 1
set_option maxHeartbeats 8000000 in
set_option maxRecDepth 100000 in
theorem answer_walk (A0 : Option Addr) (c0 : Nat) (l0 : List Int) (A1 : Option Addr) (c1 : Nat) (l1 : List S121) (block try_ f0 f1 f2 : Int) (w : World) (hr0 : Kd.C (Kd.int .u8) w A0 l0.length l0) (hc0 : l0.length ≤ c0) (hr1 : Kd.C k121 w A1 l1.length l1) (hc1 : l1.length ≤ c1)
    (hf : drive_fault.f l0 l1 block = some (f0, f1, f2)) (h0 : 0 ≤ block) (h1 : (block + 1) * 64 ≤ l0.length) (hl : l0.length ≤ 140737488351232) (b3 b1 b2 bt : Bool) (e3 : (f1 == 3) = b3) (e1 : (f1 == 1) = b1) (e2 : (f1 == 2) = b2) (et : decide (try_ < f2) = bt) :
    Calls Try.prog 81 #[.agg #[.slice A0 l0.length c0, .slice A1 l1.length c1], .int .i64 block, .int .i64 try_] w fun e w' => e = .returned (.tuple #[ansV A0 c0 block (b1 || (b2 && bt)), .int .i64 (if b3 = true then f2 else 1), .int .i64 (if (b1 || (b2 && bt)) = true then 19 else 0)]) ∧ Below w.heap.size w w' := by
  have hu46 := Try.underlying46
  have hu121 := Try.underlying121
  obtain ⟨i5, hi5, hz0, hz1, hz2⟩ := info_parts info5
  obtain ⟨lo, hlo⟩ : ∃ lo : Nat, (lo : Int) = block * 64 := ⟨(block * 64).toNat, by omega⟩
  have hcut := cut_mid (P := Try.prog) 22 5 .i64 .i64 Try.underlying22 hi5 1 hz1 A0 l0.length c0 (block * 64) ((block + 1) * 64) (by omega) (by omega) (by omega) hc0
  have hlen : ((block + 1) * 64).toNat - (block * 64).toNat = 64 := by omega
  rw [hlen] at hcut
  have hm1 : IntKind.i64.wrap (block * 64) = block * 64 := by rw [i64_w]; unfold wrap64; omega
  have hm2 : IntKind.i64.wrap (block + 1) = block + 1 := by rw [i64_w]; unfold wrap64; omega
  have hm3 : IntKind.i64.wrap ((block + 1) * 64) = (block + 1) * 64 := by rw [i64_w]; unfold wrap64; omega
  clear hlo hlen
  obtain ⟨V, hV⟩ : ∃ V, (.slice (if c0 = (block * 64).toNat then A0 else A0.map (·.add ((block * 64).toNat * 1))) 64 (c0 - (block * 64).toNat) : Value) = V := ⟨_, rfl⟩
  rw [hV] at hcut
  have hV2 : ∀ b, ansV A0 c0 block b = if b = true then .slice none 0 0 else V := fun b => by unfold ansV; rw [hV]
  rw [hV2]
  replace hV := Aside0.mk hV
  clear hV2
  have HR0 := Aside0.mk hr0
  have HR1 := Aside0.mk hr1
  have HC0 := Aside0.mk hc0
  have HC1 := Aside0.mk hc1
  have HF := Aside0.mk hf
  clear hr0 hr1 hc0 hc1 hf h1 hl
  have HB := Aside0.mk (Below.refl w.heap.size w)
  cases b3 <;> cases b1 <;> cases b2 <;> cases bt
  all_goals first | (exfalso; simp only [beq_iff_eq] at e3 e1 e2; omega) | skip
  all_goals
    go_enter Try.func81, Try.ntmps81
    go_wp2_with (first
      | ((with_reducible refine gate_dst (N := 3) rfl ?_); refine box_event ?hg (N := 3) ?hd (cs := #[.slice A0 l0.length c0, .slice A1 l1.length c1]) (t := 46) ?hr ?_; (case hd => rfl); (case hg => rfl); (case hr => first | (go_simp; done) | (go_simp; rfl)); intro gb hg w1 hbox hb; have HB1 := Aside0.mk (below_step HB.out hb); have BK := Aside0.mk hbox; have GW := Aside0.mk (show w.heap.size ≤ gb by rw [hg]; exact Nat.le_refl _); clear hg hb hbox HB; have HB := HB1; clear HB1; have hcz0 : w1.cell? ⟨gb, 0, none⟩ = some (.slice A0 l0.length c0) := (blk_cell BK.out 0).trans rfl; have hcz1 : w1.cell? ⟨gb, 1, none⟩ = some (.slice A1 l1.length c1) := (blk_cell BK.out 1).trans rfl)
      | (go_at_call 110; refine (drive_fault.calls A0 c0 l0 A1 c1 l1 block f0 f1 f2 _ (Kd.C_below HR0.out HB.out) HC0.out (Kd.C_below HR1.out HB.out) HC1.out HF.out).mono ?_; rintro e w2 ⟨rfl, hb⟩; have HB1 := Aside0.mk (below_step HB.out hb); have BK1 := Aside0.mk (blk_below BK.out hb); clear hb HB BK hcz0 hcz1; have HB := HB1; have BK := BK1; clear HB1 BK1; have hcz0 : w2.cell? ⟨gb, 0, none⟩ = some (.slice A0 l0.length c0) := (blk_cell BK.out 0).trans rfl; have hlt0 : gb < w2.heap.size := blk_lt BK.out; have hcz2 := fun (o : Obj) => pw_cell_below (below_alloc (Below.refl w2.heap.size w2) o) hcz0))
    refine bodyPost_ret (results_tmp3 rfl _ _ _) rfl ?_
    exact ⟨rfl, by repeat (first | exact HB.out | apply below_alloc)⟩
/-- what an attempt gives -/
def ansOf (l0 : List Int) (l1 : List S121) (a1 a2 : Int) : Option (List Int × Int × Int) :=
  (drive_fault.f l0 l1 a1).bind fun g => some (if ansBad g.2.1 g.2.2 a2 = true then [] else (l0.take ((a1 + 1) * 64).toNat).drop (a1 * 64).toNat, ansTime g.2.1 g.2.2, if ansBad g.2.1 g.2.2 a2 = true then 19 else 0)
def drive_Answer.f (k : Nat) (l0 : List Int) (l1 : List S121) (a1 a2 : Int) : Option (List Int × Int × Int) :=
  (drive_Check.f k l0 l1).bind fun e => if l0.length ≤ 140737488351232 then (if e = 0 then (if a1 < 0 then some ([], 0, 4) else (if a1 ≥ (l0.length : Int) / 64 then some ([], 0, 4) else (if a2 < 1 then some ([], 0, 1) else ansOf l0 l1 a1 a2))) else some ([], 0, e)) else none
theorem drive_Answer.mono : ∀ a0 a1 a2 a3 k, LeO (drive_Answer.f k a0 a1 a2 a3) (drive_Answer.f (k + 1) a0 a1 a2 a3) := by
  intro a0 a1 a2 a3 k
  unfold drive_Answer.f
  exact LeO.bind (drive_Check.mono _ _ _) (fun _ => LeO.refl _)
set_option maxHeartbeats 8000000 in
set_option maxRecDepth 100000 in
theorem drive_Answer.calls (k : Nat) (A0 : Option Addr) (c0 : Nat) (l0 : List Int) (A1 : Option Addr) (c1 : Nat) (l1 : List S121) (a1 a2 : Int) (r1 : List Int) (r2 r3 : Int) (w : World) (hr0 : Kd.C (Kd.int .u8) w A0 l0.length l0) (hc0 : l0.length ≤ c0) (hr1 : Kd.C k121 w A1 l1.length l1) (hc1 : l1.length ≤ c1) (h : drive_Answer.f k l0 l1 a1 a2 = some (r1, r2, r3)) :
    Calls Try.prog 29 #[.agg #[.slice A0 l0.length c0, .slice A1 l1.length c1], .int .i64 a1, .int .i64 a2] w fun e w' => ∃ v0_ : Value, e = .returned (.tuple #[v0_, .int .i64 r2, .int .i64 r3]) ∧ Kd.R (Kd.int .u8) 5 w' w.heap.size (fun _ => True) v0_ r1 ∧ Below w.heap.size w w' := by
  have hu46 := Try.underlying46
  unfold drive_Answer.f at h
  obtain ⟨e, he, h⟩ := Option.bind_eq_some_iff.mp h
  split at h
  case isFalse => exact absurd h (by simp)
  rename_i hlen
  have HR0 := Aside0.mk hr0
  have HR1 := Aside0.mk hr1
  have HC0 := Aside0.mk hc0
  have HC1 := Aside0.mk hc1
  have HE := Aside0.mk he
  clear hr0 hr1 hc0 hc1 he
  have HB := Aside0.mk (Below.refl w.heap.size w)
  have hq : Int.tdiv (l0.length : Int) 64 = (l0.length : Int) / 64 := Int.tdiv_eq_ediv_of_nonneg (by omega)
  have hq2 : IntKind.i64.wrap ((l0.length : Int) / 64) = (l0.length : Int) / 64 := by rw [i64_w]; unfold wrap64; omega
  by_cases h0 : e = 0
  · subst h0
    rw [if_pos rfl] at h
    by_cases hneg : a1 < 0
    · rw [if_pos hneg] at h
      simp only [Option.some.injEq, Prod.mk.injEq] at h
      obtain ⟨rfl, rfl, rfl⟩ := h
      have hn := decide_eq_true hneg
      go_enter Try.func29, Try.ntmps29
      go_wp2_with (first
        | ((with_reducible refine gate_dst (N := 3) rfl ?_); refine box_event ?hg (N := 3) ?hd (cs := #[.slice A0 l0.length c0, .slice A1 l1.length c1]) (t := 46) ?hr ?_; (case hd => rfl); (case hg => rfl); (case hr => first | (go_simp; done) | (go_simp; rfl)); intro gb hg w1 hbox hb; have HB1 := Aside0.mk (below_step HB.out hb); have BK := Aside0.mk hbox; clear hg hb hbox HB; have HB := HB1; clear HB1; have hcz0 : w1.cell? ⟨gb, 0, none⟩ = some (.slice A0 l0.length c0) := (blk_cell BK.out 0).trans rfl; have hcz1 : w1.cell? ⟨gb, 1, none⟩ = some (.slice A1 l1.length c1) := (blk_cell BK.out 1).trans rfl)
        | (go_at_call 32; refine (drive_Check.calls k A0 c0 l0 A1 c1 l1 0 _ (Kd.C_below HR0.out HB.out) HC0.out (Kd.C_below HR1.out HB.out) HC1.out HE.out).mono ?_; rintro e w2 ⟨rfl, hb⟩; have HB1 := Aside0.mk (below_step HB.out hb); have BK1 := Aside0.mk (blk_below BK.out hb); clear hb HB BK hcz0 hcz1; have HB := HB1; have BK := BK1; clear HB1 BK1; have hcz0 : w2.cell? ⟨gb, 0, none⟩ = some (.slice A0 l0.length c0) := (blk_cell BK.out 0).trans rfl; have hcz1 : w2.cell? ⟨gb, 1, none⟩ = some (.slice A1 l1.length c1) := (blk_cell BK.out 1).trans rfl))
      refine bodyPost_ret (results_tmp3 rfl _ _ _) rfl ?_
      exact ⟨_, rfl, Kd.R_nil _ _ _ _ _, HB.out⟩
    · rw [if_neg hneg] at h
      have hn := decide_eq_false hneg
      by_cases hge : a1 ≥ (l0.length : Int) / 64
      · rw [if_pos hge] at h
        simp only [Option.some.injEq, Prod.mk.injEq] at h
        obtain ⟨rfl, rfl, rfl⟩ := h
        have hg1 : decide ((l0.length : Int) / 64 ≤ a1) = true := decide_eq_true hge
        go_enter Try.func29, Try.ntmps29
        go_wp2_with (first
          | ((with_reducible refine gate_dst (N := 3) rfl ?_); refine box_event ?hg (N := 3) ?hd (cs := #[.slice A0 l0.length c0, .slice A1 l1.length c1]) (t := 46) ?hr ?_; (case hd => rfl); (case hg => rfl); (case hr => first | (go_simp; done) | (go_simp; rfl)); intro gb hg w1 hbox hb; have HB1 := Aside0.mk (below_step HB.out hb); have BK := Aside0.mk hbox; clear hg hb hbox HB; have HB := HB1; clear HB1; have hcz0 : w1.cell? ⟨gb, 0, none⟩ = some (.slice A0 l0.length c0) := (blk_cell BK.out 0).trans rfl; have hcz1 : w1.cell? ⟨gb, 1, none⟩ = some (.slice A1 l1.length c1) := (blk_cell BK.out 1).trans rfl)
          | (go_at_call 32; refine (drive_Check.calls k A0 c0 l0 A1 c1 l1 0 _ (Kd.C_below HR0.out HB.out) HC0.out (Kd.C_below HR1.out HB.out) HC1.out HE.out).mono ?_; rintro e w2 ⟨rfl, hb⟩; have HB1 := Aside0.mk (below_step HB.out hb); have BK1 := Aside0.mk (blk_below BK.out hb); clear hb HB BK hcz0 hcz1; have HB := HB1; have BK := BK1; clear HB1 BK1; have hcz0 : w2.cell? ⟨gb, 0, none⟩ = some (.slice A0 l0.length c0) := (blk_cell BK.out 0).trans rfl; have hcz1 : w2.cell? ⟨gb, 1, none⟩ = some (.slice A1 l1.length c1) := (blk_cell BK.out 1).trans rfl))
        refine bodyPost_ret (results_tmp3 rfl _ _ _) rfl ?_
        exact ⟨_, rfl, Kd.R_nil _ _ _ _ _, HB.out⟩
      · rw [if_neg hge] at h
        have hg1 : decide ((l0.length : Int) / 64 ≤ a1) = false := decide_eq_false hge
        by_cases ht : a2 < 1
        · rw [if_pos ht] at h
          simp only [Option.some.injEq, Prod.mk.injEq] at h
          obtain ⟨rfl, rfl, rfl⟩ := h
          have ht1 := decide_eq_true ht
          go_enter Try.func29, Try.ntmps29
          go_wp2_with (first
            | ((with_reducible refine gate_dst (N := 3) rfl ?_); refine box_event ?hg (N := 3) ?hd (cs := #[.slice A0 l0.length c0, .slice A1 l1.length c1]) (t := 46) ?hr ?_; (case hd => rfl); (case hg => rfl); (case hr => first | (go_simp; done) | (go_simp; rfl)); intro gb hg w1 hbox hb; have HB1 := Aside0.mk (below_step HB.out hb); have BK := Aside0.mk hbox; clear hg hb hbox HB; have HB := HB1; clear HB1; have hcz0 : w1.cell? ⟨gb, 0, none⟩ = some (.slice A0 l0.length c0) := (blk_cell BK.out 0).trans rfl; have hcz1 : w1.cell? ⟨gb, 1, none⟩ = some (.slice A1 l1.length c1) := (blk_cell BK.out 1).trans rfl)
            | (go_at_call 32; refine (drive_Check.calls k A0 c0 l0 A1 c1 l1 0 _ (Kd.C_below HR0.out HB.out) HC0.out (Kd.C_below HR1.out HB.out) HC1.out HE.out).mono ?_; rintro e w2 ⟨rfl, hb⟩; have HB1 := Aside0.mk (below_step HB.out hb); have BK1 := Aside0.mk (blk_below BK.out hb); clear hb HB BK hcz0 hcz1; have HB := HB1; have BK := BK1; clear HB1 BK1; have hcz0 : w2.cell? ⟨gb, 0, none⟩ = some (.slice A0 l0.length c0) := (blk_cell BK.out 0).trans rfl; have hcz1 : w2.cell? ⟨gb, 1, none⟩ = some (.slice A1 l1.length c1) := (blk_cell BK.out 1).trans rfl))
          refine bodyPost_ret (results_tmp3 rfl _ _ _) rfl ?_
          exact ⟨_, rfl, Kd.R_nil _ _ _ _ _, HB.out⟩
        · rw [if_neg ht] at h
          have ht1 := decide_eq_false ht
          unfold ansOf at h
          obtain ⟨⟨f0, f1, f2⟩, hf, h⟩ := Option.bind_eq_some_iff.mp h
          simp only [Option.some.injEq, Prod.mk.injEq] at h
          obtain ⟨h1, h2, h3⟩ := h
          have hwalk := fun W (q0 : Kd.C (Kd.int .u8) W A0 l0.length l0) (q1 : Kd.C k121 W A1 l1.length l1) => answer_walk A0 c0 l0 A1 c1 l1 a1 a2 f0 f1 f2 W q0 HC0.out q1 HC1.out hf (by omega) (by omega) hlen _ _ _ _ rfl rfl rfl rfl
          have hbad : (f1 == 1 || (f1 == 2 && decide (a2 < f2))) = ansBad f1 f2 a2 := rfl
          have htime : (if (f1 == 3) = true then f2 else 1) = ansTime f1 f2 := by
            unfold ansTime
            by_cases h : f1 = 3 <;> simp [h]
          simp only [hbad, htime, h2, h3] at hwalk
          have hV : ∀ W : World, Kd.C (Kd.int .u8) W A0 l0.length l0 → ∃ A c, ansV A0 c0 a1 (ansBad f1 f2 a2) = .slice A r1.length c ∧ r1.length ≤ c ∧ r1.length ≤ 140737488355328 ∧ Kd.C (Kd.int .u8) W A r1.length r1 := by
            intro W hW
            unfold ansV
            by_cases hb : ansBad f1 f2 a2 = true
            · rw [if_pos hb] at h1 ⊢
              subst h1
              exact ⟨none, 0, rfl, by simp, by simp, rfl, by simp, fun h => absurd h (by simp)⟩
            · rw [if_neg hb] at h1 ⊢
              have hm := Kd.C_mid (lo := (a1 * 64).toNat) (hi := ((a1 + 1) * 64).toNat) hW (by omega) (by omega) HC0.out
              rw [h1] at hm
              have hl64 : r1.length = 64 := by rw [← h1, List.length_drop, List.length_take]; omega
              have hc := HC0.out
              refine ⟨_, c0 - (a1 * 64).toNat, ?_, by omega, by omega, hm⟩
              rw [hl64]; rfl
          replace h1 := Aside0.mk h1
          replace h2 := Aside0.mk h2
          replace h3 := Aside0.mk h3
          replace hf := Aside0.mk hf
          clear hbad htime
          obtain ⟨V, hVe⟩ : ∃ V, ansV A0 c0 a1 (ansBad f1 f2 a2) = V := ⟨_, rfl⟩
          rw [hVe] at hwalk hV
          replace hVe := Aside0.mk hVe
          clear hneg hge ht hlen
          go_enter Try.func29, Try.ntmps29
          go_wp2_with (first
            | ((with_reducible refine gate_dst (N := 3) rfl ?_); refine box_event ?hg (N := 3) ?hd (cs := #[.slice A0 l0.length c0, .slice A1 l1.length c1]) (t := 46) ?hr ?_; (case hd => rfl); (case hg => rfl); (case hr => first | (go_simp; done) | (go_simp; rfl)); intro gb hg w1 hbox hb; have HB1 := Aside0.mk (below_step HB.out hb); have BK := Aside0.mk hbox; clear hg hb hbox HB; have HB := HB1; clear HB1; have hcz0 : w1.cell? ⟨gb, 0, none⟩ = some (.slice A0 l0.length c0) := (blk_cell BK.out 0).trans rfl; have hcz1 : w1.cell? ⟨gb, 1, none⟩ = some (.slice A1 l1.length c1) := (blk_cell BK.out 1).trans rfl)
            | (go_at_call 32; refine (drive_Check.calls k A0 c0 l0 A1 c1 l1 0 _ (Kd.C_below HR0.out HB.out) HC0.out (Kd.C_below HR1.out HB.out) HC1.out HE.out).mono ?_; rintro e w2 ⟨rfl, hb⟩; have HB1 := Aside0.mk (below_step HB.out hb); have BK1 := Aside0.mk (blk_below BK.out hb); clear hb HB BK hcz0 hcz1; have HB := HB1; have BK := BK1; clear HB1 BK1; have hcz0 : w2.cell? ⟨gb, 0, none⟩ = some (.slice A0 l0.length c0) := (blk_cell BK.out 0).trans rfl; have hcz1 : w2.cell? ⟨gb, 1, none⟩ = some (.slice A1 l1.length c1) := (blk_cell BK.out 1).trans rfl)
            | (go_at_call 81; refine (hwalk _ (Kd.C_below HR0.out HB.out) (Kd.C_below HR1.out HB.out)).mono ?_; rintro e w3 ⟨rfl, hb⟩; have HB1 := Aside0.mk (below_step HB.out hb); clear hb HB hcz0 hcz1; have HB := HB1; clear HB1; obtain ⟨AV, cV, hVs, hVc, hVl, hVC⟩ := hV w3 (Kd.C_below HR0.out HB.out); subst hVs)
            | (go_at_call 82; refine (slices_Clone_byte.calls AV cV r1 r1 _ hVC hVc (by unfold slices_Clone_byte.f; rw [if_pos hVl])).mono ?_; rintro e w4 ⟨v0_, rfl, hR, hb⟩))
          refine bodyPost_ret (results_tmp3 rfl _ _ _) rfl ?_
          exact ⟨_, rfl, Kd.R_lower hR HB.out.size, below_step HB.out hb⟩
  · rw [if_neg h0] at h
    simp only [Option.some.injEq, Prod.mk.injEq] at h
    obtain ⟨rfl, rfl, rfl⟩ := h
    have he1 : (e != 0) = true := bne_iff_ne.mpr h0
    go_enter Try.func29, Try.ntmps29
    go_wp2_with (first
      | ((with_reducible refine gate_dst (N := 3) rfl ?_); refine box_event ?hg (N := 3) ?hd (cs := #[.slice A0 l0.length c0, .slice A1 l1.length c1]) (t := 46) ?hr ?_; (case hd => rfl); (case hg => rfl); (case hr => first | (go_simp; done) | (go_simp; rfl)); intro gb hg w1 hbox hb; have HB1 := Aside0.mk (below_step HB.out hb); have BK := Aside0.mk hbox; clear hg hb hbox HB; have HB := HB1; clear HB1; have hcz0 : w1.cell? ⟨gb, 0, none⟩ = some (.slice A0 l0.length c0) := (blk_cell BK.out 0).trans rfl; have hcz1 : w1.cell? ⟨gb, 1, none⟩ = some (.slice A1 l1.length c1) := (blk_cell BK.out 1).trans rfl)
      | (go_at_call 32; refine (drive_Check.calls k A0 c0 l0 A1 c1 l1 e _ (Kd.C_below HR0.out HB.out) HC0.out (Kd.C_below HR1.out HB.out) HC1.out HE.out).mono ?_; rintro e w2 ⟨rfl, hb⟩; have HB1 := Aside0.mk (below_step HB.out hb); clear hb HB hcz0 hcz1; have HB := HB1; clear HB1))
    refine bodyPost_ret (results_tmp3 rfl _ _ _) rfl ?_
    exact ⟨_, rfl, Kd.R_nil _ _ _ _ _, HB.out⟩


end Go.Proofs.Ytdgkbpoljcndgaa.QDriveAnswers
