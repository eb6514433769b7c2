/- Written by a program of this session (wip/mprint): the walk of the Go code, function by function, for every input; no condition. -/
import Derived.Test.YtlnikhijfamakaaQPackUnpacksx0
import Derived.Test.YtlnikhijfamakaaQPackUnpacksx1
import Derived.Shelf.Strings.Repeat
import Derived.Test.YtlnikhijfamakaaPureSourceImagesF
namespace Go.Proofs.Ytlnikhijfamakaa.QPackUnpacks
open Go.RowKit Go.Proofs.YtlnikhijfamakaaW.PrintWords Go.Proofs.YtlnikhijfamakaaW.PrintLast Go.Proofs.YtlnikhijfamakaaW.PrintMore
attribute [local go_sem] max2_int min2_int max_two min_two max_three min_three max_four min_four   -- for this text's walks alone
set_option linter.unusedVariables false
set_option linter.unusedSimpArgs false

-- import Derived.Shelf.Strings.Repeat
section
open Go.Shelf Go.RowKit Go.Lib Go.Proofs
def repeatS_ren : Go.Shelf.Ren := ⟨fun | 105 => 42 | 212 => 48 | 99 => 49 | 165 => 50 | 166 => 51 | 170 => 52 | 169 => 53 | 263 => 58 | 264 => 59 | 206 => 60 | 240 => 61 | 241 => 62 | 276 => 73 | 277 => 74 | n => n, fun | 9 => 9 | 3 => 3 | 4 => 4 | 20 => 20 | 0 => 0 | 46 => 101 | 109 => 102 | 5 => 5 | 72 => 107 | 76 => 111 | 51 => 117 | 146 => 118 | 53 => 120 | 148 => 121 | 70 => 105 | 37 => 22 | 75 => 110 | 127 => 123 | 164 => 134 | 80 => 113 | n => n, fun | n => n⟩
theorem repeatS : Go.Proofs.Lays.n105 Try.prog repeatS_ren := {
  mixed := by kernel_rfl
  f99 := Try.func49.trans (congrArg some (by kernel_rfl))
  f105 := Try.func42.trans (congrArg some (by kernel_rfl))
  f165 := Try.func50.trans (congrArg some (by kernel_rfl))
  f166 := Try.func51.trans (congrArg some (by kernel_rfl))
  f169 := Try.func53.trans (congrArg some (by kernel_rfl))
  f170 := Try.func52.trans (congrArg some (by kernel_rfl))
  f206 := Try.func60.trans (congrArg some (by kernel_rfl))
  f212 := Try.func48.trans (congrArg some (by kernel_rfl))
  f240 := Try.func61.trans (congrArg some (by kernel_rfl))
  f241 := Try.func62.trans (congrArg some (by kernel_rfl))
  f263 := Try.func58.trans (congrArg some (by kernel_rfl))
  f264 := Try.func59.trans (congrArg some (by kernel_rfl))
  f276 := Try.func73.trans (congrArg some (by kernel_rfl))
  f277 := Try.func74.trans (congrArg some (by kernel_rfl))
  t0 := Try.underlying0
  a0 := Try.isAgg0
  z0 := Try.sizeOf0
  v0 := Try.zeroValue0
  t3 := Try.underlying3
  a3 := Try.isAgg3
  z3 := Try.sizeOf3
  v3 := Try.zeroValue3
  t4 := Try.underlying4
  a4 := Try.isAgg4
  z4 := Try.sizeOf4
  v4 := Try.zeroValue4
  t5 := Try.underlying5
  a5 := Try.isAgg5
  z5 := Try.sizeOf5
  v5 := Try.zeroValue5
  t9 := Try.underlying9
  a9 := Try.isAgg9
  z9 := Try.sizeOf9
  v9 := Try.zeroValue9
  t20 := Try.underlying20
  a20 := Try.isAgg20
  z20 := Try.sizeOf20
  v20 := Try.zeroValue20
  t37 := Try.underlying22
  a37 := Try.isAgg22
  z37 := Try.sizeOf22
  v37 := Try.zeroValue22
  t46 := Try.underlying101
  a46 := Try.isAgg101
  z46 := Try.sizeOf101
  v46 := Try.zeroValue101
  t51 := Try.underlying117
  a51 := Try.isAgg117
  z51 := Try.sizeOf117
  v51 := Try.zeroValue117
  t53 := Try.underlying120
  a53 := Try.isAgg120
  z53 := Try.sizeOf120
  v53 := Try.zeroValue120
  t70 := Try.underlying105
  a70 := Try.isAgg105
  z70 := Try.sizeOf105
  v70 := Try.zeroValue105
  t72 := Try.underlying107
  a72 := Try.isAgg107
  z72 := Try.sizeOf107
  v72 := Try.zeroValue107
  t75 := Try.underlying110
  a75 := Try.isAgg110
  z75 := Try.sizeOf110
  v75 := Try.zeroValue110
  t76 := Try.underlying111
  a76 := Try.isAgg111
  z76 := Try.sizeOf111
  v76 := Try.zeroValue111
  t109 := Try.underlying102
  a109 := Try.isAgg102
  z109 := Try.sizeOf102
  v109 := Try.zeroValue102
  t127 := Try.underlying123
  a127 := Try.isAgg123
  z127 := Try.sizeOf123
  v127 := Try.zeroValue123
  t146 := Try.underlying118
  a146 := Try.isAgg118
  z146 := Try.sizeOf118
  v146 := Try.zeroValue118
  t148 := Try.underlying121
  a148 := Try.isAgg121
  z148 := Try.sizeOf121
  v148 := Try.zeroValue121
  t164 := Try.underlying134
  a164 := Try.isAgg134
  z164 := Try.sizeOf134
  v164 := Try.zeroValue134 }
theorem repeatS_extra : Builder.Extra Try.prog repeatS_ren := {
  sizeBuilder := by kernel_rfl
  liesBuilder := by kernel_rfl
  t5 := Try.underlying5
  a5 := Try.isAgg5
  z5 := Try.sizeOf5
  v5 := Try.zeroValue5
  infoByte := by kernel_rfl
  cellsByte := by kernel_rfl
  sizeByte := by kernel_rfl
  neB5 := by decide }
end
/-- so many copies of a string, within what one allocation may take -/
def strings_Repeat.f (a0 : ByteArray) (a1 : Int) : Option (ByteArray) := if 0 ≤ a1 ∧ a1 ≤ 9223372036854775807 ∧ a0.size * a1.toNat ≤ 140737488355328 then some ⟨(Go.Lib.repeatL a0.data.toList a1.toNat).toArray⟩ else none
theorem strings_Repeat.calls (a0 : ByteArray) (a1 : Int) (r : ByteArray) (w : World) (h : strings_Repeat.f a0 a1 = some r) :
    Calls Try.prog 42 #[.string a0, .int .i64 a1] w fun e w' => e = .returned (.string r) ∧ Below w.heap.size w w' := by
  unfold strings_Repeat.f at h
  split at h
  · rename_i hh
    obtain ⟨h0, h1, h2⟩ := hh
    obtain rfl := Option.some.inj h
    have e : (a1.toNat : Int) = a1 := Int.toNat_of_nonneg h0
    have z := Go.Proofs.Any.strings_Repeat (P := Try.prog) repeatS repeatS_extra a0 a1.toNat w (by omega) h2
    rw [e] at z
    exact z
  · cases h


/-! ### wrackref1_Tokens: function 26 -/
mutual
def wrackref1_Tokens.j0 : Nat → ByteArray → Int → Bool → Option (ByteArray × Int)
  | 0, _, _, _ => none
  | k + 1, x0, x1, x17 => if x17 = true then (some ((⟨#[]⟩ : ByteArray), 4)) else (wrackref1_Tokens.l0 k x0 x1 (⟨#[]⟩ : ByteArray))
def wrackref1_Tokens.l0 : Nat → ByteArray → Int → ByteArray → Option (ByteArray × Int)
  | 0, _, _, _ => none
  | k + 1, x0, x1, x6 => if x0.toList = ([] : List UInt8) then (if (x6.size : Int) < x1 then (some ((⟨#[]⟩ : ByteArray), 15)) else (some (x6, 0))) else (if 0 < (x0.size : Int) then (if (wrap64 (bt x0 0)) < 128 then (wrackref1_Tokens.j2 k x0 x1 x6 (wrap64 (bt x0 0)) (wrap64 ((wrap64 (bt x0 0)) + 1))) else (wrackref1_Tokens.j2 k x0 x1 x6 (wrap64 (bt x0 0)) 1)) else (none))
def wrackref1_Tokens.j2 : Nat → ByteArray → Int → ByteArray → Int → Int → Option (ByteArray × Int)
  | 0, _, _, _, _, _ => none
  | k + 1, x0, x1, x6, x7, x8 => if (wrap64 ((x0.size : Int) - 1)) < x8 then (some ((⟨#[]⟩ : ByteArray), 15)) else (if 1 ≤ (wrap64 (1 + x8)) then (if (wrap64 (1 + x8)) ≤ (x0.size : Int) then (if 0 ≤ (wrap64 (1 + x8)) then (if x7 < 128 then (if x6.size + (x0.extract 1 ((wrap64 (1 + x8)) : Int).toNat).size ≤ 9223372036854775807 then (if ((x6 ++ (x0.extract 1 ((wrap64 (1 + x8)) : Int).toNat)).size : Int) > x1 then (some ((⟨#[]⟩ : ByteArray), 2)) else (wrackref1_Tokens.l0 k (x0.extract ((wrap64 (1 + x8)) : Int).toNat x0.size) x1 (x6 ++ (x0.extract 1 ((wrap64 (1 + x8)) : Int).toNat)))) else (none)) else (if x7 < 192 then ((strings_Repeat.f (x0.extract 1 ((wrap64 (1 + x8)) : Int).toNat) (wrap64 (x7 - 125))).bind fun t138 => (if x6.size + t138.size ≤ 9223372036854775807 then (if ((x6 ++ t138).size : Int) > x1 then (some ((⟨#[]⟩ : ByteArray), 2)) else (wrackref1_Tokens.l0 k (x0.extract ((wrap64 (1 + x8)) : Int).toNat x0.size) x1 (x6 ++ t138))) else (none))) else (if 0 < ((x0.extract 1 ((wrap64 (1 + x8)) : Int).toNat).size : Int) then (if (x6.size : Int) < (wrap64 ((wrap64 (bt (x0.extract 1 ((wrap64 (1 + x8)) : Int).toNat) 0)) + 1)) then (some ((⟨#[]⟩ : ByteArray), 8)) else (if 0 ≤ (wrap64 ((x6.size : Int) - (wrap64 ((wrap64 (bt (x0.extract 1 ((wrap64 (1 + x8)) : Int).toNat) 0)) + 1)))) then (if (wrap64 ((x6.size : Int) - (wrap64 ((wrap64 (bt (x0.extract 1 ((wrap64 (1 + x8)) : Int).toNat) 0)) + 1)))) ≤ (x6.size : Int) then (if (wrap64 ((wrap64 (bt (x0.extract 1 ((wrap64 (1 + x8)) : Int).toNat) 0)) + 1)) = 0 then (none) else ((strings_Repeat.f (x6.extract ((wrap64 ((x6.size : Int) - (wrap64 ((wrap64 (bt (x0.extract 1 ((wrap64 (1 + x8)) : Int).toNat) 0)) + 1)))) : Int).toNat x6.size) (wrap64 ((wrap64 (Int.tdiv (wrap64 (x7 - 189)) (wrap64 ((wrap64 (bt (x0.extract 1 ((wrap64 (1 + x8)) : Int).toNat) 0)) + 1)))) + 1))).bind fun t139 => (if 0 ≤ (wrap64 (x7 - 189)) then (if (wrap64 (x7 - 189)) ≤ (t139.size : Int) then (if x6.size + (t139.extract 0 ((wrap64 (x7 - 189)) : Int).toNat).size ≤ 9223372036854775807 then (if ((x6 ++ (t139.extract 0 ((wrap64 (x7 - 189)) : Int).toNat)).size : Int) > x1 then (some ((⟨#[]⟩ : ByteArray), 2)) else (wrackref1_Tokens.l0 k (x0.extract ((wrap64 (1 + x8)) : Int).toNat x0.size) x1 (x6 ++ (t139.extract 0 ((wrap64 (x7 - 189)) : Int).toNat)))) else (none)) else (none)) else (none)))) else (none)) else (none))) else (none)))) else (none)) else (none)) else (none))
end
def wrackref1_Tokens.f (k : Nat) (a0 : ByteArray) (a1 : Int) : Option (ByteArray × Int) := if a1 < 0 then (wrackref1_Tokens.j0 k a0 a1 true) else (wrackref1_Tokens.j0 k a0 a1 (decide (a1 > 256)))
theorem wrackref1_Tokens.mono_l : ∀ k, (∀ y0 y1 y2, LeO (wrackref1_Tokens.j0 k y0 y1 y2) (wrackref1_Tokens.j0 (k + 1) y0 y1 y2)) ∧ (∀ y0 y1 y2, LeO (wrackref1_Tokens.l0 k y0 y1 y2) (wrackref1_Tokens.l0 (k + 1) y0 y1 y2)) ∧ (∀ y0 y1 y2 y3 y4, LeO (wrackref1_Tokens.j2 k y0 y1 y2 y3 y4) (wrackref1_Tokens.j2 (k + 1) y0 y1 y2 y3 y4))
  | 0 => ⟨fun _ _ _ r h => by simp [wrackref1_Tokens.j0] at h, fun _ _ _ r h => by simp [wrackref1_Tokens.l0] at h, fun _ _ _ _ _ r h => by simp [wrackref1_Tokens.j2] at h⟩
  | k + 1 => by
    obtain ⟨ih0, ih1, ih2⟩ := wrackref1_Tokens.mono_l k
    refine ⟨?_, ?_, ?_⟩
    · intro y0 y1 y2
      unfold wrackref1_Tokens.j0
      repeat' first
      | (with_reducible exact ih0 _ _ _)
      | (with_reducible exact ih1 _ _ _)
      | (with_reducible exact ih2 _ _ _ _ _)
      | (with_reducible exact LeO.refl _)
      | (with_reducible exact LeO.none _)
      | (with_reducible refine LeO.ite ?_ ?_)
      | (with_reducible refine LeO.bind ?_ (fun _ => ?_))
      | exact ih0 _ _ _
      | exact ih1 _ _ _
      | exact ih2 _ _ _ _ _
      | exact LeO.none _
      | refine LeO.ite ?_ ?_
      | refine LeO.bind ?_ (fun _ => ?_)
    · intro y0 y1 y2
      unfold wrackref1_Tokens.l0
      repeat' first
      | (with_reducible exact ih0 _ _ _)
      | (with_reducible exact ih1 _ _ _)
      | (with_reducible exact ih2 _ _ _ _ _)
      | (with_reducible exact LeO.refl _)
      | (with_reducible exact LeO.none _)
      | (with_reducible refine LeO.ite ?_ ?_)
      | (with_reducible refine LeO.bind ?_ (fun _ => ?_))
      | exact ih0 _ _ _
      | exact ih1 _ _ _
      | exact ih2 _ _ _ _ _
      | exact LeO.none _
      | refine LeO.ite ?_ ?_
      | refine LeO.bind ?_ (fun _ => ?_)
    · intro y0 y1 y2 y3 y4
      unfold wrackref1_Tokens.j2
      repeat' first
      | (with_reducible exact ih0 _ _ _)
      | (with_reducible exact ih1 _ _ _)
      | (with_reducible exact ih2 _ _ _ _ _)
      | (with_reducible exact LeO.refl _)
      | (with_reducible exact LeO.none _)
      | (with_reducible refine LeO.ite ?_ ?_)
      | (with_reducible refine LeO.bind ?_ (fun _ => ?_))
      | exact ih0 _ _ _
      | exact ih1 _ _ _
      | exact ih2 _ _ _ _ _
      | exact LeO.none _
      | refine LeO.ite ?_ ?_
      | refine LeO.bind ?_ (fun _ => ?_)
theorem wrackref1_Tokens.mono : ∀ a0 a1 k, LeO (wrackref1_Tokens.f k a0 a1) (wrackref1_Tokens.f (k + 1) a0 a1) := by
  intro a0 a1 k
  obtain ⟨ih0, ih1, ih2⟩ := wrackref1_Tokens.mono_l k
  unfold wrackref1_Tokens.f
  repeat' first
      | (with_reducible exact ih0 _ _ _)
      | (with_reducible exact ih1 _ _ _)
      | (with_reducible exact ih2 _ _ _ _ _)
      | (with_reducible exact LeO.refl _)
      | (with_reducible exact LeO.none _)
      | (with_reducible refine LeO.ite ?_ ?_)
      | (with_reducible refine LeO.bind ?_ (fun _ => ?_))
      | exact ih0 _ _ _
      | exact ih1 _ _ _
      | exact ih2 _ _ _ _ _
      | exact LeO.none _
      | refine LeO.ite ?_ ?_
      | refine LeO.bind ?_ (fun _ => ?_)
set_option maxHeartbeats 8000000 in
set_option maxRecDepth 100000 in
theorem wrackref1_Tokens.calls (k : Nat) (a0 : ByteArray) (a1 : Int) (r1 : ByteArray) (r2 : Int) (w : World) (h : wrackref1_Tokens.f k a0 a1 = some (r1, r2)) :
    Calls Try.prog 26 #[.string a0, .int .i64 a1] w fun e w' => e = .returned (.tuple #[.string r1, .int .i64 r2]) ∧ Below w.heap.size w w' := by
  have HB := Aside0.mk (Below.refl w.heap.size w)
  have H : (if a1 < 0 then (wrackref1_Tokens.j0 k a0 a1 true) else (wrackref1_Tokens.j0 k a0 a1 (decide (a1 > 256)))) = some (r1, r2) := h
  clear h
  have HC3 := Aside0.mk H
  clear H
  go_enter Try.func26, Try.ntmps26
  go_upto_region 1 with (fail)
  go_cut [17] (fun v17 wc => ∃ (kq : Nat) (x17_2 : Bool), v17 = .bool x17_2 ∧ Aside0 (wrackref1_Tokens.j0 kq a0 a1 x17_2 = some (r1, r2)) ∧ Aside0 (kq ≤ k) ∧ Aside0 (Below w.heap.size w wc))
  case first =>
    have H := HC3.out
    clear HC3
    by_cases c4 : a1 < 0
    · rw [if_pos c4] at H
      have c4b0 : decide (a1 < 0) = true := decide_eq_true c4
      clear c4
      (first | rw [c4b0] | (simp only [i64_w, i32_w]; rw [c4b0]) | skip)
      have H' := Aside0.mk H
      clear H
      go_wp2
      go_meet
      case rel => exact ⟨_, (true), (by first | rfl | (simp; done) | (simp [*]; done)), H', ⟨by first | omega | exact Nat.le_refl _⟩, ⟨by repeat (first | (with_reducible first | exact HB.out | apply below_alloc | apply pw_below_drewN | apply below_drew1) | exact HB.out)⟩⟩
    · rw [if_neg c4] at H
      have c4b0 : decide (a1 < 0) = false := decide_eq_false c4
      clear c4
      (first | rw [c4b0] | (simp only [i64_w, i32_w]; rw [c4b0]) | skip)
      have H' := Aside0.mk H
      clear H
      go_wp2
      go_meet
      case rel => exact ⟨_, (decide (a1 > 256)), (by first | rfl | (simp; done) | (simp [*]; done)), H', ⟨by first | omega | exact Nat.le_refl _⟩, ⟨by repeat (first | (with_reducible first | exact HB.out | apply below_alloc | apply pw_below_drewN | apply below_drew1) | exact HB.out)⟩⟩
  case rest =>
    clear HC3
    try clear c2
    try clear p2
    try clear c4
    try clear c4b0
    obtain ⟨kq, x17_2, rfl, HA, HJ2, HB⟩ := hcut
    cases kq with
    | zero => exact absurd HA.out (by simp [wrackref1_Tokens.j0])
    | succ kj2 =>
      have H := HA.out
      clear HA
      simp only [wrackref1_Tokens.j0] at H
      by_cases c5 : x17_2 = true
      · subst c5
        have H1 : (some ((⟨#[]⟩ : ByteArray), 4)) = some (r1, r2) := by rw [if_pos rfl] at H; exact H
        clear H
        have H := H1
        clear H1
        simp only [Option.some.injEq, Prod.mk.injEq] at H
        obtain ⟨rfl, rfl⟩ := H
        go_wp2
        go_ret2
        exact ⟨by first | rfl | (simp [errW_none, errW_some] <;> rfl) | (simp [*, errW_none, errW_some] <;> rfl), by repeat (first | (with_reducible first | exact HB.out | apply below_alloc | apply pw_below_drewN | apply below_drew1) | exact HB.out)⟩
      · replace c5 := Bool.eq_false_iff.mpr c5
        subst c5
        have H1 : (wrackref1_Tokens.l0 kj2 a0 a1 (⟨#[]⟩ : ByteArray)) = some (r1, r2) := by rw [if_neg (show ¬ (false = true) by decide)] at H; exact H
        clear H
        have H := H1
        clear H1
        have H' := Aside0.mk H
        clear H
        go_wp2
        go_loopg [0, 6] kj2 (fun kq v0 v6 w' => ∃ (x0_2 : ByteArray) (x6_2 : ByteArray), v0 = .string x0_2 ∧ v6 = .string x6_2 ∧ Aside0 (wrackref1_Tokens.l0 kq x0_2 a1 x6_2 = some (r1, r2)) ∧ Aside0 (kq ≤ kj2) ∧ Aside0 (Below w.heap.size w w'))
        case atStart => exact ⟨(a0), ((⟨#[]⟩ : ByteArray)), (by first | rfl | (simp; done) | (simp [*]; done)), (by first | rfl | (simp; done) | (simp [*]; done)), H', ⟨Nat.le_refl _⟩, ⟨by repeat (first | (with_reducible first | exact HB.out | apply below_alloc | apply pw_below_drewN | apply below_drew1) | exact HB.out)⟩⟩
        case round =>
          clear H'
          try clear c2
          try clear p2
          try clear c4
          try clear c4b0
          try clear c5
          try clear p2
          obtain ⟨x0_2, x6_2, rfl, rfl, HA, HK2, HB⟩ := hrel
          cases gk with
          | zero => exact absurd HA.out (by simp [wrackref1_Tokens.l0])
          | succ k2 =>
            have H := HA.out
            clear HA
            simp only [wrackref1_Tokens.l0] at H
            by_cases c6 : x0_2.toList = ([] : List UInt8)
            · rw [if_pos c6] at H
              have c6b0 : (x0_2.toList == ([] : List UInt8)) = true := beq_iff_eq.mpr c6
              have c6b1 : (x0_2.toList != ([] : List UInt8)) = false := bne_eq_false_iff_eq.mpr c6
              clear c6
              by_cases c7 : (x6_2.size : Int) < a1
              · rw [if_pos c7] at H
                have c7b0 : decide ((x6_2.size : Int) < a1) = true := decide_eq_true c7
                clear c7
                simp only [Option.some.injEq, Prod.mk.injEq] at H
                obtain ⟨rfl, rfl⟩ := H
                go_wp2
                go_ret2
                exact ⟨by first | rfl | (simp [errW_none, errW_some] <;> rfl) | (simp [*, errW_none, errW_some] <;> rfl), by repeat (first | (with_reducible first | exact HB.out | apply below_alloc | apply pw_below_drewN | apply below_drew1) | exact HB.out)⟩
              · rw [if_neg c7] at H
                have c7b0 : decide ((x6_2.size : Int) < a1) = false := decide_eq_false c7
                clear c7
                simp only [Option.some.injEq, Prod.mk.injEq] at H
                obtain ⟨rfl, rfl⟩ := H
                go_wp2
                go_ret2
                exact ⟨by first | rfl | (simp [errW_none, errW_some] <;> rfl) | (simp [*, errW_none, errW_some] <;> rfl), by repeat (first | (with_reducible first | exact HB.out | apply below_alloc | apply pw_below_drewN | apply below_drew1) | exact HB.out)⟩
            · rw [if_neg c6] at H
              have c6b0 : (x0_2.toList == ([] : List UInt8)) = false := beq_eq_false_iff_ne.mpr c6
              have c6b1 : (x0_2.toList != ([] : List UInt8)) = true := bne_iff_ne.mpr c6
              by_cases c8 : 0 < (x0_2.size : Int)
              · rw [if_pos c8] at H
                have c8b0 : decide (0 < (x0_2.size : Int)) = true := decide_eq_true c8
                have c8b1 : decide (0 < x0_2.size) = true := decide_eq_true (by omega)
                clear c8
                have HC10 := Aside0.mk H
                clear H
                have p9 : 0 ≤ (0 : Int) := (by omega)
                have q9 : 0 < x0_2.size := (by have : (0 : Int) < (x0_2.size : Int) := of_decide_eq_true (by first | (with_reducible assumption) | assumption); omega)
                have hx9 : ∀ h : 0 < x0_2.size, ((x0_2[0]'h).toNat : Int) = bt x0_2 0 := bt_at x0_2 0
                clear p9
                have qi9 : (0 < (x0_2.size : Int)) = True := eq_true (of_decide_eq_true (by first | (with_reducible assumption) | assumption))
                replace q9 := eq_true q9
                go_upto_if 24 with (fail)
                go_cut [8] (fun v8 wc => ∃ (kq : Nat) (x8_9 : Int), v8 = .int .i64 x8_9 ∧ Aside0 (wrackref1_Tokens.j2 kq x0_2 a1 x6_2 (wrap64 (bt x0_2 0)) x8_9 = some (r1, r2)) ∧ Aside0 (kq ≤ k2) ∧ Aside0 (Below w.heap.size w wc))
                case first =>
                  have H := HC10.out
                  clear HC10
                  by_cases c11 : (wrap64 (bt x0_2 0)) < 128
                  · rw [if_pos c11] at H
                    have c11b0 : decide ((wrap64 (bt x0_2 0)) < 128) = true := decide_eq_true c11
                    clear c11
                    (first | rw [c11b0] | (simp only [i64_w, i32_w]; rw [c11b0]) | skip)
                    have H' := Aside0.mk H
                    clear H
                    go_wp2
                    go_meet
                    case rel => exact ⟨_, (wrap64 ((wrap64 (bt x0_2 0)) + 1)), (by first | rfl | (simp; done) | (simp [*]; done)), H', ⟨by have := HJ2.out; have := HK2.out; first | omega | exact Nat.le_refl _⟩, ⟨by repeat (first | (with_reducible first | exact HB.out | apply below_alloc | apply pw_below_drewN | apply below_drew1) | exact HB.out)⟩⟩
                  · rw [if_neg c11] at H
                    have c11b0 : decide ((wrap64 (bt x0_2 0)) < 128) = false := decide_eq_false c11
                    clear c11
                    (first | rw [c11b0] | (simp only [i64_w, i32_w]; rw [c11b0]) | skip)
                    have H' := Aside0.mk H
                    clear H
                    go_wp2
                    go_meet
                    case rel => exact ⟨_, (1), (by first | rfl | (simp; done) | (simp [*]; done)), H', ⟨by have := HJ2.out; have := HK2.out; first | omega | exact Nat.le_refl _⟩, ⟨by repeat (first | (with_reducible first | exact HB.out | apply below_alloc | apply pw_below_drewN | apply below_drew1) | exact HB.out)⟩⟩
                case rest =>
                  clear HC10
                  try clear c1
                  try clear c2
                  try clear p2
                  try clear c4
                  try clear c4b0
                  try clear c5
                  try clear c6
                  try clear c6b0
                  try clear c6b1
                  try clear p6
                  try clear c7
                  try clear c7b0
                  try clear c8
                  try clear c8b0
                  try clear c8b1
                  try clear p9
                  try clear q9
                  try clear hx9
                  try clear qi9
                  try clear c11
                  try clear c11b0
                  try clear p2
                  try clear p9
                  try clear q9
                  obtain ⟨kq, x8_9, rfl, HA, HJ9, HB⟩ := hcut
                  cases kq with
                  | zero => exact absurd HA.out (by simp [wrackref1_Tokens.j2])
                  | succ kj9 =>
                    have H := HA.out
                    clear HA
                    simp only [wrackref1_Tokens.j2] at H
                    by_cases c12 : (wrap64 ((x0_2.size : Int) - 1)) < x8_9
                    · rw [if_pos c12] at H
                      have c12b0 : decide ((wrap64 ((x0_2.size : Int) - 1)) < x8_9) = true := decide_eq_true c12
                      clear c12
                      simp only [Option.some.injEq, Prod.mk.injEq] at H
                      obtain ⟨rfl, rfl⟩ := H
                      go_wp2
                      go_ret2
                      exact ⟨by first | rfl | (simp [errW_none, errW_some] <;> rfl) | (simp [*, errW_none, errW_some] <;> rfl), by repeat (first | (with_reducible first | exact HB.out | apply below_alloc | apply pw_below_drewN | apply below_drew1) | exact HB.out)⟩
                    · rw [if_neg c12] at H
                      have c12b0 : decide ((wrap64 ((x0_2.size : Int) - 1)) < x8_9) = false := decide_eq_false c12
                      clear c12
                      by_cases c13 : 1 ≤ (wrap64 (1 + x8_9))
                      · rw [if_pos c13] at H
                        have c13b0 := eq_true c13
                        have c13b1 : decide (1 ≤ (wrap64 (1 + x8_9))) = true := decide_eq_true c13
                        by_cases c14 : (wrap64 (1 + x8_9)) ≤ (x0_2.size : Int)
                        · rw [if_pos c14] at H
                          have c14b0 := eq_true c14
                          have c14b1 : decide ((wrap64 (1 + x8_9)) ≤ (x0_2.size : Int)) = true := decide_eq_true c14
                          obtain ⟨ji15, hji15⟩ : ∃ j_ : Int, (wrap64 (1 + x8_9)) = j_ := ⟨_, rfl⟩
                          replace H : (if 0 ≤ (ji15) then (if (wrap64 (bt x0_2 0)) < 128 then (if x6_2.size + (x0_2.extract 1 ((ji15) : Int).toNat).size ≤ 9223372036854775807 then (if ((x6_2 ++ (x0_2.extract 1 ((ji15) : Int).toNat)).size : Int) > a1 then (some ((⟨#[]⟩ : ByteArray), 2)) else (wrackref1_Tokens.l0 kj9 (x0_2.extract ((ji15) : Int).toNat x0_2.size) a1 (x6_2 ++ (x0_2.extract 1 ((ji15) : Int).toNat)))) else (none)) else (if (wrap64 (bt x0_2 0)) < 192 then ((strings_Repeat.f (x0_2.extract 1 ((ji15) : Int).toNat) (wrap64 ((wrap64 (bt x0_2 0)) - 125))).bind fun t138 => (if x6_2.size + t138.size ≤ 9223372036854775807 then (if ((x6_2 ++ t138).size : Int) > a1 then (some ((⟨#[]⟩ : ByteArray), 2)) else (wrackref1_Tokens.l0 kj9 (x0_2.extract ((ji15) : Int).toNat x0_2.size) a1 (x6_2 ++ t138))) else (none))) else (if 0 < ((x0_2.extract 1 ((ji15) : Int).toNat).size : Int) then (if (x6_2.size : Int) < (wrap64 ((wrap64 (bt (x0_2.extract 1 ((ji15) : Int).toNat) 0)) + 1)) then (some ((⟨#[]⟩ : ByteArray), 8)) else (if 0 ≤ (wrap64 ((x6_2.size : Int) - (wrap64 ((wrap64 (bt (x0_2.extract 1 ((ji15) : Int).toNat) 0)) + 1)))) then (if (wrap64 ((x6_2.size : Int) - (wrap64 ((wrap64 (bt (x0_2.extract 1 ((ji15) : Int).toNat) 0)) + 1)))) ≤ (x6_2.size : Int) then (if (wrap64 ((wrap64 (bt (x0_2.extract 1 ((ji15) : Int).toNat) 0)) + 1)) = 0 then (none) else ((strings_Repeat.f (x6_2.extract ((wrap64 ((x6_2.size : Int) - (wrap64 ((wrap64 (bt (x0_2.extract 1 ((ji15) : Int).toNat) 0)) + 1)))) : Int).toNat x6_2.size) (wrap64 ((wrap64 (Int.tdiv (wrap64 ((wrap64 (bt x0_2 0)) - 189)) (wrap64 ((wrap64 (bt (x0_2.extract 1 ((ji15) : Int).toNat) 0)) + 1)))) + 1))).bind fun t139 => (if 0 ≤ (wrap64 ((wrap64 (bt x0_2 0)) - 189)) then (if (wrap64 ((wrap64 (bt x0_2 0)) - 189)) ≤ (t139.size : Int) then (if x6_2.size + (t139.extract 0 ((wrap64 ((wrap64 (bt x0_2 0)) - 189)) : Int).toNat).size ≤ 9223372036854775807 then (if ((x6_2 ++ (t139.extract 0 ((wrap64 ((wrap64 (bt x0_2 0)) - 189)) : Int).toNat)).size : Int) > a1 then (some ((⟨#[]⟩ : ByteArray), 2)) else (wrackref1_Tokens.l0 kj9 (x0_2.extract ((ji15) : Int).toNat x0_2.size) a1 (x6_2 ++ (t139.extract 0 ((wrap64 ((wrap64 (bt x0_2 0)) - 189)) : Int).toNat)))) else (none)) else (none)) else (none)))) else (none)) else (none))) else (none)))) else (none)) = some (r1, r2) := by first | (rw [hji15] at H; exact H) | (simp only [hji15] at H ⊢; exact H)
                          (try rw [hji15] at c13b0)
                          (try rw [hji15] at c13b1)
                          (try rw [hji15] at c13)
                          (try rw [hji15] at c14b0)
                          (try rw [hji15] at c14b1)
                          (try rw [hji15] at c14)
                          have hji15w : (IntKind.i64.wrap (1 + x8_9)) = ji15 := (i64_w _).trans hji15
                          by_cases c16 : 0 ≤ (ji15)
                          · rw [if_pos c16] at H
                            have c16b0 := eq_true c16
                            have c16b1 : decide (0 ≤ (ji15)) = true := decide_eq_true c16
                            clear c16
                            have c17b0 := eq_true (of_decide_eq_true (by first | (with_reducible assumption) | assumption) : (ji15) ≤ (x0_2.size : Int))
                            by_cases c18 : (wrap64 (bt x0_2 0)) < 128
                            · rw [if_pos c18] at H
                              have c18b0 : decide ((wrap64 (bt x0_2 0)) < 128) = true := decide_eq_true c18
                              clear c18
                              obtain ⟨es1_, hes1_⟩ : ∃ e_ : ByteArray, x0_2.extract 1 ((ji15) : Int).toNat = e_ := ⟨_, rfl⟩
                              (try rw [hes1_] at H)
                              by_cases c19 : x6_2.size + es1_.size ≤ 9223372036854775807
                              · rw [if_pos c19] at H
                                have c19b0 := eq_true c19
                                have c19b1 : decide (x6_2.size + es1_.size ≤ 9223372036854775807) = true := decide_eq_true c19
                                try have c19b2 : (9223372036854775807 < x6_2.size + es1_.size) = False := eq_false (Nat.not_lt.2 c19)
                                obtain ⟨es2_, hes2_⟩ : ∃ e_ : ByteArray, x6_2 ++ es1_ = e_ := ⟨_, rfl⟩
                                (try rw [hes2_] at H)
                                by_cases c20 : (es2_.size : Int) > a1
                                · rw [if_pos c20] at H
                                  have c20b0 : decide (a1 < (es2_.size : Int)) = true := decide_eq_true c20
                                  clear c20
                                  simp only [Option.some.injEq, Prod.mk.injEq] at H
                                  obtain ⟨rfl, rfl⟩ := H
                                  go_wp2
                                  go_ret2
                                  exact ⟨by first | rfl | (simp [errW_none, errW_some] <;> rfl) | (simp only [← hji15]; first | rfl | (simp [errW_none, errW_some] <;> rfl)) | (simp [*, errW_none, errW_some] <;> rfl), by repeat (first | (with_reducible first | exact HB.out | apply below_alloc | apply pw_below_drewN | apply below_drew1) | exact HB.out)⟩
                                · rw [if_neg c20] at H
                                  have c20b0 : decide (a1 < (es2_.size : Int)) = false := decide_eq_false c20
                                  clear c20
                                  have H' := Aside0.mk H
                                  clear H
                                  go_wp2
                                  go_roundg kj9
                                  case measure => have := HJ2.out; have := HK2.out; have := HJ9.out; omega
                                  case rel => exact ⟨(x0_2.extract ((ji15) : Int).toNat x0_2.size), es2_, (by first | rfl | (simp; done) | (simp only [← hji15] <;> (first | rfl | simp)) | (simp [*]; done)), (by first | rfl | (simp; done) | (simp only [← hji15] <;> (first | rfl | simp)) | (simp [*]; done)), (by first | exact H' | (simp only [hji15]; exact H')), ⟨by have := HJ2.out; have := HK2.out; have := HJ9.out; omega⟩, ⟨by repeat (first | (with_reducible first | exact HB.out | apply below_alloc | apply pw_below_drewN | apply below_drew1) | exact HB.out)⟩⟩
                              · rw [if_neg c19] at H
                                exact absurd H (by simp)
                            · rw [if_neg c18] at H
                              have c18b0 : decide ((wrap64 (bt x0_2 0)) < 128) = false := decide_eq_false c18
                              clear c18
                              by_cases c21 : (wrap64 (bt x0_2 0)) < 192
                              · rw [if_pos c21] at H
                                have c21b0 : decide ((wrap64 (bt x0_2 0)) < 192) = true := decide_eq_true c21
                                clear c21
                                replace H := Option.bind_eq_some_iff.mp H
                                obtain ⟨t138, A220, H⟩ := H
                                replace H : (if x6_2.size + t138.size ≤ 9223372036854775807 then (if ((x6_2 ++ t138).size : Int) > a1 then (some ((⟨#[]⟩ : ByteArray), 2)) else (wrackref1_Tokens.l0 kj9 (x0_2.extract ((ji15) : Int).toNat x0_2.size) a1 (x6_2 ++ t138))) else (none)) = some (r1, r2) := H
                                have A22 := Aside0.mk A220
                                clear A220
                                by_cases c23 : x6_2.size + t138.size ≤ 9223372036854775807
                                · rw [if_pos c23] at H
                                  have c23b0 := eq_true c23
                                  have c23b1 : decide (x6_2.size + t138.size ≤ 9223372036854775807) = true := decide_eq_true c23
                                  try have c23b2 : (9223372036854775807 < x6_2.size + t138.size) = False := eq_false (Nat.not_lt.2 c23)
                                  obtain ⟨es3_, hes3_⟩ : ∃ e_ : ByteArray, x6_2 ++ t138 = e_ := ⟨_, rfl⟩
                                  (try rw [hes3_] at H)
                                  by_cases c24 : (es3_.size : Int) > a1
                                  · rw [if_pos c24] at H
                                    have c24b0 : decide (a1 < (es3_.size : Int)) = true := decide_eq_true c24
                                    clear c24
                                    simp only [Option.some.injEq, Prod.mk.injEq] at H
                                    obtain ⟨rfl, rfl⟩ := H
                                    go_wp2_with (first | ((with_reducible refine gate_callee (f := 42) rfl ?_); refine goesL_ (some 79) rfl rfl Try.func42 (by kernel_rfl) rfl #[.string (x0_2.extract 1 ((ji15) : Int).toNat), .int .i64 (wrap64 ((wrap64 (bt x0_2 0)) - 125))] rfl (by (try simp only [List.map_toArray, List.map_cons, List.map_nil]); first | done | (simp only [hji15]; rfl) | rfl | (simp only [List.length_drop, List.length_take]; rfl)) ?_; (with_reducible refine (strings_Repeat.calls (x0_2.extract 1 ((ji15) : Int).toNat) (wrap64 ((wrap64 (bt x0_2 0)) - 125)) t138 _ A22.out).mono ?_); rintro e w25 ⟨rfl, hb⟩; refine ⟨_, rfl, ?_⟩; have n0_ := Aside0.mk (below_step (by repeat (first | (with_reducible first | exact HB.out | apply below_alloc | apply pw_below_drewN | apply below_drew1) | exact HB.out)) hb); clear HB; have HB := n0_; clear n0_; (try clear hb); (try clear hb2); (try clear hk); (try clear hi)))
                                    go_ret2
                                    exact ⟨by first | rfl | (simp [errW_none, errW_some] <;> rfl) | (simp only [← hji15]; first | rfl | (simp [errW_none, errW_some] <;> rfl)) | (simp [*, errW_none, errW_some] <;> rfl), by repeat (first | (with_reducible first | exact HB.out | apply below_alloc | apply pw_below_drewN | apply below_drew1) | exact HB.out)⟩
                                  · rw [if_neg c24] at H
                                    have c24b0 : decide (a1 < (es3_.size : Int)) = false := decide_eq_false c24
                                    clear c24
                                    have H' := Aside0.mk H
                                    clear H
                                    go_wp2_with (first | ((with_reducible refine gate_callee (f := 42) rfl ?_); refine goesL_ (some 79) rfl rfl Try.func42 (by kernel_rfl) rfl #[.string (x0_2.extract 1 ((ji15) : Int).toNat), .int .i64 (wrap64 ((wrap64 (bt x0_2 0)) - 125))] rfl (by (try simp only [List.map_toArray, List.map_cons, List.map_nil]); first | done | (simp only [hji15]; rfl) | rfl | (simp only [List.length_drop, List.length_take]; rfl)) ?_; (with_reducible refine (strings_Repeat.calls (x0_2.extract 1 ((ji15) : Int).toNat) (wrap64 ((wrap64 (bt x0_2 0)) - 125)) t138 _ A22.out).mono ?_); rintro e w26 ⟨rfl, hb⟩; refine ⟨_, rfl, ?_⟩; have n0_ := Aside0.mk (below_step (by repeat (first | (with_reducible first | exact HB.out | apply below_alloc | apply pw_below_drewN | apply below_drew1) | exact HB.out)) hb); clear HB; have HB := n0_; clear n0_; (try clear hb); (try clear hb2); (try clear hk); (try clear hi)))
                                    go_roundg kj9
                                    case measure => have := HJ2.out; have := HK2.out; have := HJ9.out; omega
                                    case rel => exact ⟨(x0_2.extract ((ji15) : Int).toNat x0_2.size), es3_, (by first | rfl | (simp; done) | (simp only [← hji15] <;> (first | rfl | simp)) | (simp [*]; done)), (by first | rfl | (simp; done) | (simp [*]; done)), (by first | exact H' | (simp only [hji15]; exact H')), ⟨by have := HJ2.out; have := HK2.out; have := HJ9.out; omega⟩, ⟨by repeat (first | (with_reducible first | exact HB.out | apply below_alloc | apply pw_below_drewN | apply below_drew1) | exact HB.out)⟩⟩
                                · rw [if_neg c23] at H
                                  exact absurd H (by simp)
                              · rw [if_neg c21] at H
                                have c21b0 : decide ((wrap64 (bt x0_2 0)) < 192) = false := decide_eq_false c21
                                clear c21
                                obtain ⟨es4_, hes4_⟩ : ∃ e_ : ByteArray, x0_2.extract 1 ((ji15) : Int).toNat = e_ := ⟨_, rfl⟩
                                (try rw [hes4_] at H)
                                by_cases c27 : 0 < (es4_.size : Int)
                                · rw [if_pos c27] at H
                                  have c27b0 : decide (0 < (es4_.size : Int)) = true := decide_eq_true c27
                                  have c27b1 : decide (0 < es4_.size) = true := decide_eq_true (by omega)
                                  clear c27
                                  by_cases c29 : (x6_2.size : Int) < (wrap64 ((wrap64 (bt es4_ 0)) + 1))
                                  · rw [if_pos c29] at H
                                    have c29b0 : decide ((x6_2.size : Int) < (wrap64 ((wrap64 (bt es4_ 0)) + 1))) = true := decide_eq_true c29
                                    clear c29
                                    simp only [Option.some.injEq, Prod.mk.injEq] at H
                                    obtain ⟨rfl, rfl⟩ := H
                                    have p28 : 0 ≤ (0 : Int) := (by omega)
                                    have q28 : 0 < es4_.size := (by have : (0 : Int) < (es4_.size : Int) := of_decide_eq_true (by first | (with_reducible assumption) | assumption); omega)
                                    have hx28 : ∀ h : 0 < es4_.size, ((es4_[0]'h).toNat : Int) = bt es4_ 0 := bt_at es4_ 0
                                    clear p28
                                    have qi28 : (0 < (es4_.size : Int)) = True := eq_true (of_decide_eq_true (by first | (with_reducible assumption) | assumption))
                                    replace q28 := eq_true q28
                                    go_wp2
                                    go_ret2
                                    exact ⟨by first | rfl | (simp [errW_none, errW_some] <;> rfl) | (simp only [← hji15]; first | rfl | (simp [errW_none, errW_some] <;> rfl)) | (simp [*, errW_none, errW_some] <;> rfl), by repeat (first | (with_reducible first | exact HB.out | apply below_alloc | apply pw_below_drewN | apply below_drew1) | exact HB.out)⟩
                                  · rw [if_neg c29] at H
                                    have c29b0 : decide ((x6_2.size : Int) < (wrap64 ((wrap64 (bt es4_ 0)) + 1))) = false := decide_eq_false c29
                                    clear c29
                                    obtain ⟨ji30, hji30⟩ : ∃ j_ : Int, (wrap64 ((x6_2.size : Int) - (wrap64 ((wrap64 (bt es4_ 0)) + 1)))) = j_ := ⟨_, rfl⟩
                                    replace H : (if 0 ≤ (ji30) then (if (ji30) ≤ (x6_2.size : Int) then (if (wrap64 ((wrap64 (bt es4_ 0)) + 1)) = 0 then (none) else ((strings_Repeat.f (x6_2.extract ((ji30) : Int).toNat x6_2.size) (wrap64 ((wrap64 (Int.tdiv (wrap64 ((wrap64 (bt x0_2 0)) - 189)) (wrap64 ((wrap64 (bt es4_ 0)) + 1)))) + 1))).bind fun t139 => (if 0 ≤ (wrap64 ((wrap64 (bt x0_2 0)) - 189)) then (if (wrap64 ((wrap64 (bt x0_2 0)) - 189)) ≤ (t139.size : Int) then (if x6_2.size + (t139.extract 0 ((wrap64 ((wrap64 (bt x0_2 0)) - 189)) : Int).toNat).size ≤ 9223372036854775807 then (if ((x6_2 ++ (t139.extract 0 ((wrap64 ((wrap64 (bt x0_2 0)) - 189)) : Int).toNat)).size : Int) > a1 then (some ((⟨#[]⟩ : ByteArray), 2)) else (wrackref1_Tokens.l0 kj9 (x0_2.extract ((ji15) : Int).toNat x0_2.size) a1 (x6_2 ++ (t139.extract 0 ((wrap64 ((wrap64 (bt x0_2 0)) - 189)) : Int).toNat)))) else (none)) else (none)) else (none)))) else (none)) else (none)) = some (r1, r2) := by first | (rw [hji30] at H; exact H) | (simp only [hji30] at H ⊢; exact H)
                                    have hji30w : (IntKind.i64.wrap ((x6_2.size : Int) - (wrap64 ((wrap64 (bt es4_ 0)) + 1)))) = ji30 := (i64_w _).trans hji30
                                    by_cases c31 : 0 ≤ (ji30)
                                    · rw [if_pos c31] at H
                                      have c31b0 := eq_true c31
                                      have c31b1 : decide (0 ≤ (ji30)) = true := decide_eq_true c31
                                      clear c31
                                      by_cases c32 : (ji30) ≤ (x6_2.size : Int)
                                      · rw [if_pos c32] at H
                                        have c32b0 := eq_true c32
                                        have c32b1 : decide ((ji30) ≤ (x6_2.size : Int)) = true := decide_eq_true c32
                                        clear c32
                                        by_cases c33 : (wrap64 ((wrap64 (bt es4_ 0)) + 1)) = 0
                                        · rw [if_pos c33] at H
                                          exact absurd H (by simp)
                                        · rw [if_neg c33] at H
                                          have c33b0 : ((wrap64 ((wrap64 (bt es4_ 0)) + 1)) == 0) = false := beq_eq_false_iff_ne.mpr c33
                                          have c33b1 : ((wrap64 ((wrap64 (bt es4_ 0)) + 1)) != 0) = true := bne_iff_ne.mpr c33
                                          replace H := Option.bind_eq_some_iff.mp H
                                          obtain ⟨t139, A340, H⟩ := H
                                          replace H : (if 0 ≤ (wrap64 ((wrap64 (bt x0_2 0)) - 189)) then (if (wrap64 ((wrap64 (bt x0_2 0)) - 189)) ≤ (t139.size : Int) then (if x6_2.size + (t139.extract 0 ((wrap64 ((wrap64 (bt x0_2 0)) - 189)) : Int).toNat).size ≤ 9223372036854775807 then (if ((x6_2 ++ (t139.extract 0 ((wrap64 ((wrap64 (bt x0_2 0)) - 189)) : Int).toNat)).size : Int) > a1 then (some ((⟨#[]⟩ : ByteArray), 2)) else (wrackref1_Tokens.l0 kj9 (x0_2.extract ((ji15) : Int).toNat x0_2.size) a1 (x6_2 ++ (t139.extract 0 ((wrap64 ((wrap64 (bt x0_2 0)) - 189)) : Int).toNat)))) else (none)) else (none)) else (none)) = some (r1, r2) := H
                                          have A34 := Aside0.mk A340
                                          clear A340
                                          obtain ⟨ji35, hji35⟩ : ∃ j_ : Int, (wrap64 ((wrap64 (bt x0_2 0)) - 189)) = j_ := ⟨_, rfl⟩
                                          replace H : (if 0 ≤ (ji35) then (if (ji35) ≤ (t139.size : Int) then (if x6_2.size + (t139.extract 0 ((ji35) : Int).toNat).size ≤ 9223372036854775807 then (if ((x6_2 ++ (t139.extract 0 ((ji35) : Int).toNat)).size : Int) > a1 then (some ((⟨#[]⟩ : ByteArray), 2)) else (wrackref1_Tokens.l0 kj9 (x0_2.extract ((ji15) : Int).toNat x0_2.size) a1 (x6_2 ++ (t139.extract 0 ((ji35) : Int).toNat)))) else (none)) else (none)) else (none)) = some (r1, r2) := by first | (rw [hji35] at H; exact H) | (simp only [hji35] at H ⊢; exact H)
                                          (try rw [hji35] at A34)
                                          have hji35w : (IntKind.i64.wrap ((wrap64 (bt x0_2 0)) - 189)) = ji35 := (i64_w _).trans hji35
                                          by_cases c36 : 0 ≤ (ji35)
                                          · rw [if_pos c36] at H
                                            have c36b0 := eq_true c36
                                            have c36b1 : decide (0 ≤ (ji35)) = true := decide_eq_true c36
                                            clear c36
                                            by_cases c37 : (ji35) ≤ (t139.size : Int)
                                            · rw [if_pos c37] at H
                                              have c37b0 := eq_true c37
                                              have c37b1 : decide ((ji35) ≤ (t139.size : Int)) = true := decide_eq_true c37
                                              clear c37
                                              obtain ⟨es5_, hes5_⟩ : ∃ e_ : ByteArray, t139.extract 0 ((ji35) : Int).toNat = e_ := ⟨_, rfl⟩
                                              (try rw [hes5_] at H)
                                              by_cases c38 : x6_2.size + es5_.size ≤ 9223372036854775807
                                              · rw [if_pos c38] at H
                                                have c38b0 := eq_true c38
                                                have c38b1 : decide (x6_2.size + es5_.size ≤ 9223372036854775807) = true := decide_eq_true c38
                                                try have c38b2 : (9223372036854775807 < x6_2.size + es5_.size) = False := eq_false (Nat.not_lt.2 c38)
                                                obtain ⟨es6_, hes6_⟩ : ∃ e_ : ByteArray, x6_2 ++ es5_ = e_ := ⟨_, rfl⟩
                                                (try rw [hes6_] at H)
                                                by_cases c39 : (es6_.size : Int) > a1
                                                · rw [if_pos c39] at H
                                                  have c39b0 : decide (a1 < (es6_.size : Int)) = true := decide_eq_true c39
                                                  clear c39
                                                  simp only [Option.some.injEq, Prod.mk.injEq] at H
                                                  obtain ⟨rfl, rfl⟩ := H
                                                  have p28 : 0 ≤ (0 : Int) := (by omega)
                                                  have q28 : 0 < es4_.size := (by have : (0 : Int) < (es4_.size : Int) := of_decide_eq_true (by first | (with_reducible assumption) | assumption); omega)
                                                  have hx28 : ∀ h : 0 < es4_.size, ((es4_[0]'h).toNat : Int) = bt es4_ 0 := bt_at es4_ 0
                                                  clear p28
                                                  have qi28 : (0 < (es4_.size : Int)) = True := eq_true (of_decide_eq_true (by first | (with_reducible assumption) | assumption))
                                                  replace q28 := eq_true q28
                                                  go_wp2_with (first | ((with_reducible refine gate_callee (f := 42) rfl ?_); refine goesL_ (some 61) rfl rfl Try.func42 (by kernel_rfl) rfl #[.string (x6_2.extract ((ji30) : Int).toNat x6_2.size), .int .i64 (wrap64 ((wrap64 (Int.tdiv (ji35) (wrap64 ((wrap64 (bt es4_ 0)) + 1)))) + 1))] rfl (by (try simp only [List.map_toArray, List.map_cons, List.map_nil]); first | done | (simp only [hji15, hji30, hji35]; rfl) | rfl | (simp only [List.length_drop, List.length_take]; rfl)) ?_; (with_reducible refine (strings_Repeat.calls (x6_2.extract ((ji30) : Int).toNat x6_2.size) (wrap64 ((wrap64 (Int.tdiv (ji35) (wrap64 ((wrap64 (bt es4_ 0)) + 1)))) + 1)) t139 _ A34.out).mono ?_); rintro e w40 ⟨rfl, hb⟩; refine ⟨_, rfl, ?_⟩; have n0_ := Aside0.mk (below_step (by repeat (first | (with_reducible first | exact HB.out | apply below_alloc | apply pw_below_drewN | apply below_drew1) | exact HB.out)) hb); clear HB; have HB := n0_; clear n0_; (try clear hb); (try clear hb2); (try clear hk); (try clear hi)))
                                                  go_ret2
                                                  exact ⟨by first | rfl | (simp [errW_none, errW_some] <;> rfl) | (simp only [← hji15, ← hji30, ← hji35]; first | rfl | (simp [errW_none, errW_some] <;> rfl)) | (simp [*, errW_none, errW_some] <;> rfl), by repeat (first | (with_reducible first | exact HB.out | apply below_alloc | apply pw_below_drewN | apply below_drew1) | exact HB.out)⟩
                                                · rw [if_neg c39] at H
                                                  have c39b0 : decide (a1 < (es6_.size : Int)) = false := decide_eq_false c39
                                                  clear c39
                                                  have H' := Aside0.mk H
                                                  clear H
                                                  have p28 : 0 ≤ (0 : Int) := (by omega)
                                                  have q28 : 0 < es4_.size := (by have : (0 : Int) < (es4_.size : Int) := of_decide_eq_true (by first | (with_reducible assumption) | assumption); omega)
                                                  have hx28 : ∀ h : 0 < es4_.size, ((es4_[0]'h).toNat : Int) = bt es4_ 0 := bt_at es4_ 0
                                                  clear p28
                                                  have qi28 : (0 < (es4_.size : Int)) = True := eq_true (of_decide_eq_true (by first | (with_reducible assumption) | assumption))
                                                  replace q28 := eq_true q28
                                                  go_wp2_with (first | ((with_reducible refine gate_callee (f := 42) rfl ?_); refine goesL_ (some 61) rfl rfl Try.func42 (by kernel_rfl) rfl #[.string (x6_2.extract ((ji30) : Int).toNat x6_2.size), .int .i64 (wrap64 ((wrap64 (Int.tdiv (ji35) (wrap64 ((wrap64 (bt es4_ 0)) + 1)))) + 1))] rfl (by (try simp only [List.map_toArray, List.map_cons, List.map_nil]); first | done | (simp only [hji15, hji30, hji35]; rfl) | rfl | (simp only [List.length_drop, List.length_take]; rfl)) ?_; (with_reducible refine (strings_Repeat.calls (x6_2.extract ((ji30) : Int).toNat x6_2.size) (wrap64 ((wrap64 (Int.tdiv (ji35) (wrap64 ((wrap64 (bt es4_ 0)) + 1)))) + 1)) t139 _ A34.out).mono ?_); rintro e w41 ⟨rfl, hb⟩; refine ⟨_, rfl, ?_⟩; have n0_ := Aside0.mk (below_step (by repeat (first | (with_reducible first | exact HB.out | apply below_alloc | apply pw_below_drewN | apply below_drew1) | exact HB.out)) hb); clear HB; have HB := n0_; clear n0_; (try clear hb); (try clear hb2); (try clear hk); (try clear hi)))
                                                  go_roundg kj9
                                                  case measure => have := HJ2.out; have := HK2.out; have := HJ9.out; omega
                                                  case rel => exact ⟨(x0_2.extract ((ji15) : Int).toNat x0_2.size), es6_, (by first | rfl | (simp; done) | (simp only [← hji15] <;> (first | rfl | simp)) | (simp [*]; done)), (by first | rfl | (simp; done) | (simp only [← hji35] <;> (first | rfl | simp)) | (simp [*]; done)), (by first | exact H' | (simp only [hji15, hji30, hji35]; exact H')), ⟨by have := HJ2.out; have := HK2.out; have := HJ9.out; omega⟩, ⟨by repeat (first | (with_reducible first | exact HB.out | apply below_alloc | apply pw_below_drewN | apply below_drew1) | exact HB.out)⟩⟩
                                              · rw [if_neg c38] at H
                                                exact absurd H (by simp)
                                            · rw [if_neg c37] at H
                                              exact absurd H (by simp)
                                          · rw [if_neg c36] at H
                                            exact absurd H (by simp)
                                      · rw [if_neg c32] at H
                                        exact absurd H (by simp)
                                    · rw [if_neg c31] at H
                                      exact absurd H (by simp)
                                · rw [if_neg c27] at H
                                  exact absurd H (by simp)
                          · rw [if_neg c16] at H
                            exact absurd H (by simp)
                        · rw [if_neg c14] at H
                          exact absurd H (by simp)
                      · rw [if_neg c13] at H
                        exact absurd H (by simp)
              · rw [if_neg c8] at H
                exact absurd H (by simp)

-- import Derived.Test.YtlnikhijfamakaaPureSourceImagesF
/-- the fact on a part of an image -/
def wracklaw1_sources.f : Option (Bool) := some true
theorem wracklaw1_sources.calls (r : Bool) (w : World) (h : wracklaw1_sources.f = some r) :
    Calls Try.prog 9 #[] w fun e w' => e = .returned (.bool r) ∧ Below w.heap.size w w' := by
  obtain rfl := Option.some.inj h
  exact Go.Proofs.Ytlnikhijfamakaa.Pure.sources_calls w


/-! ### wracklaw1_packs: function 27 -/
def wracklaw1_packs.f (k : Nat)  : Option (Bool) := (pack_Unpack.f k (([130, 7] : List Int)) 5).bind fun bt143 => (if bt143.2 = 0 then (if (strOfNums bt143.1).toList = ([7, 7, 7, 7, 7] : List UInt8) then ((wracklaw1_sources.f).bind fun t147 => (some t147)) else (some false)) else (some false))
theorem wracklaw1_packs.mono : ∀ k, LeO (wracklaw1_packs.f k ) (wracklaw1_packs.f (k + 1) ) := by
  intro  k
  unfold wracklaw1_packs.f
  repeat' first
      | (with_reducible exact pack_Unpack.mono _ _ _)
      | (with_reducible exact LeO.refl _)
      | (with_reducible exact LeO.none _)
      | (with_reducible refine LeO.ite ?_ ?_)
      | (with_reducible refine LeO.bind ?_ (fun _ => ?_))
      | exact pack_Unpack.mono _ _ _
      | exact LeO.none _
      | refine LeO.ite ?_ ?_
      | refine LeO.bind ?_ (fun _ => ?_)
set_option maxHeartbeats 8000000 in
set_option maxRecDepth 100000 in
theorem wracklaw1_packs.calls (k : Nat)  (r : Bool) (w : World) (h : wracklaw1_packs.f k  = some r) :
    Calls Try.prog 27 #[] w fun e w' => e = .returned (.bool r) ∧ Below w.heap.size w w' := by
  have HB := Aside0.mk (Below.refl w.heap.size w)
  have H : ((pack_Unpack.f k (([130, 7] : List Int)) 5).bind fun bt143 => (if bt143.2 = 0 then (if (strOfNums bt143.1).toList = ([7, 7, 7, 7, 7] : List UInt8) then ((wracklaw1_sources.f).bind fun t147 => (some t147)) else (some false)) else (some false))) = some r := h
  clear h
  obtain ⟨y140, hy140⟩ : ∃ y_ : List Int, y_ = (([130, 7] : List Int)) := ⟨_, rfl⟩
  replace H : ((pack_Unpack.f k y140 5).bind fun bt143 => (if bt143.2 = 0 then (if (strOfNums bt143.1).toList = ([7, 7, 7, 7, 7] : List UInt8) then ((wracklaw1_sources.f).bind fun t147 => (some t147)) else (some false)) else (some false))) = some r := by first | (rw [hy140]; with_reducible exact H) | (have H2_ := (Option.bind_some _ _).symm.trans H; rw [hy140]; with_reducible exact H2_) | (have H2_ := (Option.bind_some _ _).symm.trans H; with_reducible exact H2_) | with_reducible exact H | (rw [hy140]; exact H) | exact H
  have Ny140 := Aside0.mk hy140
  clear hy140
  replace H := Option.bind_eq_some_iff.mp H
  obtain ⟨⟨t143, t146⟩, A10, H⟩ := H
  replace H : (if t146 = 0 then (if (strOfNums t143).toList = ([7, 7, 7, 7, 7] : List UInt8) then ((wracklaw1_sources.f).bind fun t147 => (some t147)) else (some false)) else (some false)) = some r := H
  have A1 := Aside0.mk A10
  clear A10
  by_cases c2 : t146 = 0
  · rw [if_pos c2] at H
    have c2b0 : (t146 == 0) = true := beq_iff_eq.mpr c2
    have c2b1 : (t146 != 0) = false := bne_eq_false_iff_eq.mpr c2
    clear c2
    by_cases c3 : (strOfNums t143).toList = ([7, 7, 7, 7, 7] : List UInt8)
    · rw [if_pos c3] at H
      have c3b0 : ((strOfNums t143).toList == ([7, 7, 7, 7, 7] : List UInt8)) = true := beq_iff_eq.mpr c3
      have c3b1 : ((strOfNums t143).toList != ([7, 7, 7, 7, 7] : List UInt8)) = false := bne_eq_false_iff_eq.mpr c3
      clear c3
      replace H := Option.bind_eq_some_iff.mp H
      obtain ⟨t147, A40, H⟩ := H
      replace H : (some t147) = some r := H
      have A4 := Aside0.mk A40
      clear A40
      obtain rfl := Option.some.inj H
      go_enter Try.func27, Try.ntmps27
      go_wp2_with (first | ((with_reducible refine gate_dst (N := 4) rfl ?_); refine Kd.R_lit (Kd.int .u8) _ 5 ?hg (N := 4) ?hd (xs := ([130, 7] : List Int)) (inner := [.int .u8 130, .int .u8 7]) (ok := fun _ => True) (okp := fun _ => True) ?hr ?hp (fun _ hk => hk) trivial (Below.refl _ _) (Nat.le_refl _) (by simp) ?_; (case hd => rfl); (case hg => rfl); (case hr => first | (go_simp; done) | (go_simp; rfl)); (case hp => exact (Reps.one (show Kd.M (Kd.int .u8) _ _ _ 130 [.int .u8 130] from rfl) (Reps.one (show Kd.M (Kd.int .u8) _ _ _ 7 [.int .u8 7] from rfl) (Reps.none _ _)))); intro v141 w5 ho6 hb hg_ hnew_; clear hg_ hnew_; (first | rw [← Ny140.out] at ho6 | (simp only [Int.reduceToNat] at ho6; rw [← Ny140.out] at ho6)); have n0_ := Aside0.mk (Kd.R_lower ho6 (below_size (by repeat (first | (with_reducible first | exact HB.out | apply below_alloc | apply pw_below_drewN | apply below_drew1) | exact HB.out)))); have n1_ := Aside0.mk (below_step (by repeat (first | (with_reducible first | exact HB.out | apply below_alloc | apply pw_below_drewN | apply below_drew1) | exact HB.out)) hb); clear HB; have HO142 := n0_; have HB := n1_; clear n0_ n1_; clear hb ho6; obtain ⟨Ao7, co7, eo7⟩ := Kd.R_slice HO142.out; subst eo7) | ((with_reducible refine gate_callee (f := 25) rfl ?_); refine goesL_ (some 5) rfl rfl Try.func25 (by kernel_rfl) rfl #[.slice Ao7 y140.length co7, .int .i64 5] rfl (by (try simp only [List.map_toArray, List.map_cons, List.map_nil]); first | done | rfl | (simp only [List.length_drop, List.length_take]; rfl)) ?_; (with_reducible refine (pack_Unpack.calls k (fun k_ => some k_ = (.slice Ao7 y140.length co7 : Value).ownBlock) _ _ y140 5 t143 t146 _ ?side1 A1.out).mono ?_); (case side1 => exact Kd.R_V (Kd.R_tight rfl (HO142.out))); rintro e w8 ⟨v144, rfl, ho0, hb⟩; refine ⟨_, rfl, ?_⟩; have n0_ := Aside0.mk (Kd.R_elder' (by (with_reducible repeat (first | apply Kd.R_alloc | apply Kd.R_drewN | apply Kd.R_drew)); exact HO142.out) (Kd.R_base ho0) hb); have n1_ := Aside0.mk (Kd.R_lower (Kd.R_new' (Kd.R_mono (ok' := fun k_ => True) ho0 (fun _ hk_ => trivial)) (Kd.R_lt (by (with_reducible repeat (first | apply Kd.R_alloc | apply Kd.R_drewN | apply Kd.R_drew)); exact HO142.out))) (below_size (by repeat (first | (with_reducible first | exact HB.out | apply below_alloc | apply pw_below_drewN | apply below_drew1) | exact HB.out)))); have n2_ := Aside0.mk (below_step (by repeat (first | (with_reducible first | exact HB.out | apply below_alloc | apply pw_below_drewN | apply below_drew1) | exact HB.out)) hb); clear HO142; clear HB; have HO142 := n0_; have HO145 := n1_; have HB := n2_; clear n0_ n1_ n2_; (try clear hb); (try clear hb2); (try clear hk); (try clear hi); (try clear ho0); have hcv9 := own_string (P := Try.prog) Try.underlying22 Try.underlying5 Try.underlying9 (Kd.own_of_R HO145.out)) | (go_at_call 9; (with_reducible refine (wracklaw1_sources.calls  t147 _ A4.out).mono ?_); rintro e w10 ⟨rfl, hb⟩; have n0_ := Aside0.mk (Kd.R_below (by (with_reducible repeat (first | apply Kd.R_alloc | apply Kd.R_drewN | apply Kd.R_drew)); exact HO142.out) hb); have n1_ := Aside0.mk (Kd.R_below (by (with_reducible repeat (first | apply Kd.R_alloc | apply Kd.R_drewN | apply Kd.R_drew)); exact HO145.out) hb); have n2_ := Aside0.mk (below_step (by repeat (first | (with_reducible first | exact HB.out | apply below_alloc | apply pw_below_drewN | apply below_drew1) | exact HB.out)) hb); clear HO142; clear HO145; clear HB; have HO142 := n0_; have HO145 := n1_; have HB := n2_; clear n0_ n1_ n2_; (try clear hb); (try clear hb2); (try clear hk); (try clear hi)))
      go_ret
      exact ⟨by first | rfl | (simp [errW_none, errW_some] <;> rfl) | (simp [*, errW_none, errW_some] <;> rfl), by repeat (first | (with_reducible first | exact HB.out | apply below_alloc | apply pw_below_drewN | apply below_drew1) | exact HB.out)⟩
    · rw [if_neg c3] at H
      have c3b0 : ((strOfNums t143).toList == ([7, 7, 7, 7, 7] : List UInt8)) = false := beq_eq_false_iff_ne.mpr c3
      have c3b1 : ((strOfNums t143).toList != ([7, 7, 7, 7, 7] : List UInt8)) = true := bne_iff_ne.mpr c3
      obtain rfl := Option.some.inj H
      go_enter Try.func27, Try.ntmps27
      go_wp2_with (first | ((with_reducible refine gate_dst (N := 4) rfl ?_); refine Kd.R_lit (Kd.int .u8) _ 5 ?hg (N := 4) ?hd (xs := ([130, 7] : List Int)) (inner := [.int .u8 130, .int .u8 7]) (ok := fun _ => True) (okp := fun _ => True) ?hr ?hp (fun _ hk => hk) trivial (Below.refl _ _) (Nat.le_refl _) (by simp) ?_; (case hd => rfl); (case hg => rfl); (case hr => first | (go_simp; done) | (go_simp; rfl)); (case hp => exact (Reps.one (show Kd.M (Kd.int .u8) _ _ _ 130 [.int .u8 130] from rfl) (Reps.one (show Kd.M (Kd.int .u8) _ _ _ 7 [.int .u8 7] from rfl) (Reps.none _ _)))); intro v141 w11 ho12 hb hg_ hnew_; clear hg_ hnew_; (first | rw [← Ny140.out] at ho12 | (simp only [Int.reduceToNat] at ho12; rw [← Ny140.out] at ho12)); have n0_ := Aside0.mk (Kd.R_lower ho12 (below_size (by repeat (first | (with_reducible first | exact HB.out | apply below_alloc | apply pw_below_drewN | apply below_drew1) | exact HB.out)))); have n1_ := Aside0.mk (below_step (by repeat (first | (with_reducible first | exact HB.out | apply below_alloc | apply pw_below_drewN | apply below_drew1) | exact HB.out)) hb); clear HB; have HO142 := n0_; have HB := n1_; clear n0_ n1_; clear hb ho12; obtain ⟨Ao13, co13, eo13⟩ := Kd.R_slice HO142.out; subst eo13) | ((with_reducible refine gate_callee (f := 25) rfl ?_); refine goesL_ (some 5) rfl rfl Try.func25 (by kernel_rfl) rfl #[.slice Ao13 y140.length co13, .int .i64 5] rfl (by (try simp only [List.map_toArray, List.map_cons, List.map_nil]); first | done | rfl | (simp only [List.length_drop, List.length_take]; rfl)) ?_; (with_reducible refine (pack_Unpack.calls k (fun k_ => some k_ = (.slice Ao13 y140.length co13 : Value).ownBlock) _ _ y140 5 t143 t146 _ ?side1 A1.out).mono ?_); (case side1 => exact Kd.R_V (Kd.R_tight rfl (HO142.out))); rintro e w14 ⟨v144, rfl, ho0, hb⟩; refine ⟨_, rfl, ?_⟩; have n0_ := Aside0.mk (Kd.R_elder' (by (with_reducible repeat (first | apply Kd.R_alloc | apply Kd.R_drewN | apply Kd.R_drew)); exact HO142.out) (Kd.R_base ho0) hb); have n1_ := Aside0.mk (Kd.R_lower (Kd.R_new' (Kd.R_mono (ok' := fun k_ => True) ho0 (fun _ hk_ => trivial)) (Kd.R_lt (by (with_reducible repeat (first | apply Kd.R_alloc | apply Kd.R_drewN | apply Kd.R_drew)); exact HO142.out))) (below_size (by repeat (first | (with_reducible first | exact HB.out | apply below_alloc | apply pw_below_drewN | apply below_drew1) | exact HB.out)))); have n2_ := Aside0.mk (below_step (by repeat (first | (with_reducible first | exact HB.out | apply below_alloc | apply pw_below_drewN | apply below_drew1) | exact HB.out)) hb); clear HO142; clear HB; have HO142 := n0_; have HO145 := n1_; have HB := n2_; clear n0_ n1_ n2_; (try clear hb); (try clear hb2); (try clear hk); (try clear hi); (try clear ho0); have hcv15 := own_string (P := Try.prog) Try.underlying22 Try.underlying5 Try.underlying9 (Kd.own_of_R HO145.out)))
      go_ret
      exact ⟨by first | rfl | (simp [errW_none, errW_some] <;> rfl) | (simp [*, errW_none, errW_some] <;> rfl), by repeat (first | (with_reducible first | exact HB.out | apply below_alloc | apply pw_below_drewN | apply below_drew1) | exact HB.out)⟩
  · rw [if_neg c2] at H
    have c2b0 : (t146 == 0) = false := beq_eq_false_iff_ne.mpr c2
    have c2b1 : (t146 != 0) = true := bne_iff_ne.mpr c2
    obtain rfl := Option.some.inj H
    go_enter Try.func27, Try.ntmps27
    go_wp2_with (first | ((with_reducible refine gate_dst (N := 4) rfl ?_); refine Kd.R_lit (Kd.int .u8) _ 5 ?hg (N := 4) ?hd (xs := ([130, 7] : List Int)) (inner := [.int .u8 130, .int .u8 7]) (ok := fun _ => True) (okp := fun _ => True) ?hr ?hp (fun _ hk => hk) trivial (Below.refl _ _) (Nat.le_refl _) (by simp) ?_; (case hd => rfl); (case hg => rfl); (case hr => first | (go_simp; done) | (go_simp; rfl)); (case hp => exact (Reps.one (show Kd.M (Kd.int .u8) _ _ _ 130 [.int .u8 130] from rfl) (Reps.one (show Kd.M (Kd.int .u8) _ _ _ 7 [.int .u8 7] from rfl) (Reps.none _ _)))); intro v141 w16 ho17 hb hg_ hnew_; clear hg_ hnew_; (first | rw [← Ny140.out] at ho17 | (simp only [Int.reduceToNat] at ho17; rw [← Ny140.out] at ho17)); have n0_ := Aside0.mk (Kd.R_lower ho17 (below_size (by repeat (first | (with_reducible first | exact HB.out | apply below_alloc | apply pw_below_drewN | apply below_drew1) | exact HB.out)))); have n1_ := Aside0.mk (below_step (by repeat (first | (with_reducible first | exact HB.out | apply below_alloc | apply pw_below_drewN | apply below_drew1) | exact HB.out)) hb); clear HB; have HO142 := n0_; have HB := n1_; clear n0_ n1_; clear hb ho17; obtain ⟨Ao18, co18, eo18⟩ := Kd.R_slice HO142.out; subst eo18) | ((with_reducible refine gate_callee (f := 25) rfl ?_); refine goesL_ (some 5) rfl rfl Try.func25 (by kernel_rfl) rfl #[.slice Ao18 y140.length co18, .int .i64 5] rfl (by (try simp only [List.map_toArray, List.map_cons, List.map_nil]); first | done | rfl | (simp only [List.length_drop, List.length_take]; rfl)) ?_; (with_reducible refine (pack_Unpack.calls k (fun k_ => some k_ = (.slice Ao18 y140.length co18 : Value).ownBlock) _ _ y140 5 t143 t146 _ ?side1 A1.out).mono ?_); (case side1 => exact Kd.R_V (Kd.R_tight rfl (HO142.out))); rintro e w19 ⟨v144, rfl, ho0, hb⟩; refine ⟨_, rfl, ?_⟩; have n0_ := Aside0.mk (Kd.R_elder' (by (with_reducible repeat (first | apply Kd.R_alloc | apply Kd.R_drewN | apply Kd.R_drew)); exact HO142.out) (Kd.R_base ho0) hb); have n1_ := Aside0.mk (Kd.R_lower (Kd.R_new' (Kd.R_mono (ok' := fun k_ => True) ho0 (fun _ hk_ => trivial)) (Kd.R_lt (by (with_reducible repeat (first | apply Kd.R_alloc | apply Kd.R_drewN | apply Kd.R_drew)); exact HO142.out))) (below_size (by repeat (first | (with_reducible first | exact HB.out | apply below_alloc | apply pw_below_drewN | apply below_drew1) | exact HB.out)))); have n2_ := Aside0.mk (below_step (by repeat (first | (with_reducible first | exact HB.out | apply below_alloc | apply pw_below_drewN | apply below_drew1) | exact HB.out)) hb); clear HO142; clear HB; have HO142 := n0_; have HO145 := n1_; have HB := n2_; clear n0_ n1_ n2_; (try clear hb); (try clear hb2); (try clear hk); (try clear hi); (try clear ho0)))
    go_ret
    exact ⟨by first | rfl | (simp [errW_none, errW_some] <;> rfl) | (simp [*, errW_none, errW_some] <;> rfl), by repeat (first | (with_reducible first | exact HB.out | apply below_alloc | apply pw_below_drewN | apply below_drew1) | exact HB.out)⟩

/-! ### wracklaw1_PackUnpacks: function 6 -/
def wracklaw1_PackUnpacks.f (k : Nat) (l0 : List Int) (a1 : Int) : Option (Bool) := (pack_Unpack.f k l0 a1).bind fun bt148 => ((wrackref1_Tokens.f k (strOfNums l0) a1).bind fun bt152 => ((wracklaw1_packs.f k).bind fun t154 => (if t154 = true then (if (strOfNums bt148.1).toList = bt152.1.toList then (some (bt148.2 == bt152.2)) else (some false)) else (some false))))
theorem wracklaw1_PackUnpacks.mono : ∀ a0 a1 k, LeO (wracklaw1_PackUnpacks.f k a0 a1) (wracklaw1_PackUnpacks.f (k + 1) a0 a1) := by
  intro a0 a1 k
  unfold wracklaw1_PackUnpacks.f
  repeat' first
      | (with_reducible exact pack_Unpack.mono _ _ _)
      | (with_reducible exact wracklaw1_packs.mono _)
      | (with_reducible exact wrackref1_Tokens.mono _ _ _)
      | (with_reducible exact LeO.refl _)
      | (with_reducible exact LeO.none _)
      | (with_reducible refine LeO.ite ?_ ?_)
      | (with_reducible refine LeO.bind ?_ (fun _ => ?_))
      | exact pack_Unpack.mono _ _ _
      | exact wracklaw1_packs.mono _
      | exact wrackref1_Tokens.mono _ _ _
      | exact LeO.none _
      | refine LeO.ite ?_ ?_
      | refine LeO.bind ?_ (fun _ => ?_)
set_option maxHeartbeats 8000000 in
set_option maxRecDepth 100000 in
theorem wracklaw1_PackUnpacks.calls (k : Nat) (A0 : Option Addr) (c0 : Nat) (l0 : List Int) (a1 : Int) (r : Bool) (w : World) (hr0 : Kd.C (Kd.int .u8) w A0 l0.length l0) (hc0 : l0.length ≤ c0) (h : wracklaw1_PackUnpacks.f k l0 a1 = some r) :
    Calls Try.prog 6 #[.slice A0 l0.length c0, .int .i64 a1] w fun e w' => e = .returned (.bool r) ∧ Below w.heap.size w w' := by
  have HR0 := Aside0.mk hr0
  have HC0 := Aside0.mk hc0
  clear hr0 hc0
  have HB := Aside0.mk (Below.refl w.heap.size w)
  have H : ((pack_Unpack.f k l0 a1).bind fun bt148 => ((wrackref1_Tokens.f k (strOfNums l0) a1).bind fun bt152 => ((wracklaw1_packs.f k).bind fun t154 => (if t154 = true then (if (strOfNums bt148.1).toList = bt152.1.toList then (some (bt148.2 == bt152.2)) else (some false)) else (some false))))) = some r := h
  clear h
  replace H := Option.bind_eq_some_iff.mp H
  obtain ⟨⟨t148, t151⟩, A30, H⟩ := H
  replace H : ((wrackref1_Tokens.f k (strOfNums l0) a1).bind fun bt152 => ((wracklaw1_packs.f k).bind fun t154 => (if t154 = true then (if (strOfNums t148).toList = bt152.1.toList then (some (t151 == bt152.2)) else (some false)) else (some false)))) = some r := H
  have A3 := Aside0.mk A30
  clear A30
  replace H := Option.bind_eq_some_iff.mp H
  obtain ⟨⟨t152, t153⟩, A40, H⟩ := H
  replace H : ((wracklaw1_packs.f k).bind fun t154 => (if t154 = true then (if (strOfNums t148).toList = t152.toList then (some (t151 == t153)) else (some false)) else (some false))) = some r := H
  have A4 := Aside0.mk A40
  clear A40
  replace H := Option.bind_eq_some_iff.mp H
  obtain ⟨t154, A50, H⟩ := H
  replace H : (if t154 = true then (if (strOfNums t148).toList = t152.toList then (some (t151 == t153)) else (some false)) else (some false)) = some r := H
  have A5 := Aside0.mk A50
  clear A50
  by_cases c6 : t154 = true
  · subst c6
    have H1 : (if (strOfNums t148).toList = t152.toList then (some (t151 == t153)) else (some false)) = some r := by rw [if_pos rfl] at H; exact H
    clear H
    have H := H1
    clear H1
    by_cases c7 : (strOfNums t148).toList = t152.toList
    · rw [if_pos c7] at H
      have c7b0 : ((strOfNums t148).toList == t152.toList) = true := beq_iff_eq.mpr c7
      have c7b1 : ((strOfNums t148).toList != t152.toList) = false := bne_eq_false_iff_eq.mpr c7
      clear c7
      obtain rfl := Option.some.inj H
      go_enter Try.func6, Try.ntmps6
      go_wp2_with (first | ((with_reducible refine gate_callee (f := 25) rfl ?_); refine goesL_ (some 12) rfl rfl Try.func25 (by kernel_rfl) rfl #[.slice A0 l0.length c0, .int .i64 a1] rfl (by (try simp only [List.map_toArray, List.map_cons, List.map_nil]); first | done | rfl | (simp only [List.length_drop, List.length_take]; rfl)) ?_; (with_reducible refine (pack_Unpack.calls k (fun k_ => k_ < w.heap.size) _ _ l0 a1 t148 t151 _ ?side1 A3.out).mono ?_); (case side1 => exact Kd.V_mk HC0.out (Kd.F_below (Kd.C_F (Kd.heap_int .u8) HR0.out) (by repeat (first | (with_reducible first | exact HB.out | apply below_alloc | apply pw_below_drewN | apply below_drew1) | exact HB.out)))); rintro e w8 ⟨v149, rfl, ho0, hb⟩; refine ⟨_, rfl, ?_⟩; have n0_ := Aside0.mk (Kd.R_lower (Kd.R_mono (ok' := fun k_ => True) ho0 (fun _ hk_ => trivial)) (below_size (by repeat (first | (with_reducible first | exact HB.out | apply below_alloc | apply pw_below_drewN | apply below_drew1) | exact HB.out)))); have n1_ := Aside0.mk (below_step (by repeat (first | (with_reducible first | exact HB.out | apply below_alloc | apply pw_below_drewN | apply below_drew1) | exact HB.out)) hb); clear HB; have HO150 := n0_; have HB := n1_; clear n0_ n1_; (try clear hb); (try clear hb2); (try clear hk); (try clear hi); (try clear ho0); have hcv9 := Kd.C_string (P := Try.prog) (A := A0) (c := c0) Try.underlying22 Try.underlying5 Try.underlying9 (Kd.C_below HR0.out HB.out)) | ((with_reducible refine gate_callee (f := 26) rfl ?_); refine goesL_ (some 19) rfl rfl Try.func26 (by kernel_rfl) rfl #[.string (strOfNums l0), .int .i64 a1] rfl (by (try simp only [List.map_toArray, List.map_cons, List.map_nil]); first | done | rfl | (simp only [List.length_drop, List.length_take]; rfl)) ?_; (with_reducible refine (wrackref1_Tokens.calls k (strOfNums l0) a1 t152 t153 _ A4.out).mono ?_); rintro e w10 ⟨rfl, hb⟩; refine ⟨_, rfl, ?_⟩; have n0_ := Aside0.mk (Kd.R_below (by (with_reducible repeat (first | apply Kd.R_alloc | apply Kd.R_drewN | apply Kd.R_drew)); exact HO150.out) hb); have n1_ := Aside0.mk (below_step (by repeat (first | (with_reducible first | exact HB.out | apply below_alloc | apply pw_below_drewN | apply below_drew1) | exact HB.out)) hb); clear HO150; clear HB; have HO150 := n0_; have HB := n1_; clear n0_ n1_; (try clear hb); (try clear hb2); (try clear hk); (try clear hi)) | ((with_reducible refine gate_callee (f := 27) rfl ?_); refine goesL_ (some 22) rfl rfl Try.func27 (by kernel_rfl) rfl #[] rfl (by (try simp only [List.map_toArray, List.map_cons, List.map_nil]); first | done | rfl | (simp only [List.length_drop, List.length_take]; rfl)) ?_; (with_reducible refine (wracklaw1_packs.calls k  true _ A5.out).mono ?_); rintro e w11 ⟨rfl, hb⟩; refine ⟨_, rfl, ?_⟩; have n0_ := Aside0.mk (Kd.R_below (by (with_reducible repeat (first | apply Kd.R_alloc | apply Kd.R_drewN | apply Kd.R_drew)); exact HO150.out) hb); have n1_ := Aside0.mk (below_step (by repeat (first | (with_reducible first | exact HB.out | apply below_alloc | apply pw_below_drewN | apply below_drew1) | exact HB.out)) hb); clear HO150; clear HB; have HO150 := n0_; have HB := n1_; clear n0_ n1_; (try clear hb); (try clear hb2); (try clear hk); (try clear hi); have hcv12 := own_string (P := Try.prog) Try.underlying22 Try.underlying5 Try.underlying9 (Kd.own_of_R HO150.out)))
      go_ret
      exact ⟨by first | rfl | (simp [errW_none, errW_some] <;> rfl) | (simp [*, errW_none, errW_some] <;> rfl), by repeat (first | (with_reducible first | exact HB.out | apply below_alloc | apply pw_below_drewN | apply below_drew1) | exact HB.out)⟩
    · rw [if_neg c7] at H
      have c7b0 : ((strOfNums t148).toList == t152.toList) = false := beq_eq_false_iff_ne.mpr c7
      have c7b1 : ((strOfNums t148).toList != t152.toList) = true := bne_iff_ne.mpr c7
      obtain rfl := Option.some.inj H
      go_enter Try.func6, Try.ntmps6
      go_wp2_with (first | ((with_reducible refine gate_callee (f := 25) rfl ?_); refine goesL_ (some 12) rfl rfl Try.func25 (by kernel_rfl) rfl #[.slice A0 l0.length c0, .int .i64 a1] rfl (by (try simp only [List.map_toArray, List.map_cons, List.map_nil]); first | done | rfl | (simp only [List.length_drop, List.length_take]; rfl)) ?_; (with_reducible refine (pack_Unpack.calls k (fun k_ => k_ < w.heap.size) _ _ l0 a1 t148 t151 _ ?side1 A3.out).mono ?_); (case side1 => exact Kd.V_mk HC0.out (Kd.F_below (Kd.C_F (Kd.heap_int .u8) HR0.out) (by repeat (first | (with_reducible first | exact HB.out | apply below_alloc | apply pw_below_drewN | apply below_drew1) | exact HB.out)))); rintro e w13 ⟨v149, rfl, ho0, hb⟩; refine ⟨_, rfl, ?_⟩; have n0_ := Aside0.mk (Kd.R_lower (Kd.R_mono (ok' := fun k_ => True) ho0 (fun _ hk_ => trivial)) (below_size (by repeat (first | (with_reducible first | exact HB.out | apply below_alloc | apply pw_below_drewN | apply below_drew1) | exact HB.out)))); have n1_ := Aside0.mk (below_step (by repeat (first | (with_reducible first | exact HB.out | apply below_alloc | apply pw_below_drewN | apply below_drew1) | exact HB.out)) hb); clear HB; have HO150 := n0_; have HB := n1_; clear n0_ n1_; (try clear hb); (try clear hb2); (try clear hk); (try clear hi); (try clear ho0); have hcv14 := Kd.C_string (P := Try.prog) (A := A0) (c := c0) Try.underlying22 Try.underlying5 Try.underlying9 (Kd.C_below HR0.out HB.out)) | ((with_reducible refine gate_callee (f := 26) rfl ?_); refine goesL_ (some 19) rfl rfl Try.func26 (by kernel_rfl) rfl #[.string (strOfNums l0), .int .i64 a1] rfl (by (try simp only [List.map_toArray, List.map_cons, List.map_nil]); first | done | rfl | (simp only [List.length_drop, List.length_take]; rfl)) ?_; (with_reducible refine (wrackref1_Tokens.calls k (strOfNums l0) a1 t152 t153 _ A4.out).mono ?_); rintro e w15 ⟨rfl, hb⟩; refine ⟨_, rfl, ?_⟩; have n0_ := Aside0.mk (Kd.R_below (by (with_reducible repeat (first | apply Kd.R_alloc | apply Kd.R_drewN | apply Kd.R_drew)); exact HO150.out) hb); have n1_ := Aside0.mk (below_step (by repeat (first | (with_reducible first | exact HB.out | apply below_alloc | apply pw_below_drewN | apply below_drew1) | exact HB.out)) hb); clear HO150; clear HB; have HO150 := n0_; have HB := n1_; clear n0_ n1_; (try clear hb); (try clear hb2); (try clear hk); (try clear hi)) | ((with_reducible refine gate_callee (f := 27) rfl ?_); refine goesL_ (some 22) rfl rfl Try.func27 (by kernel_rfl) rfl #[] rfl (by (try simp only [List.map_toArray, List.map_cons, List.map_nil]); first | done | rfl | (simp only [List.length_drop, List.length_take]; rfl)) ?_; (with_reducible refine (wracklaw1_packs.calls k  true _ A5.out).mono ?_); rintro e w16 ⟨rfl, hb⟩; refine ⟨_, rfl, ?_⟩; have n0_ := Aside0.mk (Kd.R_below (by (with_reducible repeat (first | apply Kd.R_alloc | apply Kd.R_drewN | apply Kd.R_drew)); exact HO150.out) hb); have n1_ := Aside0.mk (below_step (by repeat (first | (with_reducible first | exact HB.out | apply below_alloc | apply pw_below_drewN | apply below_drew1) | exact HB.out)) hb); clear HO150; clear HB; have HO150 := n0_; have HB := n1_; clear n0_ n1_; (try clear hb); (try clear hb2); (try clear hk); (try clear hi); have hcv17 := own_string (P := Try.prog) Try.underlying22 Try.underlying5 Try.underlying9 (Kd.own_of_R HO150.out)))
      go_ret
      exact ⟨by first | rfl | (simp [errW_none, errW_some] <;> rfl) | (simp [*, errW_none, errW_some] <;> rfl), by repeat (first | (with_reducible first | exact HB.out | apply below_alloc | apply pw_below_drewN | apply below_drew1) | exact HB.out)⟩
  · replace c6 := Bool.eq_false_iff.mpr c6
    subst c6
    have H1 : (some false) = some r := by rw [if_neg (show ¬ (false = true) by decide)] at H; exact H
    clear H
    have H := H1
    clear H1
    obtain rfl := Option.some.inj H
    go_enter Try.func6, Try.ntmps6
    go_wp2_with (first | ((with_reducible refine gate_callee (f := 25) rfl ?_); refine goesL_ (some 12) rfl rfl Try.func25 (by kernel_rfl) rfl #[.slice A0 l0.length c0, .int .i64 a1] rfl (by (try simp only [List.map_toArray, List.map_cons, List.map_nil]); first | done | rfl | (simp only [List.length_drop, List.length_take]; rfl)) ?_; (with_reducible refine (pack_Unpack.calls k (fun k_ => k_ < w.heap.size) _ _ l0 a1 t148 t151 _ ?side1 A3.out).mono ?_); (case side1 => exact Kd.V_mk HC0.out (Kd.F_below (Kd.C_F (Kd.heap_int .u8) HR0.out) (by repeat (first | (with_reducible first | exact HB.out | apply below_alloc | apply pw_below_drewN | apply below_drew1) | exact HB.out)))); rintro e w18 ⟨v149, rfl, ho0, hb⟩; refine ⟨_, rfl, ?_⟩; have n0_ := Aside0.mk (Kd.R_lower (Kd.R_mono (ok' := fun k_ => True) ho0 (fun _ hk_ => trivial)) (below_size (by repeat (first | (with_reducible first | exact HB.out | apply below_alloc | apply pw_below_drewN | apply below_drew1) | exact HB.out)))); have n1_ := Aside0.mk (below_step (by repeat (first | (with_reducible first | exact HB.out | apply below_alloc | apply pw_below_drewN | apply below_drew1) | exact HB.out)) hb); clear HB; have HO150 := n0_; have HB := n1_; clear n0_ n1_; (try clear hb); (try clear hb2); (try clear hk); (try clear hi); (try clear ho0); have hcv19 := Kd.C_string (P := Try.prog) (A := A0) (c := c0) Try.underlying22 Try.underlying5 Try.underlying9 (Kd.C_below HR0.out HB.out)) | ((with_reducible refine gate_callee (f := 26) rfl ?_); refine goesL_ (some 19) rfl rfl Try.func26 (by kernel_rfl) rfl #[.string (strOfNums l0), .int .i64 a1] rfl (by (try simp only [List.map_toArray, List.map_cons, List.map_nil]); first | done | rfl | (simp only [List.length_drop, List.length_take]; rfl)) ?_; (with_reducible refine (wrackref1_Tokens.calls k (strOfNums l0) a1 t152 t153 _ A4.out).mono ?_); rintro e w20 ⟨rfl, hb⟩; refine ⟨_, rfl, ?_⟩; have n0_ := Aside0.mk (Kd.R_below (by (with_reducible repeat (first | apply Kd.R_alloc | apply Kd.R_drewN | apply Kd.R_drew)); exact HO150.out) hb); have n1_ := Aside0.mk (below_step (by repeat (first | (with_reducible first | exact HB.out | apply below_alloc | apply pw_below_drewN | apply below_drew1) | exact HB.out)) hb); clear HO150; clear HB; have HO150 := n0_; have HB := n1_; clear n0_ n1_; (try clear hb); (try clear hb2); (try clear hk); (try clear hi)) | ((with_reducible refine gate_callee (f := 27) rfl ?_); refine goesL_ (some 22) rfl rfl Try.func27 (by kernel_rfl) rfl #[] rfl (by (try simp only [List.map_toArray, List.map_cons, List.map_nil]); first | done | rfl | (simp only [List.length_drop, List.length_take]; rfl)) ?_; (with_reducible refine (wracklaw1_packs.calls k  false _ A5.out).mono ?_); rintro e w21 ⟨rfl, hb⟩; refine ⟨_, rfl, ?_⟩; have n0_ := Aside0.mk (Kd.R_below (by (with_reducible repeat (first | apply Kd.R_alloc | apply Kd.R_drewN | apply Kd.R_drew)); exact HO150.out) hb); have n1_ := Aside0.mk (below_step (by repeat (first | (with_reducible first | exact HB.out | apply below_alloc | apply pw_below_drewN | apply below_drew1) | exact HB.out)) hb); clear HO150; clear HB; have HO150 := n0_; have HB := n1_; clear n0_ n1_; (try clear hb); (try clear hb2); (try clear hk); (try clear hi)))
    go_ret
    exact ⟨by first | rfl | (simp [errW_none, errW_some] <;> rfl) | (simp [*, errW_none, errW_some] <;> rfl), by repeat (first | (with_reducible first | exact HB.out | apply below_alloc | apply pw_below_drewN | apply below_drew1) | exact HB.out)⟩

/-- THE ONE PURE STATEMENT of wracklaw1_PackUnpacks: yours. -/
def wracklaw1_PackUnpacks.Pure : Prop := ∀ (l0 : List Int) (a1 : Int), l0.length ≤ maxLen → l0.length * 1 ≤ 140737488351232 → (∀ x ∈ l0, (Lit.int .u8 x).wf = true) → (Lit.int .i64 a1).wf = true → ∃ k, wracklaw1_PackUnpacks.f k l0 a1 = some true
theorem wracklaw1_PackUnpacks.walk (P : wracklaw1_PackUnpacks.Pure) (a0 : Option Addr) (len0 cap0 : Nat) (z0 : List Int) (a1 : Int) (w : World) (w0 : (a0 = none ∧ len0 = 0 ∧ cap0 = 0 ∧ z0 = []) ∨ ∃ x, a0 = some x ∧ len0 ≤ cap0 ∧ cap0 ≤ maxLen ∧ z0.length = cap0 ∧ (∀ i, i < z0.length → w.cell? (x.add i) = some (.int .u8 (z0.getD i 0))) ∧ ∀ n ∈ z0, (Lit.int .u8 n).wf = true) (y0 : len0 * 1 ≤ 140737488351232) (w1 : (Lit.int .i64 a1).wf = true) :
    Calls Try.prog 6 #[.slice a0 len0 cap0, .int .i64 a1] w fun e w' => e = .returned (.bool true) ∧ Below w.heap.size w w' := by
  obtain ⟨l0, rfl, hr0, hm0, hw0, hc0⟩ := ReadsInt.ofRowC w0
  obtain ⟨k, h⟩ := P l0 a1 hm0 y0 hw0 w1
  refine (wracklaw1_PackUnpacks.calls k _ _ l0 a1 true w (Kd.C_of_reads (d := (0 : Int)) (h1 := fun _ => rfl) hr0) hc0 h).mono ?_
  rintro e w' ⟨rfl, hd⟩
  exact ⟨rfl, hd⟩

end Go.Proofs.Ytlnikhijfamakaa.QPackUnpacks
