/- Arrays joined: ranges that are none. No condition. -/
import Derived.Test.YtlnikhijfamakaaPureArrayJoinsR
import Derived.WalkLawsBesides
import Derived.LoopN
namespace Go.Proofs.Ytlnikhijfamakaa.Pure
open Go.Proofs.Ytlnikhijfamakaa.ArrayPlain
open Go Go.RowKit Go.Maps Go.Proofs.Ytlnikhijfamakaa.QArrayJoins Go.Proofs.YtlnikhijfamakaaW.PrintWords Go.Proofs.YtlnikhijfamakaaW.PrintLast Go.Proofs.YtlnikhijfamakaaW.PrintMore
set_option linter.unusedVariables false
set_option linter.unusedSimpArgs false
set_option maxHeartbeats 8000000 in
set_option maxRecDepth 100000 in
theorem whole_road_out (w : World) (g : Nat) (k m c : Int) (l : Bool) (AM : Option Addr) (cM : Nat) (mm : List (List Int)) (s gone : Int) (h : IsWhole w g k m c l AM cM mm s gone) (hg : Good k m c l) (hs0 : 0 ≤ s) (hs1 : s ≤ 65536) (o n : Int) (hR : ¬ inW (totW k m s) o n) :
    Calls Try.prog 110 #[.pointer (some ⟨g, 0, none⟩), .int .i64 o, .int .i64 n] w fun e w' => ∃ v0, e = .returned v0 ∧ k41.R 41 w' w.heap.size (fun _ => True) v0 [] ∧ Below w.heap.size w w' := by
  have hw := width_pos hg
  have hb1 : 0 ≤ s * widthOf k m := Int.mul_nonneg hs0 (by omega)
  have hb2 : s * widthOf k m ≤ 65536 * 8 := Int.mul_le_mul hs1 hw.2 (by omega) (by omega)
  have HSZ := Aside0.mk (fun W (hb : Below w.heap.size w W) => whole_size W g k m c l AM cM mm s gone (h.below hb) hg hs0 hs1)
  obtain ⟨t, hte⟩ : ∃ t, t = totW k m s := ⟨_, rfl⟩
  rw [← hte] at hR
  have htw : s * widthOf k m = t := hte.symm
  rw [htw] at HSZ hb1 hb2
  have HB := Aside0.mk (Below.refl w.heap.size w)
  clear h hg hs0 hs1 htw hte hw
  by_cases d0 : o < 0
  · have t0 := decide_eq_true d0
    clear d0 hR
    go_enter Try.func110, Try.ntmps110
    go_wp2_with (first
      | (go_at_call 111; refine (HSZ.out _ HB.out).mono ?_; rintro e w1 ⟨rfl, hb1⟩; replace HB := Aside0.mk (below_step HB.out hb1); clear hb1))
    go_ret
    exact ⟨_, rfl, Kd.R_nil _ _ _ _ _, HB.out⟩
  · have t0 := decide_eq_false d0
    by_cases d1 : n < 0
    · have t1 := decide_eq_true d1
      clear d0 d1 hR
      go_enter Try.func110, Try.ntmps110
      go_wp2_with (first
        | (go_at_call 111; refine (HSZ.out _ HB.out).mono ?_; rintro e w1 ⟨rfl, hb1⟩; replace HB := Aside0.mk (below_step HB.out hb1); clear hb1))
      go_ret
      exact ⟨_, rfl, Kd.R_nil _ _ _ _ _, HB.out⟩
    · have t1 := decide_eq_false d1
      by_cases d2 : t < n
      · have t2 := decide_eq_true d2
        clear d0 d1 d2 hR
        go_enter Try.func110, Try.ntmps110
        go_wp2_with (first
          | (go_at_call 111; refine (HSZ.out _ HB.out).mono ?_; rintro e w1 ⟨rfl, hb1⟩; replace HB := Aside0.mk (below_step HB.out hb1); clear hb1))
        go_ret
        exact ⟨_, rfl, Kd.R_nil _ _ _ _ _, HB.out⟩
      · have t2 := decide_eq_false d2
        have hws : IntKind.i64.wrap (t - n) = t - n := by rw [i64_w]; unfold wrap64; omega
        have t3 : decide (t - n < o) = true := decide_eq_true (by unfold inW at hR; omega)
        clear d0 d1 d2 hR
        go_enter Try.func110, Try.ntmps110
        go_wp2_with (first
          | (go_at_call 111; refine (HSZ.out _ HB.out).mono ?_; rintro e w1 ⟨rfl, hb1⟩; replace HB := Aside0.mk (below_step HB.out hb1); clear hb1))
        go_ret
        exact ⟨_, rfl, Kd.R_nil _ _ _ _ _, HB.out⟩
set_option maxHeartbeats 8000000 in
set_option maxRecDepth 100000 in
theorem whole_read_out (w : World) (g : Nat) (k m c : Int) (l : Bool) (AM : Option Addr) (cM : Nat) (mm : List (List Int)) (s gone : Int) (h : IsWhole w g k m c l AM cM mm s gone) (hg : Good k m c l) (hs0 : 0 ≤ s) (hs1 : s ≤ 65536) (o n : Int) (hR : ¬ inW (totW k m s) o n) :
    Calls Try.prog 109 #[.pointer (some ⟨g, 0, none⟩), .int .i64 o, .int .i64 n] w fun e w' => ∃ v0, e = .returned (.tuple #[v0, .int .i64 4]) ∧ (Kd.int .u8).R 5 w' w.heap.size (fun _ => True) v0 [] ∧ Below w.heap.size w w' := by
  have hw := width_pos hg
  have hb1 : 0 ≤ s * widthOf k m := Int.mul_nonneg hs0 (by omega)
  have hb2 : s * widthOf k m ≤ 65536 * 8 := Int.mul_le_mul hs1 hw.2 (by omega) (by omega)
  have HSZ := Aside0.mk (fun W (hb : Below w.heap.size w W) => whole_size W g k m c l AM cM mm s gone (h.below hb) hg hs0 hs1)
  obtain ⟨t, hte⟩ : ∃ t, t = totW k m s := ⟨_, rfl⟩
  rw [← hte] at hR
  have htw : s * widthOf k m = t := hte.symm
  rw [htw] at HSZ hb1 hb2
  have HB := Aside0.mk (Below.refl w.heap.size w)
  clear h hg hs0 hs1 htw hte hw
  by_cases d0 : o < 0
  · have t0 := decide_eq_true d0
    clear d0 hR
    go_enter Try.func109, Try.ntmps109
    go_wp2_with (first
      | (go_at_call 111; refine (HSZ.out _ HB.out).mono ?_; rintro e w1 ⟨rfl, hb1⟩; replace HB := Aside0.mk (below_step HB.out hb1); clear hb1))
    refine bodyPost_ret (v := .tuple #[.slice none 0 0, .int .i64 4]) (by simp [results, Try.results109, go_sem]) rfl ?_
    exact ⟨_, rfl, Kd.R_nil _ _ _ _ _, HB.out⟩
  · have t0 := decide_eq_false d0
    by_cases d1 : n < 0
    · have t1 := decide_eq_true d1
      clear d0 d1 hR
      go_enter Try.func109, Try.ntmps109
      go_wp2_with (first
        | (go_at_call 111; refine (HSZ.out _ HB.out).mono ?_; rintro e w1 ⟨rfl, hb1⟩; replace HB := Aside0.mk (below_step HB.out hb1); clear hb1))
      refine bodyPost_ret (v := .tuple #[.slice none 0 0, .int .i64 4]) (by simp [results, Try.results109, go_sem]) rfl ?_
      exact ⟨_, rfl, Kd.R_nil _ _ _ _ _, HB.out⟩
    · have t1 := decide_eq_false d1
      by_cases d2 : t < n
      · have t2 := decide_eq_true d2
        clear d0 d1 d2 hR
        go_enter Try.func109, Try.ntmps109
        go_wp2_with (first
          | (go_at_call 111; refine (HSZ.out _ HB.out).mono ?_; rintro e w1 ⟨rfl, hb1⟩; replace HB := Aside0.mk (below_step HB.out hb1); clear hb1))
        refine bodyPost_ret (v := .tuple #[.slice none 0 0, .int .i64 4]) (by simp [results, Try.results109, go_sem]) rfl ?_
        exact ⟨_, rfl, Kd.R_nil _ _ _ _ _, HB.out⟩
      · have t2 := decide_eq_false d2
        have hws : IntKind.i64.wrap (t - n) = t - n := by rw [i64_w]; unfold wrap64; omega
        have t3 : decide (t - n < o) = true := decide_eq_true (by unfold inW at hR; omega)
        clear d0 d1 d2 hR
        go_enter Try.func109, Try.ntmps109
        go_wp2_with (first
          | (go_at_call 111; refine (HSZ.out _ HB.out).mono ?_; rintro e w1 ⟨rfl, hb1⟩; replace HB := Aside0.mk (below_step HB.out hb1); clear hb1))
        refine bodyPost_ret (v := .tuple #[.slice none 0 0, .int .i64 4]) (by simp [results, Try.results109, go_sem]) rfl ?_
        exact ⟨_, rfl, Kd.R_nil _ _ _ _ _, HB.out⟩
end Go.Proofs.Ytlnikhijfamakaa.Pure
