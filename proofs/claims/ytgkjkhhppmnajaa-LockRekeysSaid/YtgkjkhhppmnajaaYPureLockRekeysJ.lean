/- The law LockRekeys walked: where there is an error. No condition. -/
import Derived.Test.YtgkjkhhppmnajaaYPureLockRekeysI
import Derived.Test.YtgkjkhhppmnajaaYQLockRekeysx10
namespace Go.Proofs.Ytgkjkhhppmnajaa.Lk
open Go Go.RowKit Go.Proofs.Ytgkjkhhppmnajaa.QLockRekeys Go.Proofs.YtgkjkhhppmnajaaW.PrintWords Go.Proofs.YtgkjkhhppmnajaaW.PrintLast Go.Proofs.YtgkjkhhppmnajaaW.PrintMore Go.Proofs.Ytgkjkhhppmnajaa.SumPlain
set_option linter.unusedVariables false
set_option linter.unusedSimpArgs false
theorem q1oI : type_of% @List.setIfInBounds_toArray := @List.setIfInBounds_toArray
theorem q1o0 : type_of% @List.set_cons_zero := @List.set_cons_zero
theorem q1o1 : type_of% @List.set_cons_succ := @List.set_cons_succ
theorem q1oS : type_of% @below_step := @below_step
theorem q1oC : type_of% @Kd.C_below := @Kd.C_below
theorem q1oa : type_of% @Aside0.mk := @Aside0.mk
theorem str_of {w : World} {A : Option Addr} {c m : Nat} {H : List Int} {s : ByteArray} (hC : Kd.C (Kd.int .u8) w A m H) (hl : m = H.length) (hs : s = strOfNums H) : (convert 22 9 (.slice A m c)).run Try.prog w = .ok (.string s) w := by
 subst hl hs
 exact Kd.C_string (P := Try.prog) (c := c) (xs := H) Try.underlying22 Try.underlying5 Try.underlying9 hC
theorem opened_at (b : List Int) (hb : Bytes b) (h : formOk b) (keys : Int) (hk : keys = keysP b) (H : List Int) (hH : H = b.take 128) (s : ByteArray) (hs : s = strOfNums H) (q : ByteArray) (hq : nameP q = true) : Ev (fun k => wrackref1_Opened.f k s keys q) (slotsP b q) := by
 subst hk hs hH
 obtain ⟨h128, _, _, hk1, hk4, _⟩ := h
 have hz := nameP_size q hq
 have hl : (b.take 128).length = 128 := by rw [List.length_take]; omega
 have e := opened_ev (b.take 128) (kb_tk hb 128) q (by omega) (by omega) (keysP b).toNat (by omega)
 rw [Int.toNat_of_nonneg (by omega), openL_take b q 128 _ 0 (by omega)] at e
 exact e
set_option maxHeartbeats 16000000 in
set_option maxRecDepth 100000 in
/-- no right image -/
theorem lk_f1 (A0 : Option Addr) (c0 : Nat) (b : List Int) (old key : ByteArray) (seed : Int) (w : World) (hC : Kd.C (Kd.int .u8) w A0 b.length b) (hc0 : b.length ≤ c0) (hl : b.length ≤ 140737488351232) (hb : Bytes b) (hf : ¬ formOk b) :
  Calls Try.prog 6 #[.slice A0 b.length c0, .string old, .string key, .int .i64 seed] w fun e w' => e = .returned (.bool true) ∧ Below w.heap.size w w' := by
 obtain ⟨H, hH⟩ : ∃ H, H = b.take 128 := ⟨_, rfl⟩
 obtain ⟨m, hm⟩ : ∃ m, m = H.length := ⟨_, rfl⟩
 have hmb : m = min b.length 128 := by rw [hm, hH, List.length_take]; omega
 obtain ⟨i5, hi5, hy5⟩ := Option.map_eq_some_iff.1 info5
 have hcut : ∀ W : World, (Instr.slice 22 (.slice A0 b.length c0) none (some (.int .i64 (m : Int))) none).run Try.prog W = .ok (.slice A0 m c0) W := cut_to (P := Try.prog) 22 5 .i64 Try.underlying22 hi5 A0 b.length c0 (m : Int) (by omega) (by omega) hc0
 have hmm : min (b.length : Int) 128 = (m : Int) := by omega
 have hmm2 : (if (128 : Int) < (b.length : Int) then (128 : Int) else (b.length : Int)) = (m : Int) := by split <;> omega
 have HCH := q1oa (show Kd.C (Kd.int .u8) w A0 m H by have h := Kd.C_take hC (m := m) (by omega); rw [show b.take m = H by rw [hH, hmb, List.take_eq_take_iff]; omega] at h; rw [hm]; exact h)
 have HHL := q1oa hm
 obtain ⟨s, hs⟩ : ∃ s, s = strOfNums H := ⟨_, rfl⟩
 have HS := q1oa hs
 have HC := q1oa hC
 have HC0 := q1oa hc0
 have HB := q1oa (Below.refl w.heap.size w)
 obtain ⟨nn, keys, hlo, hkeys⟩ := lockof_ev b hb hl
 obtain ⟨kl, hkl⟩ := hlo.rounds
 rw [← hH, ← hs] at hkl
 obtain ⟨kr, hkr⟩ := (rekey_form b hb old key seed (fun h => hf h.1)).rounds
 obtain ⟨r1, hr1⟩ : ∃ r : List Int, r = [] := ⟨_, rfl⟩
 rw [← hr1] at hkr
 have HZ := q1oa (show strOfNums r1 = (⟨#[]⟩ : ByteArray) by rw [hr1]; rfl)
 have HRK := q1oa hkr
 rw [decide_eq_false hf] at hkl
 have HLO := q1oa hkl
 clear hi5 hy5 hlo hkl hkr hr1 hs hm hmb hH hC hc0 hl hb hkeys
 go_enter Try.func6, Try.ntmps6
 go_wp2_with (first
  | (go_at_call 25; have hg_ := HRK.out; clear hg_; (with_reducible refine (lock_Rekey.calls kr A0 c0 b old key seed r1 _ _ HC.out HC0.out HRK.out).mono ?_); rintro e w1 ⟨v1, rfl, hv1, hb1⟩; obtain ⟨A1, c1, e1⟩ := Kd.R_slice hv1; subst e1; have HX1 := q1oa (Kd.R_reads' hv1).2.2; replace HB := q1oa hb1; have hcv : (convert 22 9 (.slice A0 m c0)).run Try.prog w1 = .ok (.string s) w1 := str_of (q1oC HCH.out hb1) HHL.out HS.out; clear hv1 hb1 HRK)
  | (go_at_call 26; have hg_ := HLO.out; clear hg_; (with_reducible refine (wrackref1_LockOf.calls kl s (b.length : Int) nn keys _ _ HLO.out).mono ?_); rintro e w2 ⟨rfl, hb⟩; replace HX1 := q1oa (q1oC HX1.out hb); replace HB := q1oa (q1oS HB.out hb); clear hb; clear hcv HLO)
  | (go_at_call 27; have hg_ := HN1.out; clear hg_; (with_reducible refine (wrackref1_Named.calls k1 old _ _ HN1.out).mono ?_); rintro e w3 ⟨rfl, hb⟩; replace HX1 := q1oa (q1oC HX1.out hb); replace HB := q1oa (q1oS HB.out hb); clear hb; clear HN1)
  | (go_at_call 27; have hg_ := HN2.out; clear hg_; (with_reducible refine (wrackref1_Named.calls k2 key _ _ HN2.out).mono ?_); rintro e w4 ⟨rfl, hb⟩; replace HX1 := q1oa (q1oC HX1.out hb); replace HB := q1oa (q1oS HB.out hb); clear hb; clear HN2)
  | (go_at_call 28; have hg_ := HP1.out; clear hg_; (with_reducible refine (wrackref1_Opened.calls k3 s keys old _ _ _ _ HP1.out).mono ?_); rintro e w5 ⟨rfl, hb⟩; replace HX1 := q1oa (q1oC HX1.out hb); replace HB := q1oa (q1oS HB.out hb); clear hb; clear HP1)
  | (go_at_call 28; have hg_ := HP2.out; clear hg_; (with_reducible refine (wrackref1_Opened.calls k4 s keys key _ _ _ _ HP2.out).mono ?_); rintro e w6 ⟨rfl, hb⟩; replace HX1 := q1oa (q1oC HX1.out hb); replace HB := q1oa (q1oS HB.out hb); clear hb; clear HP2)
  | (go_at_call 32; have hg_ := HX1.out; clear hg_; (with_reducible refine (locks_calls _).mono ?_); rintro e w11 ⟨rfl, hb⟩; replace HX1 := q1oa (q1oC HX1.out hb); replace HB := q1oa (q1oS HB.out hb); clear hb)
  | (go_at_call 33; have hg_ := HX1.out; clear hg_; (with_reducible refine (wracklaw1_sums.calls 300 true _ sums_true).mono ?_); rintro e w12 ⟨rfl, hb⟩; replace HX1 := q1oa (q1oC HX1.out hb); replace HB := q1oa (q1oS HB.out hb); clear hb; have hcx : (convert 22 9 (.slice A1 r1.length c1)).run Try.prog w12 = .ok (.string (⟨#[]⟩ : ByteArray)) w12 := (Kd.C_string (P := Try.prog) Try.underlying22 Try.underlying5 Try.underlying9 HX1.out).trans (by rw [HZ.out])))
 go_ret
 exact ⟨rfl, HB.out⟩
set_option maxHeartbeats 16000000 in
set_option maxRecDepth 100000 in
/-- an image that is too large -/
theorem lk_f2 (A0 : Option Addr) (c0 : Nat) (b : List Int) (old key : ByteArray) (seed : Int) (w : World) (hC : Kd.C (Kd.int .u8) w A0 b.length b) (hc0 : b.length ≤ c0) (hl : b.length ≤ 140737488351232) (hb : Bytes b) (hf : formOk b) (h2 : 65536 < b.length) :
  Calls Try.prog 6 #[.slice A0 b.length c0, .string old, .string key, .int .i64 seed] w fun e w' => e = .returned (.bool true) ∧ Below w.heap.size w w' := by
 obtain ⟨H, hH⟩ : ∃ H, H = b.take 128 := ⟨_, rfl⟩
 obtain ⟨m, hm⟩ : ∃ m, m = H.length := ⟨_, rfl⟩
 have hmb : m = min b.length 128 := by rw [hm, hH, List.length_take]; omega
 obtain ⟨i5, hi5, hy5⟩ := Option.map_eq_some_iff.1 info5
 have hcut : ∀ W : World, (Instr.slice 22 (.slice A0 b.length c0) none (some (.int .i64 (m : Int))) none).run Try.prog W = .ok (.slice A0 m c0) W := cut_to (P := Try.prog) 22 5 .i64 Try.underlying22 hi5 A0 b.length c0 (m : Int) (by omega) (by omega) hc0
 have hmm : min (b.length : Int) 128 = (m : Int) := by omega
 have hmm2 : (if (128 : Int) < (b.length : Int) then (128 : Int) else (b.length : Int)) = (m : Int) := by split <;> omega
 have HCH := q1oa (show Kd.C (Kd.int .u8) w A0 m H by have h := Kd.C_take hC (m := m) (by omega); rw [show b.take m = H by rw [hH, hmb, List.take_eq_take_iff]; omega] at h; rw [hm]; exact h)
 have HHL := q1oa hm
 obtain ⟨s, hs⟩ : ∃ s, s = strOfNums H := ⟨_, rfl⟩
 have HS := q1oa hs
 have HC := q1oa hC
 have HC0 := q1oa hc0
 have HB := q1oa (Below.refl w.heap.size w)
 obtain ⟨nn, keys, hlo, hkeys⟩ := lockof_ev b hb hl
 obtain ⟨kl, hkl⟩ := hlo.rounds
 rw [← hH, ← hs] at hkl
 obtain ⟨kr, hkr⟩ := (rekey_form b hb old key seed (fun h => by omega)).rounds
 obtain ⟨r1, hr1⟩ : ∃ r : List Int, r = [] := ⟨_, rfl⟩
 rw [← hr1] at hkr
 have HZ := q1oa (show strOfNums r1 = (⟨#[]⟩ : ByteArray) by rw [hr1]; rfl)
 have HRK := q1oa hkr
 rw [decide_eq_true hf] at hkl
 have t2 : decide (65536 < (b.length : Int)) = true := decide_eq_true (by omega)
 have HLO := q1oa hkl
 clear hi5 hy5 hlo hkl hkr hr1 hs hm hmb hH hC hc0 hl hb hkeys hf h2
 go_enter Try.func6, Try.ntmps6
 go_wp2_with (first
  | (go_at_call 25; have hg_ := HRK.out; clear hg_; (with_reducible refine (lock_Rekey.calls kr A0 c0 b old key seed r1 _ _ HC.out HC0.out HRK.out).mono ?_); rintro e w1 ⟨v1, rfl, hv1, hb1⟩; obtain ⟨A1, c1, e1⟩ := Kd.R_slice hv1; subst e1; have HX1 := q1oa (Kd.R_reads' hv1).2.2; replace HB := q1oa hb1; have hcv : (convert 22 9 (.slice A0 m c0)).run Try.prog w1 = .ok (.string s) w1 := str_of (q1oC HCH.out hb1) HHL.out HS.out; clear hv1 hb1 HRK)
  | (go_at_call 26; have hg_ := HLO.out; clear hg_; (with_reducible refine (wrackref1_LockOf.calls kl s (b.length : Int) nn keys _ _ HLO.out).mono ?_); rintro e w2 ⟨rfl, hb⟩; replace HX1 := q1oa (q1oC HX1.out hb); replace HB := q1oa (q1oS HB.out hb); clear hb; clear hcv HLO)
  | (go_at_call 27; have hg_ := HN1.out; clear hg_; (with_reducible refine (wrackref1_Named.calls k1 old _ _ HN1.out).mono ?_); rintro e w3 ⟨rfl, hb⟩; replace HX1 := q1oa (q1oC HX1.out hb); replace HB := q1oa (q1oS HB.out hb); clear hb; clear HN1)
  | (go_at_call 27; have hg_ := HN2.out; clear hg_; (with_reducible refine (wrackref1_Named.calls k2 key _ _ HN2.out).mono ?_); rintro e w4 ⟨rfl, hb⟩; replace HX1 := q1oa (q1oC HX1.out hb); replace HB := q1oa (q1oS HB.out hb); clear hb; clear HN2)
  | (go_at_call 28; have hg_ := HP1.out; clear hg_; (with_reducible refine (wrackref1_Opened.calls k3 s keys old _ _ _ _ HP1.out).mono ?_); rintro e w5 ⟨rfl, hb⟩; replace HX1 := q1oa (q1oC HX1.out hb); replace HB := q1oa (q1oS HB.out hb); clear hb; clear HP1)
  | (go_at_call 28; have hg_ := HP2.out; clear hg_; (with_reducible refine (wrackref1_Opened.calls k4 s keys key _ _ _ _ HP2.out).mono ?_); rintro e w6 ⟨rfl, hb⟩; replace HX1 := q1oa (q1oC HX1.out hb); replace HB := q1oa (q1oS HB.out hb); clear hb; clear HP2)
  | (go_at_call 32; have hg_ := HX1.out; clear hg_; (with_reducible refine (locks_calls _).mono ?_); rintro e w11 ⟨rfl, hb⟩; replace HX1 := q1oa (q1oC HX1.out hb); replace HB := q1oa (q1oS HB.out hb); clear hb)
  | (go_at_call 33; have hg_ := HX1.out; clear hg_; (with_reducible refine (wracklaw1_sums.calls 300 true _ sums_true).mono ?_); rintro e w12 ⟨rfl, hb⟩; replace HX1 := q1oa (q1oC HX1.out hb); replace HB := q1oa (q1oS HB.out hb); clear hb; have hcx : (convert 22 9 (.slice A1 r1.length c1)).run Try.prog w12 = .ok (.string (⟨#[]⟩ : ByteArray)) w12 := (Kd.C_string (P := Try.prog) Try.underlying22 Try.underlying5 Try.underlying9 HX1.out).trans (by rw [HZ.out])))
 go_ret
 exact ⟨rfl, HB.out⟩
set_option maxHeartbeats 16000000 in
set_option maxRecDepth 100000 in
/-- the old key is no name -/
theorem lk_f3 (A0 : Option Addr) (c0 : Nat) (b : List Int) (old key : ByteArray) (seed : Int) (w : World) (hC : Kd.C (Kd.int .u8) w A0 b.length b) (hc0 : b.length ≤ c0) (hl : b.length ≤ 140737488351232) (hb : Bytes b) (hf : formOk b) (h2 : b.length ≤ 65536) (n1 : nameP old = false) :
  Calls Try.prog 6 #[.slice A0 b.length c0, .string old, .string key, .int .i64 seed] w fun e w' => e = .returned (.bool true) ∧ Below w.heap.size w w' := by
 obtain ⟨H, hH⟩ : ∃ H, H = b.take 128 := ⟨_, rfl⟩
 obtain ⟨m, hm⟩ : ∃ m, m = H.length := ⟨_, rfl⟩
 have hmb : m = min b.length 128 := by rw [hm, hH, List.length_take]; omega
 obtain ⟨i5, hi5, hy5⟩ := Option.map_eq_some_iff.1 info5
 have hcut : ∀ W : World, (Instr.slice 22 (.slice A0 b.length c0) none (some (.int .i64 (m : Int))) none).run Try.prog W = .ok (.slice A0 m c0) W := cut_to (P := Try.prog) 22 5 .i64 Try.underlying22 hi5 A0 b.length c0 (m : Int) (by omega) (by omega) hc0
 have hmm : min (b.length : Int) 128 = (m : Int) := by omega
 have hmm2 : (if (128 : Int) < (b.length : Int) then (128 : Int) else (b.length : Int)) = (m : Int) := by split <;> omega
 have HCH := q1oa (show Kd.C (Kd.int .u8) w A0 m H by have h := Kd.C_take hC (m := m) (by omega); rw [show b.take m = H by rw [hH, hmb, List.take_eq_take_iff]; omega] at h; rw [hm]; exact h)
 have HHL := q1oa hm
 obtain ⟨s, hs⟩ : ∃ s, s = strOfNums H := ⟨_, rfl⟩
 have HS := q1oa hs
 have HC := q1oa hC
 have HC0 := q1oa hc0
 have HB := q1oa (Below.refl w.heap.size w)
 obtain ⟨nn, keys, hlo, hkeys⟩ := lockof_ev b hb hl
 obtain ⟨kl, hkl⟩ := hlo.rounds
 rw [← hH, ← hs] at hkl
 obtain ⟨kr, hkr⟩ := (rekey_name b hb old key seed hf h2 (fun h => by rw [n1] at h; exact absurd h.1 (by decide))).rounds
 obtain ⟨r1, hr1⟩ : ∃ r : List Int, r = [] := ⟨_, rfl⟩
 rw [← hr1] at hkr
 have HZ := q1oa (show strOfNums r1 = (⟨#[]⟩ : ByteArray) by rw [hr1]; rfl)
 have HRK := q1oa hkr
 rw [decide_eq_true hf] at hkl
 have t2 : decide (65536 < (b.length : Int)) = false := decide_eq_false (by omega)
 obtain ⟨k1, hk1⟩ := (named_ev old).rounds
 rw [n1] at hk1
 have HN1 := q1oa hk1
 have HLO := q1oa hkl
 clear hi5 hy5 hlo hkl hkr hr1 hs hm hmb hH hC hc0 hl hb hkeys hf h2 n1 hk1
 go_enter Try.func6, Try.ntmps6
 go_wp2_with (first
  | (go_at_call 25; have hg_ := HRK.out; clear hg_; (with_reducible refine (lock_Rekey.calls kr A0 c0 b old key seed r1 _ _ HC.out HC0.out HRK.out).mono ?_); rintro e w1 ⟨v1, rfl, hv1, hb1⟩; obtain ⟨A1, c1, e1⟩ := Kd.R_slice hv1; subst e1; have HX1 := q1oa (Kd.R_reads' hv1).2.2; replace HB := q1oa hb1; have hcv : (convert 22 9 (.slice A0 m c0)).run Try.prog w1 = .ok (.string s) w1 := str_of (q1oC HCH.out hb1) HHL.out HS.out; clear hv1 hb1 HRK)
  | (go_at_call 26; have hg_ := HLO.out; clear hg_; (with_reducible refine (wrackref1_LockOf.calls kl s (b.length : Int) nn keys _ _ HLO.out).mono ?_); rintro e w2 ⟨rfl, hb⟩; replace HX1 := q1oa (q1oC HX1.out hb); replace HB := q1oa (q1oS HB.out hb); clear hb; clear hcv HLO)
  | (go_at_call 27; have hg_ := HN1.out; clear hg_; (with_reducible refine (wrackref1_Named.calls k1 old _ _ HN1.out).mono ?_); rintro e w3 ⟨rfl, hb⟩; replace HX1 := q1oa (q1oC HX1.out hb); replace HB := q1oa (q1oS HB.out hb); clear hb; clear HN1)
  | (go_at_call 27; have hg_ := HN2.out; clear hg_; (with_reducible refine (wrackref1_Named.calls k2 key _ _ HN2.out).mono ?_); rintro e w4 ⟨rfl, hb⟩; replace HX1 := q1oa (q1oC HX1.out hb); replace HB := q1oa (q1oS HB.out hb); clear hb; clear HN2)
  | (go_at_call 28; have hg_ := HP1.out; clear hg_; (with_reducible refine (wrackref1_Opened.calls k3 s keys old _ _ _ _ HP1.out).mono ?_); rintro e w5 ⟨rfl, hb⟩; replace HX1 := q1oa (q1oC HX1.out hb); replace HB := q1oa (q1oS HB.out hb); clear hb; clear HP1)
  | (go_at_call 28; have hg_ := HP2.out; clear hg_; (with_reducible refine (wrackref1_Opened.calls k4 s keys key _ _ _ _ HP2.out).mono ?_); rintro e w6 ⟨rfl, hb⟩; replace HX1 := q1oa (q1oC HX1.out hb); replace HB := q1oa (q1oS HB.out hb); clear hb; clear HP2)
  | (go_at_call 32; have hg_ := HX1.out; clear hg_; (with_reducible refine (locks_calls _).mono ?_); rintro e w11 ⟨rfl, hb⟩; replace HX1 := q1oa (q1oC HX1.out hb); replace HB := q1oa (q1oS HB.out hb); clear hb)
  | (go_at_call 33; have hg_ := HX1.out; clear hg_; (with_reducible refine (wracklaw1_sums.calls 300 true _ sums_true).mono ?_); rintro e w12 ⟨rfl, hb⟩; replace HX1 := q1oa (q1oC HX1.out hb); replace HB := q1oa (q1oS HB.out hb); clear hb; have hcx : (convert 22 9 (.slice A1 r1.length c1)).run Try.prog w12 = .ok (.string (⟨#[]⟩ : ByteArray)) w12 := (Kd.C_string (P := Try.prog) Try.underlying22 Try.underlying5 Try.underlying9 HX1.out).trans (by rw [HZ.out])))
 go_ret
 exact ⟨rfl, HB.out⟩
set_option maxHeartbeats 16000000 in
set_option maxRecDepth 100000 in
/-- the new key is no name -/
theorem lk_f4 (A0 : Option Addr) (c0 : Nat) (b : List Int) (old key : ByteArray) (seed : Int) (w : World) (hC : Kd.C (Kd.int .u8) w A0 b.length b) (hc0 : b.length ≤ c0) (hl : b.length ≤ 140737488351232) (hb : Bytes b) (hf : formOk b) (h2 : b.length ≤ 65536) (n1 : nameP old = true) (n2 : nameP key = false) :
  Calls Try.prog 6 #[.slice A0 b.length c0, .string old, .string key, .int .i64 seed] w fun e w' => e = .returned (.bool true) ∧ Below w.heap.size w w' := by
 obtain ⟨H, hH⟩ : ∃ H, H = b.take 128 := ⟨_, rfl⟩
 obtain ⟨m, hm⟩ : ∃ m, m = H.length := ⟨_, rfl⟩
 have hmb : m = min b.length 128 := by rw [hm, hH, List.length_take]; omega
 obtain ⟨i5, hi5, hy5⟩ := Option.map_eq_some_iff.1 info5
 have hcut : ∀ W : World, (Instr.slice 22 (.slice A0 b.length c0) none (some (.int .i64 (m : Int))) none).run Try.prog W = .ok (.slice A0 m c0) W := cut_to (P := Try.prog) 22 5 .i64 Try.underlying22 hi5 A0 b.length c0 (m : Int) (by omega) (by omega) hc0
 have hmm : min (b.length : Int) 128 = (m : Int) := by omega
 have hmm2 : (if (128 : Int) < (b.length : Int) then (128 : Int) else (b.length : Int)) = (m : Int) := by split <;> omega
 have HCH := q1oa (show Kd.C (Kd.int .u8) w A0 m H by have h := Kd.C_take hC (m := m) (by omega); rw [show b.take m = H by rw [hH, hmb, List.take_eq_take_iff]; omega] at h; rw [hm]; exact h)
 have HHL := q1oa hm
 obtain ⟨s, hs⟩ : ∃ s, s = strOfNums H := ⟨_, rfl⟩
 have HS := q1oa hs
 have HC := q1oa hC
 have HC0 := q1oa hc0
 have HB := q1oa (Below.refl w.heap.size w)
 obtain ⟨nn, keys, hlo, hkeys⟩ := lockof_ev b hb hl
 obtain ⟨kl, hkl⟩ := hlo.rounds
 rw [← hH, ← hs] at hkl
 obtain ⟨kr, hkr⟩ := (rekey_name b hb old key seed hf h2 (fun h => by rw [n2] at h; exact absurd h.2 (by decide))).rounds
 obtain ⟨r1, hr1⟩ : ∃ r : List Int, r = [] := ⟨_, rfl⟩
 rw [← hr1] at hkr
 have HZ := q1oa (show strOfNums r1 = (⟨#[]⟩ : ByteArray) by rw [hr1]; rfl)
 have HRK := q1oa hkr
 rw [decide_eq_true hf] at hkl
 have t2 : decide (65536 < (b.length : Int)) = false := decide_eq_false (by omega)
 obtain ⟨k1, hk1⟩ := (named_ev old).rounds
 rw [n1] at hk1
 have HN1 := q1oa hk1
 obtain ⟨k2, hk2⟩ := (named_ev key).rounds
 rw [n2] at hk2
 have HN2 := q1oa hk2
 have HLO := q1oa hkl
 clear hi5 hy5 hlo hkl hkr hr1 hs hm hmb hH hC hc0 hl hb hkeys hf h2 n1 n2 hk1 hk2
 go_enter Try.func6, Try.ntmps6
 go_wp2_with (first
  | (go_at_call 25; have hg_ := HRK.out; clear hg_; (with_reducible refine (lock_Rekey.calls kr A0 c0 b old key seed r1 _ _ HC.out HC0.out HRK.out).mono ?_); rintro e w1 ⟨v1, rfl, hv1, hb1⟩; obtain ⟨A1, c1, e1⟩ := Kd.R_slice hv1; subst e1; have HX1 := q1oa (Kd.R_reads' hv1).2.2; replace HB := q1oa hb1; have hcv : (convert 22 9 (.slice A0 m c0)).run Try.prog w1 = .ok (.string s) w1 := str_of (q1oC HCH.out hb1) HHL.out HS.out; clear hv1 hb1 HRK)
  | (go_at_call 26; have hg_ := HLO.out; clear hg_; (with_reducible refine (wrackref1_LockOf.calls kl s (b.length : Int) nn keys _ _ HLO.out).mono ?_); rintro e w2 ⟨rfl, hb⟩; replace HX1 := q1oa (q1oC HX1.out hb); replace HB := q1oa (q1oS HB.out hb); clear hb; clear hcv HLO)
  | (go_at_call 27; have hg_ := HN1.out; clear hg_; (with_reducible refine (wrackref1_Named.calls k1 old _ _ HN1.out).mono ?_); rintro e w3 ⟨rfl, hb⟩; replace HX1 := q1oa (q1oC HX1.out hb); replace HB := q1oa (q1oS HB.out hb); clear hb; clear HN1)
  | (go_at_call 27; have hg_ := HN2.out; clear hg_; (with_reducible refine (wrackref1_Named.calls k2 key _ _ HN2.out).mono ?_); rintro e w4 ⟨rfl, hb⟩; replace HX1 := q1oa (q1oC HX1.out hb); replace HB := q1oa (q1oS HB.out hb); clear hb; clear HN2)
  | (go_at_call 28; have hg_ := HP1.out; clear hg_; (with_reducible refine (wrackref1_Opened.calls k3 s keys old _ _ _ _ HP1.out).mono ?_); rintro e w5 ⟨rfl, hb⟩; replace HX1 := q1oa (q1oC HX1.out hb); replace HB := q1oa (q1oS HB.out hb); clear hb; clear HP1)
  | (go_at_call 28; have hg_ := HP2.out; clear hg_; (with_reducible refine (wrackref1_Opened.calls k4 s keys key _ _ _ _ HP2.out).mono ?_); rintro e w6 ⟨rfl, hb⟩; replace HX1 := q1oa (q1oC HX1.out hb); replace HB := q1oa (q1oS HB.out hb); clear hb; clear HP2)
  | (go_at_call 32; have hg_ := HX1.out; clear hg_; (with_reducible refine (locks_calls _).mono ?_); rintro e w11 ⟨rfl, hb⟩; replace HX1 := q1oa (q1oC HX1.out hb); replace HB := q1oa (q1oS HB.out hb); clear hb)
  | (go_at_call 33; have hg_ := HX1.out; clear hg_; (with_reducible refine (wracklaw1_sums.calls 300 true _ sums_true).mono ?_); rintro e w12 ⟨rfl, hb⟩; replace HX1 := q1oa (q1oC HX1.out hb); replace HB := q1oa (q1oS HB.out hb); clear hb; have hcx : (convert 22 9 (.slice A1 r1.length c1)).run Try.prog w12 = .ok (.string (⟨#[]⟩ : ByteArray)) w12 := (Kd.C_string (P := Try.prog) Try.underlying22 Try.underlying5 Try.underlying9 HX1.out).trans (by rw [HZ.out])))
 go_ret
 exact ⟨rfl, HB.out⟩
set_option maxHeartbeats 16000000 in
set_option maxRecDepth 100000 in
/-- the old key opens nothing -/
theorem lk_f5 (A0 : Option Addr) (c0 : Nat) (b : List Int) (old key : ByteArray) (seed : Int) (w : World) (hC : Kd.C (Kd.int .u8) w A0 b.length b) (hc0 : b.length ≤ c0) (hl : b.length ≤ 140737488351232) (hb : Bytes b) (hf : formOk b) (h2 : b.length ≤ 65536) (n1 : nameP old = true) (n2 : nameP key = true) (i1 inner : Int) (ho : slotsP b old = (i1, inner, false)) :
  Calls Try.prog 6 #[.slice A0 b.length c0, .string old, .string key, .int .i64 seed] w fun e w' => e = .returned (.bool true) ∧ Below w.heap.size w w' := by
 obtain ⟨H, hH⟩ : ∃ H, H = b.take 128 := ⟨_, rfl⟩
 obtain ⟨m, hm⟩ : ∃ m, m = H.length := ⟨_, rfl⟩
 have hmb : m = min b.length 128 := by rw [hm, hH, List.length_take]; omega
 obtain ⟨i5, hi5, hy5⟩ := Option.map_eq_some_iff.1 info5
 have hcut : ∀ W : World, (Instr.slice 22 (.slice A0 b.length c0) none (some (.int .i64 (m : Int))) none).run Try.prog W = .ok (.slice A0 m c0) W := cut_to (P := Try.prog) 22 5 .i64 Try.underlying22 hi5 A0 b.length c0 (m : Int) (by omega) (by omega) hc0
 have hmm : min (b.length : Int) 128 = (m : Int) := by omega
 have hmm2 : (if (128 : Int) < (b.length : Int) then (128 : Int) else (b.length : Int)) = (m : Int) := by split <;> omega
 have HCH := q1oa (show Kd.C (Kd.int .u8) w A0 m H by have h := Kd.C_take hC (m := m) (by omega); rw [show b.take m = H by rw [hH, hmb, List.take_eq_take_iff]; omega] at h; rw [hm]; exact h)
 have HHL := q1oa hm
 obtain ⟨s, hs⟩ : ∃ s, s = strOfNums H := ⟨_, rfl⟩
 have HS := q1oa hs
 have HC := q1oa hC
 have HC0 := q1oa hc0
 have HB := q1oa (Below.refl w.heap.size w)
 obtain ⟨nn, keys, hlo, hkeys⟩ := lockof_ev b hb hl
 obtain ⟨kl, hkl⟩ := hlo.rounds
 rw [← hH, ← hs] at hkl
 obtain ⟨kr, hkr⟩ := (rekey_key b hb old key seed hf h2 n1 n2 (by rw [ho])).rounds
 obtain ⟨r1, hr1⟩ : ∃ r : List Int, r = [] := ⟨_, rfl⟩
 rw [← hr1] at hkr
 have HZ := q1oa (show strOfNums r1 = (⟨#[]⟩ : ByteArray) by rw [hr1]; rfl)
 have HRK := q1oa hkr
 rw [decide_eq_true hf] at hkl
 have t2 : decide (65536 < (b.length : Int)) = false := decide_eq_false (by omega)
 obtain ⟨k1, hk1⟩ := (named_ev old).rounds
 rw [n1] at hk1
 have HN1 := q1oa hk1
 obtain ⟨k2, hk2⟩ := (named_ev key).rounds
 rw [n2] at hk2
 have HN2 := q1oa hk2
 obtain ⟨k3, hp1⟩ := (opened_at b hb hf keys (hkeys hf) H hH s hs old n1).rounds
 rw [ho] at hp1
 have HP1 := q1oa hp1
 have HLO := q1oa hkl
 clear hi5 hy5 hlo hkl hkr hr1 hs hm hmb hH hC hc0 hl hb hkeys hf h2 n1 n2 hk1 hk2 ho hp1
 go_enter Try.func6, Try.ntmps6
 go_wp2_with (first
  | (go_at_call 25; have hg_ := HRK.out; clear hg_; (with_reducible refine (lock_Rekey.calls kr A0 c0 b old key seed r1 _ _ HC.out HC0.out HRK.out).mono ?_); rintro e w1 ⟨v1, rfl, hv1, hb1⟩; obtain ⟨A1, c1, e1⟩ := Kd.R_slice hv1; subst e1; have HX1 := q1oa (Kd.R_reads' hv1).2.2; replace HB := q1oa hb1; have hcv : (convert 22 9 (.slice A0 m c0)).run Try.prog w1 = .ok (.string s) w1 := str_of (q1oC HCH.out hb1) HHL.out HS.out; clear hv1 hb1 HRK)
  | (go_at_call 26; have hg_ := HLO.out; clear hg_; (with_reducible refine (wrackref1_LockOf.calls kl s (b.length : Int) nn keys _ _ HLO.out).mono ?_); rintro e w2 ⟨rfl, hb⟩; replace HX1 := q1oa (q1oC HX1.out hb); replace HB := q1oa (q1oS HB.out hb); clear hb; clear hcv HLO)
  | (go_at_call 27; have hg_ := HN1.out; clear hg_; (with_reducible refine (wrackref1_Named.calls k1 old _ _ HN1.out).mono ?_); rintro e w3 ⟨rfl, hb⟩; replace HX1 := q1oa (q1oC HX1.out hb); replace HB := q1oa (q1oS HB.out hb); clear hb; clear HN1)
  | (go_at_call 27; have hg_ := HN2.out; clear hg_; (with_reducible refine (wrackref1_Named.calls k2 key _ _ HN2.out).mono ?_); rintro e w4 ⟨rfl, hb⟩; replace HX1 := q1oa (q1oC HX1.out hb); replace HB := q1oa (q1oS HB.out hb); clear hb; clear HN2)
  | (go_at_call 28; have hg_ := HP1.out; clear hg_; (with_reducible refine (wrackref1_Opened.calls k3 s keys old _ _ _ _ HP1.out).mono ?_); rintro e w5 ⟨rfl, hb⟩; replace HX1 := q1oa (q1oC HX1.out hb); replace HB := q1oa (q1oS HB.out hb); clear hb; clear HP1)
  | (go_at_call 28; have hg_ := HP2.out; clear hg_; (with_reducible refine (wrackref1_Opened.calls k4 s keys key _ _ _ _ HP2.out).mono ?_); rintro e w6 ⟨rfl, hb⟩; replace HX1 := q1oa (q1oC HX1.out hb); replace HB := q1oa (q1oS HB.out hb); clear hb; clear HP2)
  | (go_at_call 32; have hg_ := HX1.out; clear hg_; (with_reducible refine (locks_calls _).mono ?_); rintro e w11 ⟨rfl, hb⟩; replace HX1 := q1oa (q1oC HX1.out hb); replace HB := q1oa (q1oS HB.out hb); clear hb)
  | (go_at_call 33; have hg_ := HX1.out; clear hg_; (with_reducible refine (wracklaw1_sums.calls 300 true _ sums_true).mono ?_); rintro e w12 ⟨rfl, hb⟩; replace HX1 := q1oa (q1oC HX1.out hb); replace HB := q1oa (q1oS HB.out hb); clear hb; have hcx : (convert 22 9 (.slice A1 r1.length c1)).run Try.prog w12 = .ok (.string (⟨#[]⟩ : ByteArray)) w12 := (Kd.C_string (P := Try.prog) Try.underlying22 Try.underlying5 Try.underlying9 HX1.out).trans (by rw [HZ.out])))
 go_ret
 exact ⟨rfl, HB.out⟩
set_option maxHeartbeats 16000000 in
set_option maxRecDepth 100000 in
/-- the new key opens a slot already -/
theorem lk_f6 (A0 : Option Addr) (c0 : Nat) (b : List Int) (old key : ByteArray) (seed : Int) (w : World) (hC : Kd.C (Kd.int .u8) w A0 b.length b) (hc0 : b.length ≤ c0) (hl : b.length ≤ 140737488351232) (hb : Bytes b) (hf : formOk b) (h2 : b.length ≤ 65536) (n1 : nameP old = true) (n2 : nameP key = true) (i1 inner i2 inn2 : Int) (ho : slotsP b old = (i1, inner, true)) (ht : slotsP b key = (i2, inn2, true)) :
  Calls Try.prog 6 #[.slice A0 b.length c0, .string old, .string key, .int .i64 seed] w fun e w' => e = .returned (.bool true) ∧ Below w.heap.size w w' := by
 obtain ⟨H, hH⟩ : ∃ H, H = b.take 128 := ⟨_, rfl⟩
 obtain ⟨m, hm⟩ : ∃ m, m = H.length := ⟨_, rfl⟩
 have hmb : m = min b.length 128 := by rw [hm, hH, List.length_take]; omega
 obtain ⟨i5, hi5, hy5⟩ := Option.map_eq_some_iff.1 info5
 have hcut : ∀ W : World, (Instr.slice 22 (.slice A0 b.length c0) none (some (.int .i64 (m : Int))) none).run Try.prog W = .ok (.slice A0 m c0) W := cut_to (P := Try.prog) 22 5 .i64 Try.underlying22 hi5 A0 b.length c0 (m : Int) (by omega) (by omega) hc0
 have hmm : min (b.length : Int) 128 = (m : Int) := by omega
 have hmm2 : (if (128 : Int) < (b.length : Int) then (128 : Int) else (b.length : Int)) = (m : Int) := by split <;> omega
 have HCH := q1oa (show Kd.C (Kd.int .u8) w A0 m H by have h := Kd.C_take hC (m := m) (by omega); rw [show b.take m = H by rw [hH, hmb, List.take_eq_take_iff]; omega] at h; rw [hm]; exact h)
 have HHL := q1oa hm
 obtain ⟨s, hs⟩ : ∃ s, s = strOfNums H := ⟨_, rfl⟩
 have HS := q1oa hs
 have HC := q1oa hC
 have HC0 := q1oa hc0
 have HB := q1oa (Below.refl w.heap.size w)
 obtain ⟨nn, keys, hlo, hkeys⟩ := lockof_ev b hb hl
 obtain ⟨kl, hkl⟩ := hlo.rounds
 rw [← hH, ← hs] at hkl
 obtain ⟨kr, hkr⟩ := (rekey_twice b hb old key seed hf h2 n1 n2 (by rw [ho]) (by rw [ht])).rounds
 obtain ⟨r1, hr1⟩ : ∃ r : List Int, r = [] := ⟨_, rfl⟩
 rw [← hr1] at hkr
 have HZ := q1oa (show strOfNums r1 = (⟨#[]⟩ : ByteArray) by rw [hr1]; rfl)
 have HRK := q1oa hkr
 rw [decide_eq_true hf] at hkl
 have t2 : decide (65536 < (b.length : Int)) = false := decide_eq_false (by omega)
 obtain ⟨k1, hk1⟩ := (named_ev old).rounds
 rw [n1] at hk1
 have HN1 := q1oa hk1
 obtain ⟨k2, hk2⟩ := (named_ev key).rounds
 rw [n2] at hk2
 have HN2 := q1oa hk2
 obtain ⟨k3, hp1⟩ := (opened_at b hb hf keys (hkeys hf) H hH s hs old n1).rounds
 rw [ho] at hp1
 have HP1 := q1oa hp1
 obtain ⟨k4, hp2⟩ := (opened_at b hb hf keys (hkeys hf) H hH s hs key n2).rounds
 rw [ht] at hp2
 have HP2 := q1oa hp2
 have HLO := q1oa hkl
 clear hi5 hy5 hlo hkl hkr hr1 hs hm hmb hH hC hc0 hl hb hkeys hf h2 n1 n2 hk1 hk2 ho hp1 ht hp2
 go_enter Try.func6, Try.ntmps6
 go_wp2_with (first
  | (go_at_call 25; have hg_ := HRK.out; clear hg_; (with_reducible refine (lock_Rekey.calls kr A0 c0 b old key seed r1 _ _ HC.out HC0.out HRK.out).mono ?_); rintro e w1 ⟨v1, rfl, hv1, hb1⟩; obtain ⟨A1, c1, e1⟩ := Kd.R_slice hv1; subst e1; have HX1 := q1oa (Kd.R_reads' hv1).2.2; replace HB := q1oa hb1; have hcv : (convert 22 9 (.slice A0 m c0)).run Try.prog w1 = .ok (.string s) w1 := str_of (q1oC HCH.out hb1) HHL.out HS.out; clear hv1 hb1 HRK)
  | (go_at_call 26; have hg_ := HLO.out; clear hg_; (with_reducible refine (wrackref1_LockOf.calls kl s (b.length : Int) nn keys _ _ HLO.out).mono ?_); rintro e w2 ⟨rfl, hb⟩; replace HX1 := q1oa (q1oC HX1.out hb); replace HB := q1oa (q1oS HB.out hb); clear hb; clear hcv HLO)
  | (go_at_call 27; have hg_ := HN1.out; clear hg_; (with_reducible refine (wrackref1_Named.calls k1 old _ _ HN1.out).mono ?_); rintro e w3 ⟨rfl, hb⟩; replace HX1 := q1oa (q1oC HX1.out hb); replace HB := q1oa (q1oS HB.out hb); clear hb; clear HN1)
  | (go_at_call 27; have hg_ := HN2.out; clear hg_; (with_reducible refine (wrackref1_Named.calls k2 key _ _ HN2.out).mono ?_); rintro e w4 ⟨rfl, hb⟩; replace HX1 := q1oa (q1oC HX1.out hb); replace HB := q1oa (q1oS HB.out hb); clear hb; clear HN2)
  | (go_at_call 28; have hg_ := HP1.out; clear hg_; (with_reducible refine (wrackref1_Opened.calls k3 s keys old _ _ _ _ HP1.out).mono ?_); rintro e w5 ⟨rfl, hb⟩; replace HX1 := q1oa (q1oC HX1.out hb); replace HB := q1oa (q1oS HB.out hb); clear hb; clear HP1)
  | (go_at_call 28; have hg_ := HP2.out; clear hg_; (with_reducible refine (wrackref1_Opened.calls k4 s keys key _ _ _ _ HP2.out).mono ?_); rintro e w6 ⟨rfl, hb⟩; replace HX1 := q1oa (q1oC HX1.out hb); replace HB := q1oa (q1oS HB.out hb); clear hb; clear HP2)
  | (go_at_call 32; have hg_ := HX1.out; clear hg_; (with_reducible refine (locks_calls _).mono ?_); rintro e w11 ⟨rfl, hb⟩; replace HX1 := q1oa (q1oC HX1.out hb); replace HB := q1oa (q1oS HB.out hb); clear hb)
  | (go_at_call 33; have hg_ := HX1.out; clear hg_; (with_reducible refine (wracklaw1_sums.calls 300 true _ sums_true).mono ?_); rintro e w12 ⟨rfl, hb⟩; replace HX1 := q1oa (q1oC HX1.out hb); replace HB := q1oa (q1oS HB.out hb); clear hb; have hcx : (convert 22 9 (.slice A1 r1.length c1)).run Try.prog w12 = .ok (.string (⟨#[]⟩ : ByteArray)) w12 := (Kd.C_string (P := Try.prog) Try.underlying22 Try.underlying5 Try.underlying9 HX1.out).trans (by rw [HZ.out])))
 go_ret
 exact ⟨rfl, HB.out⟩
set_option maxHeartbeats 16000000 in
set_option maxRecDepth 100000 in
/-- the new key takes the slot of the old one -/
theorem lk_ok (A0 : Option Addr) (c0 : Nat) (b : List Int) (old key : ByteArray) (seed : Int) (w : World) (hC : Kd.C (Kd.int .u8) w A0 b.length b) (hc0 : b.length ≤ c0) (hl : b.length ≤ 140737488351232) (hb : Bytes b) (hf : formOk b) (h2 : b.length ≤ 65536) (n1 : nameP old = true) (n2 : nameP key = true) (i : Nat) (inner i2 inn2 : Int) (ho : slotsP b old = ((i : Int), inner, true)) (ht : slotsP b key = (i2, inn2, false)) (hi4 : i < 4) :
  Calls Try.prog 6 #[.slice A0 b.length c0, .string old, .string key, .int .i64 seed] w fun e w' => e = .returned (.bool true) ∧ Below w.heap.size w w' := by
 obtain ⟨H, hH⟩ : ∃ H, H = b.take 128 := ⟨_, rfl⟩
 obtain ⟨m, hm⟩ : ∃ m, m = H.length := ⟨_, rfl⟩
 have hmb : m = min b.length 128 := by rw [hm, hH, List.length_take]; omega
 obtain ⟨i5, hi5, hy5⟩ := Option.map_eq_some_iff.1 info5
 have hcut : ∀ W : World, (Instr.slice 22 (.slice A0 b.length c0) none (some (.int .i64 (m : Int))) none).run Try.prog W = .ok (.slice A0 m c0) W := cut_to (P := Try.prog) 22 5 .i64 Try.underlying22 hi5 A0 b.length c0 (m : Int) (by omega) (by omega) hc0
 have hmm : min (b.length : Int) 128 = (m : Int) := by omega
 have hmm2 : (if (128 : Int) < (b.length : Int) then (128 : Int) else (b.length : Int)) = (m : Int) := by split <;> omega
 have HCH := q1oa (show Kd.C (Kd.int .u8) w A0 m H by have h := Kd.C_take hC (m := m) (by omega); rw [show b.take m = H by rw [hH, hmb, List.take_eq_take_iff]; omega] at h; rw [hm]; exact h)
 have HHL := q1oa hm
 obtain ⟨s, hs⟩ : ∃ s, s = strOfNums H := ⟨_, rfl⟩
 have HS := q1oa hs
 have HC := q1oa hC
 have HC0 := q1oa hc0
 have HB := q1oa (Below.refl w.heap.size w)
 obtain ⟨nn, keys, hlo, hkeys⟩ := lockof_ev b hb hl
 obtain ⟨kl, hkl⟩ := hlo.rounds
 rw [← hH, ← hs] at hkl
 obtain ⟨salt, hsalt⟩ : ∃ x, x = mixedP (IntKind.u64.wrap seed) wNew := ⟨_, rfl⟩
 have hrk := rekey_ok b hb old key seed hf h2 n1 n2 (by rw [ho]) (by rw [ht]) i (by rw [ho]) hi4
 rw [← hsalt, ho] at hrk
 simp only at hrk
 obtain ⟨kr, hkr⟩ := hrk.rounds
 have h128 := hf.1
 have hin : U64 inner := by have h := (openL_u64 b old (keysP b).toNat 0).1; unfold slotsP at ho; rw [ho] at h; exact h
 have hz2 := nameP_size key n2
 obtain ⟨k5, hk5⟩ := (slotText_ev salt inner (by rw [hsalt]; exact mixedP_u64 _ _) hin key (by omega)).rounds
 obtain ⟨st, hst⟩ : ∃ x, x = strOfNums (slotP salt inner key) := ⟨_, rfl⟩
 rw [← hst] at hk5
 obtain ⟨o, ho_⟩ : ∃ o, o = 16 + 24 * i := ⟨_, rfl⟩
 obtain ⟨o2, ho2⟩ : ∃ q, q = o + 24 := ⟨_, rfl⟩
 rw [← ho_] at hkr
 obtain ⟨r1, hr1⟩ : ∃ r : List Int, r = b.take o ++ (slotP salt inner key ++ b.drop (o + 24)) := ⟨_, rfl⟩
 rw [← hr1] at hkr
 obtain ⟨sx, hsx⟩ : ∃ x, x = strOfNums (b.take o) := ⟨_, rfl⟩
 obtain ⟨tail, htl⟩ : ∃ x, x = strOfNums (b.drop o2) := ⟨_, rfl⟩
 obtain ⟨z, hz⟩ : ∃ z, z = strOfNums r1 := ⟨_, rfl⟩
 have hH128 : H.length = 128 := by rw [hH, List.length_take]; omega
 have hex : s.extract 0 o = sx := by rw [hs, kstr_cut, List.drop_zero, hH, List.take_take, Nat.min_eq_left (by omega), hsx]
 have hss : s.size = 128 := by rw [hs, str_size, hH128]
 have hl1 : sx.size = o := by rw [hsx, str_size, List.length_take]; omega
 have hl2 : st.size = 24 := by rw [hst, str_size, slotP_len]
 have hl3 : tail.size ≤ 65536 := by rw [htl, str_size, List.length_drop]; omega
 have hsum : z = sx ++ st ++ tail := by rw [hz, hr1, hsx, hst, htl, ho2, kstr_add, kstr_add, List.append_assoc]
 have HFIN := q1oa (show (z.toList == (sx ++ st ++ tail).toList) = true by rw [hsum]; exact beq_self_eq_true _)
 have HZ := q1oa hz.symm
 have HTA := q1oa htl.symm
 have hzN1 : (9223372036854775807 < sx.size + st.size) = False := eq_false (by omega)
 have hzP1 : (sx.size + st.size ≤ 9223372036854775807) = True := eq_true (by omega)
 have hzN2 : (9223372036854775807 < sx.size + st.size + tail.size) = False := eq_false (by omega)
 have hzP2 : (sx.size + st.size + tail.size ≤ 9223372036854775807) = True := eq_true (by omega)
 have hzN3 : (9223372036854775807 < (sx ++ st).size + tail.size) = False := eq_false (by rw [ByteArray.size_append]; omega)
 have hzP3 : ((sx ++ st).size + tail.size ≤ 9223372036854775807) = True := eq_true (by rw [ByteArray.size_append]; omega)
 have hb1 : o ≤ s.size := by omega
 have hb2 : (o : Int) ≤ (s.size : Int) := by omega
 have hwm : IntKind.i64.wrap (24 * (i : Int)) = 24 * (i : Int) := seal_w1 hi4
 have hwo : IntKind.i64.wrap (16 + 24 * (i : Int)) = (o : Int) := seal_w2 ho_ hi4
 have hwo2 : IntKind.i64.wrap (40 + 24 * (i : Int)) = (o2 : Int) := by rw [i64_w]; unfold wrap64; omega
 obtain ⟨mT, hmT⟩ : ∃ x, x = b.length - o2 := ⟨_, rfl⟩
 obtain ⟨cT, hcT⟩ : ∃ x, x = c0 - o2 := ⟨_, rfl⟩
 obtain ⟨AT, hAT⟩ : ∃ x, x = (if c0 = o2 then A0 else A0.map (·.add (o2 * 1))) := ⟨_, rfl⟩
 simp only [Prod.mk.injEq] at hy5
 have hcutT : ∀ W : World, (Instr.slice 22 (.slice A0 b.length c0) (some (.int .i64 (o2 : Int))) none none).run Try.prog W = .ok (.slice AT mT cT) W := fun W => by
  have h := cut_from (P := Try.prog) 22 5 .i64 Try.underlying22 hi5 1 hy5.2.1 A0 b.length c0 (o2 : Int) (by omega) (by omega) W
  rw [Int.toNat_natCast, ← hAT, ← hmT, ← hcT] at h
  exact h
 have HCT := q1oa (show Kd.C (Kd.int .u8) w AT mT (b.drop o2) by
  have h := Kd.C_drop (m := o2) (c := c0) hC (by omega) hc0
  rw [List.length_drop, ← hmT] at h
  rw [hAT]
  exact h)
 obtain ⟨Y, hY⟩ : ∃ Y, Y = numList (IntKind.u64.wrap seed).toNat ++ bytesOf wNew := ⟨_, rfl⟩
 have HY := q1oa hY
 have HYL := q1oa (show Y.length ≤ 1000 by rw [hY, List.length_append, numList_len, bytesOf_len]; decide)
 have HSAL := q1oa (show salt = hashOf Y by rw [hsalt, hY]; rfl)
 have HST := q1oa hk5
 have HRK := q1oa hkr
 rw [decide_eq_true hf] at hkl
 have t2 : decide (65536 < (b.length : Int)) = false := decide_eq_false (by omega)
 obtain ⟨k1, hk1⟩ := (named_ev old).rounds
 rw [n1] at hk1
 have HN1 := q1oa hk1
 obtain ⟨k2, hk2⟩ := (named_ev key).rounds
 rw [n2] at hk2
 have HN2 := q1oa hk2
 obtain ⟨k3, hp1⟩ := (opened_at b hb hf keys (hkeys hf) H hH s hs old n1).rounds
 rw [ho] at hp1
 have HP1 := q1oa hp1
 obtain ⟨k4, hp2⟩ := (opened_at b hb hf keys (hkeys hf) H hH s hs key n2).rounds
 rw [ht] at hp2
 have HP2 := q1oa hp2
 have HLO := q1oa hkl
 clear hi5 hy5 hlo hkl hkr hrk hr1 hs hm hmb hH hC hc0 hl hb hkeys hf h2 n1 n2 hk1 hk2 ho hp1 ht hp2 hsalt h128 hin hz2 hk5 hst ho_ ho2 hsx htl hz hH128 hss hl1 hl2 hl3 hsum hmT hcT hAT hY hi4
 go_enter Try.func6, Try.ntmps6
 go_wp2_with (first
  | (go_at_call 25; have hg_ := HRK.out; clear hg_; (with_reducible refine (lock_Rekey.calls kr A0 c0 b old key seed r1 _ _ HC.out HC0.out HRK.out).mono ?_); rintro e w1 ⟨v1, rfl, hv1, hb1⟩; obtain ⟨A1, c1, e1⟩ := Kd.R_slice hv1; subst e1; have HX1 := q1oa (Kd.R_reads' hv1).2.2; replace HB := q1oa hb1; have hcv : (convert 22 9 (.slice A0 m c0)).run Try.prog w1 = .ok (.string s) w1 := str_of (q1oC HCH.out hb1) HHL.out HS.out; clear hv1 hb1 HRK)
  | (go_at_call 26; have hg_ := HLO.out; clear hg_; (with_reducible refine (wrackref1_LockOf.calls kl s (b.length : Int) nn keys _ _ HLO.out).mono ?_); rintro e w2 ⟨rfl, hb⟩; replace HX1 := q1oa (q1oC HX1.out hb); replace HB := q1oa (q1oS HB.out hb); clear hb; clear hcv HLO)
  | (go_at_call 27; have hg_ := HN1.out; clear hg_; (with_reducible refine (wrackref1_Named.calls k1 old _ _ HN1.out).mono ?_); rintro e w3 ⟨rfl, hb⟩; replace HX1 := q1oa (q1oC HX1.out hb); replace HB := q1oa (q1oS HB.out hb); clear hb; clear HN1)
  | (go_at_call 27; have hg_ := HN2.out; clear hg_; (with_reducible refine (wrackref1_Named.calls k2 key _ _ HN2.out).mono ?_); rintro e w4 ⟨rfl, hb⟩; replace HX1 := q1oa (q1oC HX1.out hb); replace HB := q1oa (q1oS HB.out hb); clear hb; clear HN2)
  | (go_at_call 28; have hg_ := HP1.out; clear hg_; (with_reducible refine (wrackref1_Opened.calls k3 s keys old _ _ _ _ HP1.out).mono ?_); rintro e w5 ⟨rfl, hb⟩; replace HX1 := q1oa (q1oC HX1.out hb); replace HB := q1oa (q1oS HB.out hb); clear hb; clear HP1)
  | (go_at_call 28; have hg_ := HP2.out; clear hg_; (with_reducible refine (wrackref1_Opened.calls k4 s keys key _ _ _ _ HP2.out).mono ?_); rintro e w6 ⟨rfl, hb⟩; replace HX1 := q1oa (q1oC HX1.out hb); replace HB := q1oa (q1oS HB.out hb); clear hb; clear HP2)
  | (go_at_call 30; have hg_ := HSAL.out; clear hg_; (with_reducible refine (number_at _ (u64_wrap seed) _).mono ?_); rintro e w7 ⟨v7, rfl, hv7, hb7⟩; have HV7 := q1oa hv7; have HB7 := q1oa hb7; clear hv7 hb7)
  | (at_builtin; refine print_append_str (w0 := w6) w6.heap.size rfl (.tmp 82) _ 22 9 5 rfl Try.underlying22 Try.underlying9 info5 v7 (numList (IntKind.u64.wrap seed).toNat) wNew rfl rfl ?aO ?aB ?aS ?aL ?_; (case aB => exact HB7.out); (case aO => exact Kd.own_of_R HV7.out); (case aS => exact HB7.out.size); (case aL => (rw [numList_len]; decide)); intro v8 w8 ho0 hb hg; have ho := Kd.R_of_own (h1 := fun _ => rfl) (ok := fun _ => True) ho0 (fun _ _ => trivial); clear ho0; change Kd.R (Kd.int .u8) 5 w8 w6.heap.size (fun _ => True) v8 (numList (IntKind.u64.wrap seed).toNat ++ bytesOf wNew) at ho; rw [← HY.out] at ho; obtain ⟨A8, c8, e8⟩ := Kd.R_slice ho; subst e8; have hr8 := Kd.R_reads' ho; have HV8 := q1oa hr8; have HB8 := q1oa hb; clear ho hb hg hr8 HV7)
  | (go_at_call 29; (with_reducible refine (hash_at A8 c8 Y.length Y rfl _ HV8.out.2.2 HV8.out.2.1 HYL.out salt HSAL.out).mono ?_); rintro e w9 ⟨rfl, hd⟩; have HB9 := q1oa (q1oS HB8.out hd.below); clear hd HB8 HV8))
 have HBD := q1oa (q1oS HB.out (q1oS HB9.out (below_drew (Below.refl w9.heap.size w9))))
 have HXD := q1oa (q1oC HX1.out (q1oS HB9.out (below_drew (Below.refl w9.heap.size w9))))
 have y0_ : (convert 22 9 (.slice AT mT cT)).run Try.prog w9.drew = .ok (.string tail) w9.drew := (Kd.C_string (P := Try.prog) Try.underlying22 Try.underlying5 Try.underlying9 (q1oC HCT.out HBD.out)).trans (by rw [HTA.out])
 clear HB HX1 HB9
 refine start_ (n := 18) (S := fun w' => (convert 22 9 (.slice AT mT cT)).run Try.prog w' = .ok (.string tail) w') (ds := []) #[false,false,false,false,false,false,false,false,false,false,false,false,false,false,false,false,false,false] (by kernel_rfl) rfl rfl (y0_) (fun hHeld => ?_)
 generalize w9.drew = wD at y0_ HXD HBD hHeld ⊢
 refine pure_ (i:=0) (N:=some 85) (v:=?_) (a':=?_) #[true,false,false,false,false,false,false,false,false,false,false,false,false,false,false,false,false,false] rfl rfl (by kernel_rfl) (fun _ _ _ h => h) (Or.inl ⟨by rfl, ?_⟩) ?_ ?_
 rotate_left
 ·
  intro w'
  go_simp
  with_reducible rfl
 rotate_left
 ·
  simp only [Act.put, q1oI, q1o0, q1o1, i64_w, i32_w]
  rfl
 refine pure_ (i:=1) (N:=some 86) (v:=?_) (a':=?_) #[true,true,false,false,false,false,false,false,false,false,false,false,false,false,false,false,false,false] rfl rfl (by kernel_rfl) (fun _ _ _ h => h) (Or.inl ⟨by rfl, ?_⟩) ?_ ?_
 rotate_left
 ·
  intro w'
  go_simp
  with_reducible rfl
 rotate_left
 ·
  simp only [Act.put, q1oI, q1o0, q1o1, i64_w, i32_w]
  rfl
 refine pure_ (i:=2) (N:=some 87) (v:=?_) (a':=?_) #[true,true,true,false,false,false,false,false,false,false,false,false,false,false,false,false,false,false] rfl rfl (by kernel_rfl) (fun _ _ _ h => h) (Or.inl ⟨by rfl, ?_⟩) ?_ ?_
 rotate_left
 ·
  intro w'
  go_simp
  with_reducible rfl
 rotate_left
 ·
  simp only [Act.put, q1oI, q1o0, q1o1, i64_w, i32_w]
  rfl
 refine pure_ (i:=3) (N:=some 88) (v:=?_) (a':=?_) #[true,true,true,true,false,false,false,false,false,false,false,false,false,false,false,false,false,false] rfl rfl (by kernel_rfl) (fun _ _ _ h => h) (Or.inl ⟨by rfl, ?_⟩) ?_ ?_
 rotate_left
 ·
  intro w'
  go_simp
  with_reducible rfl
 rotate_left
 ·
  simp only [Act.put, q1oI, q1o0, q1o1, i64_w, i32_w]
  rfl
 refine pure_ (i:=4) (N:=some 89) (v:=?_) (a':=?_) #[true,true,true,true,true,false,false,false,false,false,false,false,false,false,false,false,false,false] rfl rfl (by kernel_rfl) (fun _ _ _ h => h) (Or.inl ⟨by rfl, ?_⟩) ?_ ?_
 rotate_left
 ·
  intro w'
  go_simp
  with_reducible rfl
 rotate_left
 ·
  simp only [Act.put, q1oI, q1o0, q1o1, i64_w, i32_w]
  rfl
 refine pure_ (i:=5) (N:=some 90) (v:=?_) (a':=?_) #[true,true,true,true,true,true,false,false,false,false,false,false,false,false,false,false,false,false] rfl rfl (by kernel_rfl) (fun _ _ _ h => h) (Or.inl ⟨by rfl, ?_⟩) ?_ ?_
 rotate_left
 ·
  intro w'
  go_simp
  with_reducible rfl
 rotate_left
 ·
  simp only [Act.put, q1oI, q1o0, q1o1, i64_w, i32_w]
  rfl
 refine pure_ (i:=6) (N:=some 91) (v:=?_) (a':=?_) #[true,true,true,true,true,true,true,false,false,false,false,false,false,false,false,false,false,false] rfl rfl (by kernel_rfl) (fun _ _ _ h => h) (Or.inl ⟨by rfl, ?_⟩) ?_ ?_
 rotate_left
 ·
  intro w'
  go_simp
  with_reducible rfl
 rotate_left
 ·
  simp only [Act.put, q1oI, q1o0, q1o1, i64_w, i32_w]
  rfl
 refine pure_ (i:=7) (N:=some 92) (v:=?_) (a':=?_) #[true,true,true,true,true,true,true,true,false,false,false,false,false,false,false,false,false,false] rfl rfl (by kernel_rfl) (fun _ _ _ h => h) (Or.inl ⟨by rfl, ?_⟩) ?_ ?_
 rotate_left
 ·
  intro w'
  go_simp
  with_reducible rfl
 rotate_left
 ·
  simp only [Act.put, q1oI, q1o0, q1o1, i64_w, i32_w]
  rfl
 refine pure_ (i:=10) (N:=some 95) (v:=?_) (a':=?_) #[true,true,true,true,true,true,true,true,false,false,true,false,false,false,false,false,false,false] rfl rfl (by kernel_rfl) (fun _ _ _ h => h) (Or.inl ⟨by rfl, ?_⟩) ?_ ?_
 rotate_left
 ·
  intro w'
  go_simp
  with_reducible rfl
 rotate_left
 ·
  simp only [Act.put, q1oI, q1o0, q1o1, i64_w, i32_w]
  rfl
 refine pure_ (i:=11) (N:=some 96) (v:=?_) (a':=?_) #[true,true,true,true,true,true,true,true,false,false,true,true,false,false,false,false,false,false] rfl rfl (by kernel_rfl) (fun _ _ _ h => h) (Or.inl ⟨by rfl, ?_⟩) ?_ ?_
 rotate_left
 ·
  intro w'
  go_simp
  with_reducible rfl
 rotate_left
 ·
  simp only [Act.put, q1oI, q1o0, q1o1, i64_w, i32_w]
  rfl
 refine pure_ (i:=12) (N:=some 97) (v:=?_) (a':=?_) #[true,true,true,true,true,true,true,true,false,false,true,true,true,false,false,false,false,false] rfl rfl (by kernel_rfl) (fun _ _ _ h => h) (Or.inl ⟨by rfl, ?_⟩) ?_ ?_
 rotate_left
 ·
  intro w'
  go_simp
  with_reducible rfl
 rotate_left
 ·
  simp only [Act.put, q1oI, q1o0, q1o1, i64_w, i32_w]
  rfl
 refine pure_ (i:=13) (N:=some 98) (v:=?_) (a':=?_) #[true,true,true,true,true,true,true,true,false,false,true,true,true,true,false,false,false,false] rfl rfl (by kernel_rfl) (fun _ _ _ h => h) (Or.inl ⟨by rfl, ?_⟩) ?_ ?_
 rotate_left
 ·
  intro w'
  go_simp
  with_reducible rfl
 rotate_left
 ·
  simp only [Act.put, q1oI, q1o0, q1o1, i64_w, i32_w]
  rfl
 refine pure_ (i:=14) (N:=some 99) (v:=?_) (a':=?_) #[true,true,true,true,true,true,true,true,false,false,true,true,true,true,true,false,false,false] rfl rfl (by kernel_rfl) (fun _ _ _ h => h) (Or.inl ⟨by rfl, ?_⟩) ?_ ?_
 rotate_left
 ·
  intro w'
  go_simp
  with_reducible rfl
 rotate_left
 ·
  simp only [Act.put, q1oI, q1o0, q1o1, i64_w, i32_w]
  rfl
 refine take_ (i:=15) (N:=some 100) (v:=?_) (a':=?_) #[true,true,true,true,true,true,true,true,false,false,true,true,true,true,true,true,false,false] rfl rfl (by kernel_rfl) (fun _ _ _ h => h) (Or.inl ⟨by rfl, ?_⟩) hHeld ?_ ?_
 rotate_left
 ·
  intro w' s0
  go_simp
  with_reducible rfl
 rotate_left
 ·
  simp only [Act.put, q1oI, q1o0, q1o1, i64_w, i32_w]
  rfl
 refine one_ (i:=8) (N:=some 93) #[true,true,true,true,true,true,true,true,true,false,true,true,true,true,true,true,false,false] rfl rfl (by kernel_rfl) (by decide) (fun K hK => ?_)
 refine goes_ Try.func31 (by kernel_rfl) rfl #[.int .u64 salt, .int .u64 inner, .string key] (by rfl) rfl rfl (by simp only [List.map_toArray, List.map_cons, List.map_nil]; rfl) ?_
 with_reducible refine (wrackref1_SlotText.calls k5 salt inner key st _ HST.out).mono ?_
 rintro e w10 ⟨rfl, hb10⟩
 refine ⟨_, rfl, ?_⟩
 refine hK.out _ _ ((Kd.C_string (P := Try.prog) Try.underlying22 Try.underlying5 Try.underlying9 (q1oC HCT.out (q1oS HBD.out hb10))).trans (by rw [HTA.out])) (fun hHeld => ?_)
 clear hK K
 refine norm_ (a' := ?_) ?_ ?_
 rotate_left
 ·
  show Act.put _ (some 93) _ = _
  simp only [Act.put, q1oI, q1o0, q1o1, i64_w, i32_w]
  rfl
 refine pure_ (i:=9) (N:=some 94) (v:=?_) (a':=?_) #[true,true,true,true,true,true,true,true,true,true,true,true,true,true,true,true,false,false] rfl rfl (by kernel_rfl) (fun _ _ _ h => h) (Or.inl ⟨by rfl, ?_⟩) ?_ ?_
 rotate_left
 ·
  intro w'
  go_simp
  with_reducible rfl
 rotate_left
 ·
  simp only [Act.put, q1oI, q1o0, q1o1, i64_w, i32_w]
  rfl
 refine pure_ (i:=16) (N:=some 101) (v:=?_) (a':=?_) #[true,true,true,true,true,true,true,true,true,true,true,true,true,true,true,true,true,false] rfl rfl (by kernel_rfl) (fun _ _ _ h => h) (Or.inl ⟨by rfl, ?_⟩) ?_ ?_
 rotate_left
 ·
  intro w'
  go_simp
  with_reducible rfl
 rotate_left
 ·
  simp only [Act.put, q1oI, q1o0, q1o1, i64_w, i32_w]
  rfl
 refine pure_ (i:=17) (N:=some 16) (v:=?_) (a':=?_) #[true,true,true,true,true,true,true,true,true,true,true,true,true,true,true,true,true,true] rfl rfl (by kernel_rfl) (fun _ _ _ h => h) (Or.inl ⟨by rfl, ?_⟩) ?_ ?_
 rotate_left
 ·
  intro w'
  go_simp
  with_reducible rfl
 rotate_left
 ·
  simp only [Act.put, q1oI, q1o0, q1o1, i64_w, i32_w]
  rfl
 refine done_ (by kernel_rfl) ?_
 have HX1 := q1oa (q1oC HXD.out hb10)
 have HB := q1oa (q1oS HBD.out hb10)
 clear HXD HBD hb10 hHeld y0_
 go_wp2_with (first
  | (go_at_call 32; have hg_ := HX1.out; clear hg_; (with_reducible refine (locks_calls _).mono ?_); rintro e w11 ⟨rfl, hb⟩; replace HX1 := q1oa (q1oC HX1.out hb); replace HB := q1oa (q1oS HB.out hb); clear hb)
  | (go_at_call 33; have hg_ := HX1.out; clear hg_; (with_reducible refine (wracklaw1_sums.calls 300 true _ sums_true).mono ?_); rintro e w12 ⟨rfl, hb⟩; replace HX1 := q1oa (q1oC HX1.out hb); replace HB := q1oa (q1oS HB.out hb); clear hb; have hcx : (convert 22 9 (.slice A1 r1.length c1)).run Try.prog w12 = .ok (.string z) w12 := (Kd.C_string (P := Try.prog) Try.underlying22 Try.underlying5 Try.underlying9 HX1.out).trans (by rw [HZ.out])))
 go_ret
 exact ⟨congrArg (fun b => Ending.returned (.bool b)) HFIN.out, HB.out⟩
end Go.Proofs.Ytgkjkhhppmnajaa.Lk
