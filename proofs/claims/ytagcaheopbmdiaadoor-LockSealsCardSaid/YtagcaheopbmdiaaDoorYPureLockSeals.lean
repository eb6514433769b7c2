/- Sealed layers: the law on sealing, whole. No condition. -/
import Derived.Test.YtagcaheopbmdiaaDoorYPureLockSealsLL
import Derived.Test.YtagcaheopbmdiaaDoorYPureLockSealsLI
namespace Go.Proofs.YtagcaheopbmdiaaDoor.Lk
open Go.Proofs.YtagcaheopbmdiaaDoor.SumPlain Go.Maps
open Go Go.RowKit Go.Proofs.YtagcaheopbmdiaaDoor.QLockSeals Go.Proofs.YtagcaheopbmdiaaDoorW.PrintWords Go.Proofs.YtagcaheopbmdiaaDoorW.PrintLast Go.Proofs.YtagcaheopbmdiaaDoorW.PrintMore
set_option linter.unusedVariables false
set_option linter.unusedSimpArgs false
theorem q15I : type_of% @List.setIfInBounds_toArray := @List.setIfInBounds_toArray
theorem q150 : type_of% @List.set_cons_zero := @List.set_cons_zero
theorem q151 : type_of% @List.set_cons_succ := @List.set_cons_succ
theorem q15a : type_of% @Aside0.mk := @Aside0.mk
/-- the error of sealing -/
def sealE (n : Nat) (names : List ByteArray) : Int := if 65408 < n then 2 else keysE names
set_option maxHeartbeats 8000000 in
set_option maxRecDepth 100000 in
theorem seal_err (A0 : Option Addr) (c0 : Nat) (b : List Int) (A1 : Option Addr) (c1 : Nat) (names : List ByteArray) (seed : Int) (w : World) (hC : Kd.C (Kd.int .u8) w A0 b.length b) (hc0 : b.length ≤ c0) (hN : Kd.C Kd.string w A1 names.length names) (hc1 : names.length ≤ c1) (hbl : b.length ≤ 140737488351232) (he : sealE b.length names ≠ 0) :
  Calls Tryd.prog 4 #[.slice A0 b.length c0, .slice A1 names.length c1, .int .i64 seed] w fun e w' => e = .returned (.tuple #[.slice none 0 0, .int .i64 (sealE b.length names)]) ∧ Below w.heap.size w w' := by
 have HB := q15a (Below.refl w.heap.size w)
 unfold sealE at he ⊢
 by_cases g0 : 65408 < b.length
 ·
  rw [if_pos g0]
  have t0 : decide ((65408 : Int) < (b.length : Int)) = true := decide_eq_true (by omega)
  clear hC hc0 hN hc1 he g0 hbl
  go_enter Tryd.func4, Tryd.ntmps4
  go_wp2
  refine bodyPost_ret (v := .tuple #[.slice none 0 0, .int .i64 2]) (by simp [results, Tryd.results4, go_sem]) rfl ?_
  exact ⟨rfl, HB.out⟩
 ·
  rw [if_neg g0] at he ⊢
  have t0 : decide ((65408 : Int) < (b.length : Int)) = false := decide_eq_false (by omega)
  have t0b : ¬ (65408 < b.length) := g0
  obtain ⟨kk, hkk⟩ := (keys_ev names).rounds
  obtain ⟨E, hE⟩ : ∃ E, E = keysE names := ⟨_, rfl⟩
  rw [← hE] at he hkk ⊢
  have te1 : (E != 0) = true := bne_iff_ne.mpr he
  have te2 : ¬ (E = 0) := he
  have HKK := q15a hkk
  have HN := q15a hN
  have HC1 := q15a hc1
  clear hC hc0 hN hc1 he g0 hbl hkk hE
  go_enter Tryd.func4, Tryd.ntmps4
  go_wp2_with (first
   | (go_at_call 8; refine (lock_keys.calls kk A1 c1 names E _ HN.out HC1.out HKK.out).mono ?_; rintro e w1 ⟨rfl, hb1⟩; have HB1 := q15a (below_step HB.out hb1); clear hb1))
  refine bodyPost_ret (v := .tuple #[.slice none 0 0, .int .i64 E]) (by simp [results, Tryd.results4, go_sem]) rfl ?_
  exact ⟨rfl, HB1.out⟩
theorem seal_right (A0 : Option Addr) (c0 : Nat) (b : List Int) (A1 : Option Addr) (c1 : Nat) (names : List ByteArray) (seed : Int) (w : World) (hC : Kd.C (Kd.int .u8) w A0 b.length b) (hc0 : b.length ≤ c0) (hN : Kd.C Kd.string w A1 names.length names) (hc1 : names.length ≤ c1) (hk : sealE b.length names = 0) :
  Calls Tryd.prog 4 #[.slice A0 b.length c0, .slice A1 names.length c1, .int .i64 seed] w fun e w' => ∃ v0, e = .returned (.tuple #[v0, .int .i64 0]) ∧ (Kd.int .u8).R 5 w' w.heap.size (fun _ => True) v0 (sealP b names seed) ∧ Below w.heap.size w w' := by
 unfold sealE at hk
 by_cases g0 : 65408 < b.length
 · rw [if_pos g0] at hk; exact absurd hk (by decide)
 ·
  rw [if_neg g0] at hk
  obtain ⟨h4, h1, hnm⟩ := keysE_ok names hk
  obtain ⟨kk, hkk⟩ := (keys_ev names).rounds
  rw [hk] at hkk
  have hsz : ∀ i, i < names.length → (rdOf ByteArray.empty names (i : Int)).size ≤ 1000000 := fun i hi => by
   have := nameP_size _ (hnm i hi)
   unfold nmAt at this
   omega
  rcases Nat.eq_zero_or_pos b.length with hb | hb
  · exact seal_nil A0 c0 b A1 c1 names seed w hC hc0 hN hc1 kk hkk h4 hsz hb (by omega)
  · exact seal_calls A0 c0 b A1 c1 names seed w hC hc0 hN hc1 kk hkk h4 hsz hb (by omega)
set_option maxHeartbeats 8000000 in
set_option maxRecDepth 100000 in
theorem ls_err (A0 : Option Addr) (c0 : Nat) (b : List Int) (A1 : Option Addr) (c1 : Nat) (names : List ByteArray) (seed : Int) (w : World) (hC : Kd.C (Kd.int .u8) w A0 b.length b) (hc0 : b.length ≤ c0) (hN : Kd.C Kd.string w A1 names.length names) (hc1 : names.length ≤ c1) (hbl : b.length ≤ 140737488351232) (he : sealE b.length names ≠ 0) :
  Calls Tryd.prog 3 #[.slice A0 b.length c0, .slice A1 names.length c1, .int .i64 seed] w fun e w' => e = .returned (.bool true) ∧ Below w.heap.size w w' := by
 have HSE := q15a (seal_err A0 c0 b A1 c1 names seed w hC hc0 hN hc1 hbl he)
 have HER := q15a (fun W hN => sealerr_calls A1 c1 names b.length hbl W hN hc1)
 obtain ⟨E, hE⟩ : ∃ E, E = sealE b.length names := ⟨_, rfl⟩
 rw [show (if 65408 < b.length then (2 : Int) else keysE names) = E from hE.symm] at HER
 rw [← hE] at he HSE
 have te1 : (E != 0) = true := bne_iff_ne.mpr he
 have te2 : ¬ (E = 0) := he
 have HN := q15a hN
 clear hC hc0 hN hc1 he hbl hE
 go_enter Tryd.func3, Tryd.ntmps3
 go_wp2_with (first
  | (go_at_call 4; refine HSE.out.mono ?_; rintro e w1 ⟨rfl, hb1⟩; have HB1 := q15a hb1; clear hb1)
  | (go_at_call 5; refine (HER.out _ (Kd.C_below HN.out HB1.out)).mono ?_; rintro e w2 ⟨rfl, hb2⟩; have HB2 := q15a (below_step HB1.out hb2); clear hb2 HB1)
  | (go_at_call 6; have hg_ := HB2.out; clear hg_; refine (locks_calls _).mono ?_; rintro e w3 ⟨rfl, hb3⟩; have HB3 := q15a (below_step HB2.out hb3); clear hb3 HB2)
  | (go_at_call 6; have hg_ := HB3.out; clear hg_; refine (locks_calls _).mono ?_; rintro e w4 ⟨rfl, hb4⟩; have HB4 := q15a (below_step HB3.out hb4); clear hb4 HB3))
 go_ret
 exact ⟨rfl, HB4.out⟩
set_option maxHeartbeats 8000000 in
set_option maxRecDepth 100000 in
theorem ls_ok (A0 : Option Addr) (c0 : Nat) (b : List Int) (A1 : Option Addr) (c1 : Nat) (names : List ByteArray) (seed : Int) (w : World) (hC : Kd.C (Kd.int .u8) w A0 b.length b) (hc0 : b.length ≤ c0) (hN : Kd.C Kd.string w A1 names.length names) (hc1 : names.length ≤ c1) (hbl : b.length ≤ 140737488351232) (hb : Bytes b) (hk : sealE b.length names = 0) :
  Calls Tryd.prog 3 #[.slice A0 b.length c0, .slice A1 names.length c1, .int .i64 seed] w fun e w' => e = .returned (.bool true) ∧ Below w.heap.size w w' := by
 have HSE := q15a (seal_right A0 c0 b A1 c1 names seed w hC hc0 hN hc1 hk)
 have HER := q15a (fun W hN => sealerr_calls A1 c1 names b.length hbl W hN hc1)
 rw [show (if 65408 < b.length then (2 : Int) else keysE names) = 0 from hk] at HER
 have hk2 := hk
 unfold sealE at hk2
 by_cases g0 : 65408 < b.length
 · rw [if_pos g0] at hk2; exact absurd hk2 (by decide)
 rw [if_neg g0] at hk2
 obtain ⟨h4, h1, hnm⟩ := keysE_ok names hk2
 obtain ⟨kd, hkd⟩ := (sealed_ev b hb (by omega) names h4 (fun i hi => by have := nameP_size _ (hnm i hi); omega) seed).rounds
 obtain ⟨X, hX⟩ : ∃ X, X = sealP b names seed := ⟨_, rfl⟩
 obtain ⟨ss, hss⟩ : ∃ s, s = strOfNums X := ⟨_, rfl⟩
 rw [← hX] at HSE
 rw [← hX, ← hss] at hkd
 have HKD := q15a hkd
 have HSS := q15a hss
 have HC := q15a hC
 have HC0 := q15a hc0
 have HN := q15a hN
 have HC1 := q15a hc1
 clear hC hc0 hN hc1 hbl hb hk hk2 g0 h4 h1 hnm hkd hX hss
 go_enter Tryd.func3, Tryd.ntmps3
 go_wp2_with (first
  | (go_at_call 4; refine HSE.out.mono ?_; rintro e w1 ⟨v1, rfl, hv1, hb1⟩; have HB1 := q15a hb1; obtain ⟨AX, cX, eX⟩ := Kd.R_slice hv1; subst eX; have HX1 := q15a (Kd.R_reads' hv1).2.2; clear hb1 hv1)
  | (go_at_call 5; refine (HER.out _ (Kd.C_below HN.out HB1.out)).mono ?_; rintro e w2 ⟨rfl, hb2⟩; have HB2 := q15a (below_step HB1.out hb2); have HX2 := q15a (Kd.C_below HX1.out hb2); clear HX1; clear hb2 HB1)
  | (go_at_call 6; refine (locks_calls _).mono ?_; rintro e w3 ⟨rfl, hb3⟩; have HB3 := q15a (below_step HB2.out hb3); have HX3 := q15a (Kd.C_below HX2.out hb3); clear hb3 HB2 HX2))
 have FX := q15a (show ∀ W, Below w3.heap.size w3 W → (convert 22 9 (.slice AX X.length cX)).run Tryd.prog W = .ok (.string ss) W from fun W hB => (Kd.C_string (P := Tryd.prog) Tryd.underlying22 Tryd.underlying5 Tryd.underlying9 (Kd.C_below HX3.out hB)).trans (by rw [HSS.out]))
 have HED := q15a (below_drew (Below.refl w3.heap.size w3))
 refine start_ (n := 12) (S := fun w' => (convert 22 9 (.slice AX X.length cX)).run Tryd.prog w' = .ok (.string ss) w') (ds := []) #[false,false,false,false,false,false,false,false,false,false,false,false] (by kernel_rfl) rfl rfl ((FX.out _ HED.out)) (fun hHeld => ?_)
 generalize w3.drew = wE at HED hHeld ⊢
 refine pure_ (i:=0) (N:=some 38) (v:=?_) (a':=?_) #[true,false,false,false,false,false,false,false,false,false,false,false] rfl rfl (by kernel_rfl) (fun _ _ _ h => h) (Or.inl ⟨by rfl, ?_⟩) ?_ ?_
 rotate_left
 ·
  intro w'
  go_simp
  with_reducible rfl
 rotate_left
 ·
  simp only [Act.put, q15I, q150, q151, i64_w, i32_w]
  rfl
 refine pure_ (i:=1) (N:=some 39) (v:=?_) (a':=?_) #[true,true,false,false,false,false,false,false,false,false,false,false] rfl rfl (by kernel_rfl) (fun _ _ _ h => h) (Or.inl ⟨by rfl, ?_⟩) ?_ ?_
 rotate_left
 ·
  intro w'
  go_simp
  with_reducible rfl
 rotate_left
 ·
  simp only [Act.put, q15I, q150, q151, i64_w, i32_w]
  rfl
 refine pure_ (i:=2) (N:=some 40) (v:=?_) (a':=?_) #[true,true,true,false,false,false,false,false,false,false,false,false] rfl rfl (by kernel_rfl) (fun _ _ _ h => h) (Or.inl ⟨by rfl, ?_⟩) ?_ ?_
 rotate_left
 ·
  intro w'
  go_simp
  with_reducible rfl
 rotate_left
 ·
  simp only [Act.put, q15I, q150, q151, i64_w, i32_w]
  rfl
 refine pure_ (i:=3) (N:=some 41) (v:=?_) (a':=?_) #[true,true,true,true,false,false,false,false,false,false,false,false] rfl rfl (by kernel_rfl) (fun _ _ _ h => h) (Or.inl ⟨by rfl, ?_⟩) ?_ ?_
 rotate_left
 ·
  intro w'
  go_simp
  with_reducible rfl
 rotate_left
 ·
  simp only [Act.put, q15I, q150, q151, i64_w, i32_w]
  rfl
 refine pure_ (i:=5) (N:=some 43) (v:=?_) (a':=?_) #[true,true,true,true,false,true,false,false,false,false,false,false] rfl rfl (by kernel_rfl) (fun _ _ _ h => h) (Or.inl ⟨by rfl, ?_⟩) ?_ ?_
 rotate_left
 ·
  intro w'
  go_simp
  with_reducible rfl
 rotate_left
 ·
  simp only [Act.put, q15I, q150, q151, i64_w, i32_w]
  rfl
 refine pure_ (i:=6) (N:=some 44) (v:=?_) (a':=?_) #[true,true,true,true,false,true,true,false,false,false,false,false] rfl rfl (by kernel_rfl) (fun _ _ _ h => h) (Or.inl ⟨by rfl, ?_⟩) ?_ ?_
 rotate_left
 ·
  intro w'
  go_simp
  with_reducible rfl
 rotate_left
 ·
  simp only [Act.put, q15I, q150, q151, i64_w, i32_w]
  rfl
 refine pure_ (i:=7) (N:=some 45) (v:=?_) (a':=?_) #[true,true,true,true,false,true,true,true,false,false,false,false] rfl rfl (by kernel_rfl) (fun _ _ _ h => h) (Or.inl ⟨by rfl, ?_⟩) ?_ ?_
 rotate_left
 ·
  intro w'
  go_simp
  with_reducible rfl
 rotate_left
 ·
  simp only [Act.put, q15I, q150, q151, i64_w, i32_w]
  rfl
 refine take_ (i:=4) (N:=some 42) (v:=?_) (a':=?_) #[true,true,true,true,true,true,true,true,false,false,false,false] rfl rfl (by kernel_rfl) (fun _ _ _ h => h) (Or.inl ⟨by rfl, ?_⟩) hHeld ?_ ?_
 rotate_left
 ·
  intro w' s0
  go_simp
  with_reducible rfl
 rotate_left
 ·
  simp only [Act.put, q15I, q150, q151, i64_w, i32_w]
  rfl
 refine one_ (i:=8) (N:=some 46) #[true,true,true,true,true,true,true,true,true,false,false,false] rfl rfl (by kernel_rfl) (by decide) (fun K hK => ?_)
 refine goes_ Tryd.func7 (by kernel_rfl) rfl #[.slice A0 b.length c0, .slice A1 names.length c1, .int .i64 seed] (by rfl) rfl rfl (by simp only [List.map_toArray, List.map_cons, List.map_nil]; rfl) ?_
 with_reducible refine (wrackref1_Sealed.calls kd A0 c0 b A1 c1 names seed ss _ (Kd.C_below HC.out (below_step HB3.out HED.out)) HC0.out (Kd.C_below HN.out (below_step HB3.out HED.out)) HC1.out HKD.out).mono ?_
 rintro e wS ⟨rfl, hbS⟩
 have HES := q15a (below_step HED.out hbS)
 refine ⟨_, rfl, ?_⟩
 refine hK.out _ _ (FX.out _ HES.out) (fun hHeld => ?_)
 clear hK K
 refine norm_ (a' := ?_) ?_ ?_
 rotate_left
 ·
  show Act.put _ (some 46) _ = _
  simp only [Act.put, q15I, q150, q151, i64_w, i32_w]
  rfl
 refine pure_ (i:=9) (N:=some 47) (v:=?_) (a':=?_) #[true,true,true,true,true,true,true,true,true,true,false,false] rfl rfl (by kernel_rfl) (fun _ _ _ h => h) (Or.inl ⟨by rfl, ?_⟩) ?_ ?_
 rotate_left
 ·
  intro w'
  go_simp
  with_reducible rfl
 rotate_left
 ·
  simp only [Act.put, q15I, q150, q151, i64_w, i32_w]
  rfl
 refine pure_ (i:=10) (N:=some 48) (v:=?_) (a':=?_) #[true,true,true,true,true,true,true,true,true,true,true,false] rfl rfl (by kernel_rfl) (fun _ _ _ h => h) (Or.inl ⟨by rfl, ?_⟩) ?_ ?_
 rotate_left
 ·
  intro w'
  go_simp
  with_reducible rfl
 rotate_left
 ·
  simp only [Act.put, q15I, q150, q151, i64_w, i32_w]
  rfl
 refine pure_ (i:=11) (N:=some 6) (v:=?_) (a':=?_) #[true,true,true,true,true,true,true,true,true,true,true,true] rfl rfl (by kernel_rfl) (fun _ _ _ h => h) (Or.inl ⟨by rfl, ?_⟩) ?_ ?_
 rotate_left
 ·
  intro w'
  go_simp
  with_reducible rfl
 rotate_left
 ·
  simp only [Act.put, q15I, q150, q151, i64_w, i32_w]
  rfl
 refine done_ (by kernel_rfl) ?_
 go_wp2
 go_ret
 exact ⟨rfl, below_step HB3.out HES.out⟩
theorem ls_main (A0 : Option Addr) (c0 : Nat) (b : List Int) (A1 : Option Addr) (c1 : Nat) (names : List ByteArray) (seed : Int) (w : World) (hC : Kd.C (Kd.int .u8) w A0 b.length b) (hc0 : b.length ≤ c0) (hN : Kd.C Kd.string w A1 names.length names) (hc1 : names.length ≤ c1) (hbl : b.length ≤ 140737488351232) (hb : Bytes b) :
  Calls Tryd.prog 3 #[.slice A0 b.length c0, .slice A1 names.length c1, .int .i64 seed] w fun e w' => e = .returned (.bool true) ∧ Below w.heap.size w w' := by
 by_cases h : sealE b.length names = 0
 · exact ls_ok A0 c0 b A1 c1 names seed w hC hc0 hN hc1 hbl hb h
 · exact ls_err A0 c0 b A1 c1 names seed w hC hc0 hN hc1 hbl h
end Go.Proofs.YtagcaheopbmdiaaDoor.Lk
