/- Sealed layers: the fact on a sealed layer of three bytes. No condition. -/
import Derived.Test.YtagcaheopbmdiaaDoorYPureLockSealsLH
import Derived.Test.YtagcaheopbmdiaaDoorYPureLockSealsF
namespace Go.Proofs.YtagcaheopbmdiaaDoor.Lk
open Go Go.RowKit Go.Proofs.YtagcaheopbmdiaaDoor.QLockSeals Go.Proofs.YtagcaheopbmdiaaDoorW.PrintWords Go.Proofs.YtagcaheopbmdiaaDoorW.PrintLast Go.Proofs.YtagcaheopbmdiaaDoorW.PrintMore Go.Proofs.YtagcaheopbmdiaaDoor.SumPlain
set_option linter.unusedVariables false
set_option linter.unusedSimpArgs false
theorem kgrown_none {w W : World} (h : w.grownBy W none) : Below w.heap.size w W := pw_below_grown (Below.refl w.heap.size w) none (Nat.le_refl _) h (fun k hk => by cases hk)
theorem seal_abc : (sealP [97, 98, 99] [⟨#[107]⟩] 1).length = 131 ∧ (sealP [97, 98, 99] [⟨#[107]⟩] 1).take 4 = [108, 111, 99, 107] := by
 have h0 : (sealH (headP 3 1) [⟨#[107]⟩] 1 (sealI 1) 1).length = 128 := sealH_len _ (headP_len 3 1) _ _ _ 1 (by decide)
 have t : ∀ (xs ys : List Int) (lo : Nat), 4 ≤ lo → lo + ys.length ≤ xs.length → (putAt xs lo ys).take 4 = xs.take 4 := fun xs ys lo h1 h2 => by
  unfold putAt
  rw [List.take_append_of_le_length (by rw [List.length_take]; omega), List.take_take, Nat.min_eq_left h1]
 have hl : (sealH (headP 3 1) [⟨#[107]⟩] 1 (sealI 1) 1 ++ [97, 98, 99]).length = 131 := by rw [List.length_append, h0]; rfl
 have hs : (streamL (sealI 1) 0 [97, 98, 99]).length = 3 := by rw [streamL_len]; rfl
 unfold sealP
 refine ⟨?_, ?_⟩
 ·
  show (putAt (sealH (headP 3 1) [⟨#[107]⟩] 1 (sealI 1) 1 ++ [97, 98, 99]) 128 (streamL (sealI 1) 0 [97, 98, 99])).length = 131
  rw [putAt_len (by rw [hs, hl]; decide), hl]
 ·
  show (putAt (sealH (headP 3 1) [⟨#[107]⟩] 1 (sealI 1) 1 ++ [97, 98, 99]) 128 (streamL (sealI 1) 0 [97, 98, 99])).take 4 = _
  rw [t _ _ _ (by decide) (by rw [hs, hl]; decide), List.take_append_of_le_length (by rw [h0]; decide)]
  show (putAt (headP 3 1) 16 (sealSlot [⟨#[107]⟩] 1 (sealI 1) 0)).take 4 = _
  rw [t _ _ _ (by decide) (by unfold sealSlot; rw [slotP_len, headP_len]; decide)]
  decide +kernel
set_option maxHeartbeats 4000000 in
set_option maxRecDepth 100000 in
/-- the fact on a sealed layer of three bytes -/
theorem locks_calls (w : World) : Calls Tryd.prog 6 #[] w fun e w' => e = .returned (.bool true) ∧ Below w.heap.size w w' := by
 have hke : lock_keys.f 20 [⟨#[107]⟩] = some 0 := by decide +kernel
 have HKE := Aside0.mk hke
 obtain ⟨X, hX⟩ : ∃ X, X = sealP [97, 98, 99] [⟨#[107]⟩] 1 := ⟨_, rfl⟩
 have hx := seal_abc
 rw [← hX] at hx
 have HX := Aside0.mk hx
 have HXE := Aside0.mk hX
 have HB := Aside0.mk (Below.refl w.heap.size w)
 have hlk : strOfNums [108, 111, 99, 107] = (⟨#[108, 111, 99, 107]⟩ : ByteArray) := by decide
 have HLK := Aside0.mk hlk
 clear hke hx hX hlk
 go_enter Tryd.func6, Tryd.ntmps6
 go_wp2_with (first
  | ((with_reducible refine gate_dst (N:=4) rfl ?_); refine Kd.C_litbytes (xs := ([97, 98, 99] : List Int)) (e := 5) rfl rfl (N:=4) rfl ?hr Tryd.underlying22 Tryd.underlying5 rfl (fun _ => rfl) (by simp) ?_; (case hr => first | (go_simp; done) | (go_simp; rfl)); intro AF cF w2 hn2 hc2 hb2; have HF2 := Aside0.mk (And.intro hn2 hc2); have HB2 := Aside0.mk (below_step HB.out hb2); clear hn2 hc2 hb2)
  | ((with_reducible refine gate_dst (N:=6) rfl ?_); refine Kd.R_lit Kd.string (w0 := w) w.heap.size 9 ?hg (N:=6) ?hd (xs := ([⟨#[107]⟩] : List ByteArray)) (inner := [.string ⟨#[107]⟩]) (ok := fun _ => True) (okp := fun _ => True) ?hr ?hp (fun _ hk => hk) trivial HB2.out HB2.out.size (by simp) ?_; (case hd => rfl); (case hg => rfl); (case hr => first | (go_simp; done) | (go_simp; rfl)); (case hp => exact ⟨rfl, fun j p hj => by match j, hj with | 0, hj => (obtain rfl := Option.some.inj hj; rfl)⟩); intro vG w3 hF3 hB3 hG3 hn3_; obtain ⟨AG, cG, eG⟩ := Kd.R_slice hF3; rw [show ([⟨#[107]⟩] : List ByteArray).length = 1 from rfl] at eG; subst eG; have HF3 := Aside0.mk (Kd.R_reads' hF3); have HC3 := Aside0.mk (Kd.C_below HF2.out.1 (kgrown_none hG3)); have HB3 := Aside0.mk hB3; clear hF3 hB3 hG3 hn3_)
  | (go_at_call 4; have hse := seal_calls AF cF [97, 98, 99] AG cG [⟨#[107]⟩] 1 _ HC3.out HF2.out.2 HF3.out.2.2 HF3.out.2.1 20 HKE.out (by decide) (fun i hi => by (obtain rfl : i = 0 := Nat.lt_one_iff.1 hi); decide) (by decide) (by decide); rw [← HXE.out] at hse; refine hse.mono ?_; rintro e w4 ⟨v4, rfl, hv4, hb4⟩; obtain ⟨A4, c4, e4⟩ := Kd.R_slice hv4; rw [HX.out.1] at e4; subst e4; have hr4 := Kd.R_reads' hv4; rw [HX.out.1] at hr4; have HB4 := Aside0.mk (below_step HB3.out hb4); obtain ⟨i5, hi5, hy5⟩ := Option.map_eq_some_iff.1 info5; simp only [Prod.mk.injEq] at hy5; have hcz : ∀ W : World, (Instr.slice 22 (.slice A4 131 c4) none (some (.int .i64 4)) none).run Tryd.prog W = .ok (.slice A4 4 c4) W := cut_to (P := Tryd.prog) 22 5 .i64 Tryd.underlying22 hi5 A4 131 c4 4 (by decide) (by decide) hr4.2.1; have hcv : (convert 22 9 (.slice A4 4 c4)).run Tryd.prog w4 = .ok (.string ⟨#[108, 111, 99, 107]⟩) w4 := by { have h4 : Kd.C (Kd.int .u8) w4 A4 (X.take 4).length (X.take 4) := Kd.C_take (m := 4) (by rw [HX.out.1]; exact hr4.2.2) (by rw [HX.out.1]; decide); have h5 := Kd.C_string (P := Tryd.prog) (c := c4) (xs := X.take 4) Tryd.underlying22 Tryd.underlying5 Tryd.underlying9 h4; rw [HX.out.2] at h5; rw [HLK.out] at h5; exact h5 }; clear hv4 hb4 hr4 hi5 hy5 hse)
  | (go_at_call 14; refine (Go.Proofs.YtagcaheopbmdiaaDoor.Pure.sources_calls _).mono ?_; rintro e w5 ⟨rfl, hb5⟩; have HB5 := Aside0.mk (below_step HB4.out hb5); clear hb5))
 go_ret
 exact ⟨rfl, HB5.out⟩
end Go.Proofs.YtagcaheopbmdiaaDoor.Lk
