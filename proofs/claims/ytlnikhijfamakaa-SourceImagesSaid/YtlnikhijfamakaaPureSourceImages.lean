/- The statement SourceImages, walked: for all bytes, spans and ranges the sources answer as the reference's models. No condition but what one argument may take. -/
import Derived.Test.YtlnikhijfamakaaPureSourceImagesF
import Derived.Outline
namespace Go.Proofs.Ytlnikhijfamakaa.Pure
open Go Go.RowKit Go.Maps Go.Proofs.Ytlnikhijfamakaa.QSourceImages Go.Proofs.YtlnikhijfamakaaW.PrintWords Go.Proofs.YtlnikhijfamakaaW.PrintLast Go.Proofs.YtlnikhijfamakaaW.PrintMore
set_option linter.unusedVariables false
set_option linter.unusedSimpArgs false
theorem hit_none (n : Nat) (off k : Int) : hit (badOf n []) off k = false := by
  unfold hit
  rw [List.any_eq_false]
  intro x hx
  have h1 := List.mem_of_mem_drop (List.mem_of_mem_take hx)
  unfold badOf at h1
  obtain ⟨i, _, rfl⟩ := List.mem_map.1 h1
  simp [isBad, oks]
theorem all_err (n : Nat) : readErr n (badOf n []) 0 (n : Int) = 0 := by
  unfold readErr
  rw [if_pos ⟨by omega, by omega, by omega⟩, hit_none, if_neg (by decide)]
theorem all_row (b : List Int) : readRow b (badOf b.length []) 0 (b.length : Int) = b := by
  unfold readRow
  rw [all_err, if_pos rfl]
  simp
set_option maxHeartbeats 4000000 in
set_option maxRecDepth 100000 in
theorem si_large (A0 : Option Addr) (c0 n : Nat) (A1 : Option Addr) (c1 m : Nat) (off k : Int) (w : World) (hn : 65536 < n) :
    Calls Try.prog 3 #[.slice A0 n c0, .slice A1 m c1, .int .i64 off, .int .i64 k] w fun e w' => e = .returned (.bool true) ∧ Below w.heap.size w w' := by
  have HBAD := Aside0.mk (fun W => bad_large A0 c0 n A1 c1 m W hn)
  have HOF := Aside0.mk (fun W => of_large A0 c0 n W hn)
  have h1 : decide ((65536 : Int) < (n : Int)) = true := decide_eq_true (by omega)
  clear hn
  go_enter Try.func3, Try.ntmps3
  go_wp2_with (first
    | (go_at_call 7; refine (HBAD.out _).mono ?_; rintro e w1 ⟨rfl, hb1⟩; have HB1 := Aside0.mk hb1; clear hb1)
    | (go_at_call 8; refine (HOF.out _).mono ?_; rintro e w2 ⟨rfl, hb2⟩; have HB2 := Aside0.mk (below_step HB1.out hb2); clear hb2)
    | (go_at_call 9; refine (sources_calls _).mono ?_; rintro e w3 ⟨rfl, hb3⟩; have HB3 := Aside0.mk (below_step HB2.out hb3); clear hb3))
  go_ret
  exact ⟨rfl, HB3.out⟩
set_option maxHeartbeats 16000000 in
set_option maxRecDepth 100000 in
theorem si_good (A0 : Option Addr) (c0 : Nat) (b : List Int) (A1 : Option Addr) (c1 : Nat) (l : List S41) (off k : Int) (w : World) (hrb : Kd.C (Kd.int .u8) w A0 b.length b) (hcb : b.length ≤ c0) (hrl : Kd.C k41 w A1 l.length l) (hcl : l.length ≤ c1) (hn : b.length ≤ 65536) (hl : l.length ≤ 8796093021952) (hE : srcErr b.length l = 0) :
    Calls Try.prog 3 #[.slice A0 b.length c0, .slice A1 l.length c1, .int .i64 off, .int .i64 k] w fun e w' => e = .returned (.bool true) ∧ Below w.heap.size w w' := by
  have hbad := bad_small A0 c0 b A1 c1 l w hrb hcb hrl hcl hn hl
  have hof := fun W h => of_calls A0 c0 b W h hcb hn
  have him := fun W => image_calls A0 c0 b none 0 [] W (Kd.C_nil _ _) (Nat.le_refl _) hn (by simp)
  have himl := fun W h => image_calls A0 c0 b A1 c1 l W h hcl hn hl
  obtain ⟨ke, hke⟩ := (equalB_ev b (by omega)).rounds
  have HBAD := Aside0.mk hbad
  have HOF := Aside0.mk hof
  have HIM := Aside0.mk him
  have HIML := Aside0.mk himl
  have HKE := Aside0.mk hke
  have HRB := Aside0.mk hrb
  have HRL := Aside0.mk hrl
  have HCB := Aside0.mk hcb
  have HN := Aside0.mk hn
  have HL := Aside0.mk hl
  have HE := Aside0.mk hE
  have h1 : decide ((65536 : Int) < (b.length : Int)) = false := decide_eq_false (by omega)
  clear hbad hof him himl hke hrb hrl hcb hcl hE
  go_enter Try.func3, Try.ntmps3
  go_wp2_with (first
    | (go_at_call 7; refine HBAD.out.mono ?_; rintro e w1 ⟨h1_, _⟩; obtain ⟨gS, B1, d1, B2, d2, rfl, hS, hb1⟩ := h1_ HE.out; have HB1 := Aside0.mk hb1; replace hS := Aside0.mk hS; clear hb1 h1_)
    | (go_at_call 8; refine (HOF.out _ (Kd.C_below HRB.out HB1.out)).mono ?_; rintro e w2 ⟨gT, B3, d3, B4, d4, rfl, hT, hb2⟩; have HB2 := Aside0.mk (below_step HB1.out hb2); replace hS := Aside0.mk (hS.out.below hb2); replace hT := Aside0.mk hT; clear hb2)
    | (go_at_call 9; refine (sources_calls _).mono ?_; rintro e w3 ⟨rfl, hb3⟩; have HB3 := Aside0.mk (below_step HB2.out hb3); replace hS := Aside0.mk (hS.out.below hb3); replace hT := Aside0.mk (hT.out.below hb3); clear hb3)
    | (go_at_call 10; refine (HIM.out _).mono ?_; rintro e w4 ⟨V1, e1, V2, e2, rfl, hC1, hl1, hC2, hb4⟩; have HB4 := Aside0.mk (below_step HB3.out hb4); replace hS := Aside0.mk (hS.out.below hb4); replace hT := Aside0.mk (hT.out.below hb4); have hi1 := Aside0.mk (And.intro hC1 (And.intro hl1 hC2)); clear hC1 hl1 hC2 hb4)
    | (go_at_call 11; refine (is_calls _ _ _ _ _ _ _ b (idx b.length) (badOf b.length []) (img_src hT.out HN.out (by simp)) A0 V1 V2 c0 e1 e2 off k (idx_len _) (badOf_len _ _) HN.out HCB.out hi1.out.2.1 (Kd.C_below HRB.out HB4.out) hi1.out.1 hi1.out.2.2 (idx_in _ HN.out)).mono ?_; rintro e w5 ⟨rfl, hb5⟩; have HB5 := Aside0.mk (below_step HB4.out hb5); replace hS := Aside0.mk (hS.out.below hb5); replace hT := Aside0.mk (hT.out.below hb5); clear hb5 hi1)
    | (go_at_call 12; refine (all_calls _ _ _ _ _ _ _ b (idx b.length) (badOf b.length []) (img_src hT.out HN.out (by simp))).mono ?_; rintro e w6 ⟨v6, rfl, hv6, hb6⟩; rw [all_err]; rw [all_row] at hv6; obtain ⟨V6, d6, e6⟩ := Kd.R_slice hv6; subst e6; have HB6 := Aside0.mk (below_step HB5.out hb6); replace hS := Aside0.mk (hS.out.below hb6); replace hv6 := Aside0.mk (Kd.R_reads' hv6); clear hb6 hT)
    | (go_at_call 13; refine (slices_Equal_byte_byte.calls ke V6 d6 b A0 c0 b true _ hv6.out.2.2 hv6.out.2.1 (Kd.C_below HRB.out HB6.out) HCB.out HKE.out).mono ?_; rintro e w7 ⟨rfl, hb7⟩; have HB7 := Aside0.mk (below_step HB6.out hb7.below); replace hS := Aside0.mk (hS.out.below hb7.below); clear hb7 hv6))
  go_loopw [77] (fun vi wr => ∃ i : Nat, i ≤ l.length ∧ vi = .int .i64 (i : Int) ∧ Aside0 (∀ j, j < i → rightS b.length (rd_T41 l (j : Int))) ∧ Aside0 (Below w.heap.size w wr) ∧ Aside0 (IsImg wr gS B1 d1 b B2 d2 (normP l))) (fun vi _ => l.length - (intOf vi).toNat)
  case atStart => exact ⟨0, Nat.zero_le _, rfl, ⟨fun j hj => absurd hj (by omega)⟩, HB7, hS⟩
  case round =>
    clear HB7 hS
    obtain ⟨i, hi, rfl, hall, HB, hS⟩ := hrel
    by_cases hlt : i < l.length
    · have hlti : (i : Int) < (l.length : Int) := by omega
      have hnx : IntKind.i64.wrap ((i : Int) + 1) = (i : Int) + 1 := by rw [i64_w]; unfold wrap64; omega
      obtain ⟨ad, rfl, e0, e1⟩ := at_T41 (Kd.C_below HRL.out HB.out) (i : Int) (by omega) hlti
      rw [Int.toNat_natCast] at e0 e1
      have hmem := Aside0.mk (rd_mem l i hlt)
      obtain ⟨x, hx⟩ : ∃ x, x = rd_T41 l (i : Int) := ⟨_, rfl⟩
      rw [← hx] at e0 e1 hmem
      have hX0 := Aside0.mk (blk_new wr (.cells #[.int .i64 x.f0, .int .i64 x.f1] 41))
      have HB1 := Aside0.mk (below_alloc HB.out (.cells #[.int .i64 x.f0, .int .i64 x.f1] 41))
      replace hS := Aside0.mk (hS.out.below (below_alloc (Below.refl wr.heap.size wr) (.cells #[.int .i64 x.f0, .int .i64 x.f1] 41)))
      have hok := Aside0.mk (show rightS b.length x by
        have h2 := HE.out
        unfold srcErr at h2
        rw [if_neg (by omega)] at h2
        by_cases h : ∀ y ∈ l, rightS b.length y
        · exact h x hmem.out
        · rw [if_neg h] at h2; exact absurd h2 (by decide))
      have hr := hok.out
      unfold rightS at hr
      have hrv := right_val x
      rw [decide_eq_true ⟨hr.1, hr.2.1, hr.2.2.1⟩] at hrv
      have HRV := Aside0.mk hrv
      have hsum : IntKind.i64.wrap (x.f0 + x.f1) = x.f0 + x.f1 := by rw [i64_w]; unfold wrap64; omega
      have ht : decide ((b.length : Int) < x.f0 + x.f1) = false := decide_eq_false (by omega)
      replace hx := Aside0.mk hx
      clear hr hrv
      go_wp2_with (first
        | (go_at_call 14; refine (wrackref1_Right.calls x.f0 x.f1 true _ HRV.out).mono ?_; rintro e w4 ⟨rfl, hb4⟩; have HB4 := Aside0.mk (below_step HB1.out hb4); replace hS := Aside0.mk (hS.out.below hb4); have hX4 := blk_below hX0.out hb4; have x0 : w4.cell? ⟨wr.heap.size, 0, none⟩ = some (.int .i64 x.f0) := (blk_cell hX4 0).trans rfl; have x1 : w4.cell? ⟨wr.heap.size, 1, none⟩ = some (.int .i64 x.f1) := (blk_cell hX4 1).trans rfl; clear hb4 hX4 HB1 hX0))
      go_roundw
      case rel => exact ⟨i + 1, by omega, by go_num, ⟨fun j hj => by
        by_cases e : j = i
        · rw [e, ← hx.out]; exact hok.out
        · exact hall.out j (by omega)⟩, HB4, hS⟩
      case measure => simp [intOf]; omega
    · obtain rfl : i = l.length := by omega
      go_wp2_with (first
        | (go_at_call 10; refine (HIML.out _ (Kd.C_below HRL.out HB.out)).mono ?_; rintro e w8 ⟨V1, e1, V2, e2, rfl, hC1, hl1, hC2, hb8⟩; have HB8 := Aside0.mk (below_step HB.out hb8); replace hS := Aside0.mk (hS.out.below hb8); have hi1 := Aside0.mk (And.intro hC1 (And.intro hl1 hC2)); clear hC1 hl1 hC2 hb8)
        | (go_at_call 11; refine (is_calls _ _ _ _ _ _ _ b (idx b.length) (badOf b.length l) (img_src hS.out HN.out HL.out) A0 V1 V2 c0 e1 e2 off k (idx_len _) (badOf_len _ _) HN.out HCB.out hi1.out.2.1 (Kd.C_below HRB.out HB8.out) hi1.out.1 hi1.out.2.2 (idx_in _ HN.out)).mono ?_; rintro e w9 ⟨rfl, hb9⟩; have HB9 := Aside0.mk (below_step HB8.out hb9); clear hb9 hi1))
      go_ret
      exact ⟨rfl, HB9.out⟩
set_option maxHeartbeats 16000000 in
set_option maxRecDepth 100000 in
theorem si_wrong (A0 : Option Addr) (c0 : Nat) (b : List Int) (A1 : Option Addr) (c1 : Nat) (l : List S41) (off k : Int) (w : World) (hrb : Kd.C (Kd.int .u8) w A0 b.length b) (hcb : b.length ≤ c0) (hrl : Kd.C k41 w A1 l.length l) (hcl : l.length ≤ c1) (hn : b.length ≤ 65536) (hl : l.length ≤ 8796093021952) (hE : srcErr b.length l ≠ 0) :
    Calls Try.prog 3 #[.slice A0 b.length c0, .slice A1 l.length c1, .int .i64 off, .int .i64 k] w fun e w' => e = .returned (.bool true) ∧ Below w.heap.size w w' := by
  have hE4 : srcErr b.length l = 4 := by
    unfold srcErr at hE ⊢
    rw [if_neg (by omega)] at hE ⊢
    by_cases h : ∀ x ∈ l, rightS b.length x
    · rw [if_pos h] at hE; exact absurd rfl hE
    · rw [if_neg h]
  have hbad := bad_small A0 c0 b A1 c1 l w hrb hcb hrl hcl hn hl
  have hof := fun W h => of_calls A0 c0 b W h hcb hn
  have him := fun W => image_calls A0 c0 b none 0 [] W (Kd.C_nil _ _) (Nat.le_refl _) hn (by simp)
  have himl := fun W h => image_calls A0 c0 b A1 c1 l W h hcl hn hl
  obtain ⟨ke, hke⟩ := (equalB_ev b (by omega)).rounds
  have HBAD := Aside0.mk hbad
  have HOF := Aside0.mk hof
  have HIM := Aside0.mk him
  have HIML := Aside0.mk himl
  have HKE := Aside0.mk hke
  have HRB := Aside0.mk hrb
  have HRL := Aside0.mk hrl
  have HCB := Aside0.mk hcb
  have HN := Aside0.mk hn
  have HL := Aside0.mk hl
  have HE := Aside0.mk hE
  have h1 : decide ((65536 : Int) < (b.length : Int)) = false := decide_eq_false (by omega)
  have HE4 := Aside0.mk hE4
  clear hE4
  clear hbad hof him himl hke hrb hrl hcb hcl hE
  go_enter Try.func3, Try.ntmps3
  go_wp2_with (first
    | (go_at_call 7; refine HBAD.out.mono ?_; rintro e w1 ⟨_, h2_⟩; obtain ⟨rfl, hb1⟩ := h2_ HE.out; rw [HE4.out]; have HB1 := Aside0.mk hb1; clear hb1 h2_)
    | (go_at_call 8; refine (HOF.out _ (Kd.C_below HRB.out HB1.out)).mono ?_; rintro e w2 ⟨gT, B3, d3, B4, d4, rfl, hT, hb2⟩; have HB2 := Aside0.mk (below_step HB1.out hb2); replace hT := Aside0.mk hT; clear hb2)
    | (go_at_call 9; refine (sources_calls _).mono ?_; rintro e w3 ⟨rfl, hb3⟩; have HB3 := Aside0.mk (below_step HB2.out hb3); replace hT := Aside0.mk (hT.out.below hb3); clear hb3)
    | (go_at_call 10; refine (HIM.out _).mono ?_; rintro e w4 ⟨V1, e1, V2, e2, rfl, hC1, hl1, hC2, hb4⟩; have HB4 := Aside0.mk (below_step HB3.out hb4); replace hT := Aside0.mk (hT.out.below hb4); have hi1 := Aside0.mk (And.intro hC1 (And.intro hl1 hC2)); clear hC1 hl1 hC2 hb4)
    | (go_at_call 11; refine (is_calls _ _ _ _ _ _ _ b (idx b.length) (badOf b.length []) (img_src hT.out HN.out (by simp)) A0 V1 V2 c0 e1 e2 off k (idx_len _) (badOf_len _ _) HN.out HCB.out hi1.out.2.1 (Kd.C_below HRB.out HB4.out) hi1.out.1 hi1.out.2.2 (idx_in _ HN.out)).mono ?_; rintro e w5 ⟨rfl, hb5⟩; have HB5 := Aside0.mk (below_step HB4.out hb5); replace hT := Aside0.mk (hT.out.below hb5); clear hb5 hi1)
    | (go_at_call 12; refine (all_calls _ _ _ _ _ _ _ b (idx b.length) (badOf b.length []) (img_src hT.out HN.out (by simp))).mono ?_; rintro e w6 ⟨v6, rfl, hv6, hb6⟩; rw [all_err]; rw [all_row] at hv6; obtain ⟨V6, d6, e6⟩ := Kd.R_slice hv6; subst e6; have HB6 := Aside0.mk (below_step HB5.out hb6); replace hv6 := Aside0.mk (Kd.R_reads' hv6); clear hb6 hT)
    | (go_at_call 13; refine (slices_Equal_byte_byte.calls ke V6 d6 b A0 c0 b true _ hv6.out.2.2 hv6.out.2.1 (Kd.C_below HRB.out HB6.out) HCB.out HKE.out).mono ?_; rintro e w7 ⟨rfl, hb7⟩; have HB7 := Aside0.mk (below_step HB6.out hb7.below); clear hb7 hv6))
  go_loopw [77] (fun vi wr => ∃ i : Nat, i ≤ l.length ∧ vi = .int .i64 (i : Int) ∧ Aside0 (∀ j, j < i → rightS b.length (rd_T41 l (j : Int))) ∧ Aside0 (Below w.heap.size w wr)) (fun vi _ => l.length - (intOf vi).toNat)
  case atStart => exact ⟨0, Nat.zero_le _, rfl, ⟨fun j hj => absurd hj (by omega)⟩, HB7⟩
  case round =>
    clear HB7
    obtain ⟨i, hi, rfl, hall, HB⟩ := hrel
    by_cases hlt : i < l.length
    · have hlti : (i : Int) < (l.length : Int) := by omega
      have hnx : IntKind.i64.wrap ((i : Int) + 1) = (i : Int) + 1 := by rw [i64_w]; unfold wrap64; omega
      obtain ⟨ad, rfl, e0, e1⟩ := at_T41 (Kd.C_below HRL.out HB.out) (i : Int) (by omega) hlti
      rw [Int.toNat_natCast] at e0 e1
      have hmem := Aside0.mk (rd_mem l i hlt)
      obtain ⟨x, hx⟩ : ∃ x, x = rd_T41 l (i : Int) := ⟨_, rfl⟩
      rw [← hx] at e0 e1 hmem
      have hX0 := Aside0.mk (blk_new wr (.cells #[.int .i64 x.f0, .int .i64 x.f1] 41))
      have HB1 := Aside0.mk (below_alloc HB.out (.cells #[.int .i64 x.f0, .int .i64 x.f1] 41))
      have hrv := right_val x
      by_cases hr : 0 ≤ x.f0 ∧ 0 ≤ x.f1 ∧ x.f0 + x.f1 ≤ 65536
      · rw [decide_eq_true hr] at hrv
        have HRV := Aside0.mk hrv
        have hsum : IntKind.i64.wrap (x.f0 + x.f1) = x.f0 + x.f1 := by rw [i64_w]; unfold wrap64; omega
        by_cases hle : x.f0 + x.f1 ≤ (b.length : Int)
        · have ht : decide ((b.length : Int) < x.f0 + x.f1) = false := decide_eq_false (by omega)
          have hok := Aside0.mk (show rightS b.length x from ⟨hr.1, hr.2.1, hr.2.2, hle⟩)
          replace hx := Aside0.mk hx
          clear hrv hr hle
          go_wp2_with (first
            | (go_at_call 14; refine (wrackref1_Right.calls x.f0 x.f1 true _ HRV.out).mono ?_; rintro e w4 ⟨rfl, hb4⟩; have HB4 := Aside0.mk (below_step HB1.out hb4); have hX4 := blk_below hX0.out hb4; have x0 : w4.cell? ⟨wr.heap.size, 0, none⟩ = some (.int .i64 x.f0) := (blk_cell hX4 0).trans rfl; have x1 : w4.cell? ⟨wr.heap.size, 1, none⟩ = some (.int .i64 x.f1) := (blk_cell hX4 1).trans rfl; clear hb4 hX4 HB1 hX0))
          go_roundw
          case rel => exact ⟨i + 1, by omega, by go_num, ⟨fun j hj => by
            by_cases e : j = i
            · rw [e, ← hx.out]; exact hok.out
            · exact hall.out j (by omega)⟩, HB4⟩
          case measure => simp [intOf]; omega
        · have ht : decide ((b.length : Int) < x.f0 + x.f1) = true := decide_eq_true (by omega)
          replace hx := Aside0.mk hx
          clear hrv hr hle
          go_wp2_with (first
            | (go_at_call 14; refine (wrackref1_Right.calls x.f0 x.f1 true _ HRV.out).mono ?_; rintro e w4 ⟨rfl, hb4⟩; have HB4 := Aside0.mk (below_step HB1.out hb4); have hX4 := blk_below hX0.out hb4; have x0 : w4.cell? ⟨wr.heap.size, 0, none⟩ = some (.int .i64 x.f0) := (blk_cell hX4 0).trans rfl; have x1 : w4.cell? ⟨wr.heap.size, 1, none⟩ = some (.int .i64 x.f1) := (blk_cell hX4 1).trans rfl; clear hb4 hX4 HB1 hX0))
          go_ret
          exact ⟨rfl, HB4.out⟩
      · rw [decide_eq_false hr] at hrv
        have HRV := Aside0.mk hrv
        replace hx := Aside0.mk hx
        clear hrv hr
        go_wp2_with (first
          | (go_at_call 14; refine (wrackref1_Right.calls x.f0 x.f1 false _ HRV.out).mono ?_; rintro e w4 ⟨rfl, hb4⟩; have HB4 := Aside0.mk (below_step HB1.out hb4); have hX4 := blk_below hX0.out hb4; have x0 : w4.cell? ⟨wr.heap.size, 0, none⟩ = some (.int .i64 x.f0) := (blk_cell hX4 0).trans rfl; have x1 : w4.cell? ⟨wr.heap.size, 1, none⟩ = some (.int .i64 x.f1) := (blk_cell hX4 1).trans rfl; clear hb4 hX4 HB1 hX0))
        go_ret
        exact ⟨rfl, HB4.out⟩
    · exfalso
      have h2 := HE.out
      unfold srcErr at h2
      rw [if_neg (by omega), if_pos (all_rd l _ (fun j hj => hall.out j (by omega)))] at h2
      exact h2 rfl
/-- all bytes, spans and ranges -/
theorem si_main (A0 : Option Addr) (c0 : Nat) (b : List Int) (A1 : Option Addr) (c1 : Nat) (l : List S41) (off k : Int) (w : World) (hrb : Kd.C (Kd.int .u8) w A0 b.length b) (hcb : b.length ≤ c0) (hrl : Kd.C k41 w A1 l.length l) (hcl : l.length ≤ c1) (hl : l.length * 16 ≤ 140737488351232) :
    Calls Try.prog 3 #[.slice A0 b.length c0, .slice A1 l.length c1, .int .i64 off, .int .i64 k] w fun e w' => e = .returned (.bool true) ∧ Below w.heap.size w w' := by
  by_cases hn : b.length ≤ 65536
  · by_cases hE : srcErr b.length l = 0
    · exact si_good A0 c0 b A1 c1 l off k w hrb hcb hrl hcl hn (by omega) hE
    · exact si_wrong A0 c0 b A1 c1 l off k w hrb hcb hrl hcl hn (by omega) hE
  · exact si_large A0 c0 b.length A1 c1 l.length off k w (by omega)
end Go.Proofs.Ytlnikhijfamakaa.Pure
