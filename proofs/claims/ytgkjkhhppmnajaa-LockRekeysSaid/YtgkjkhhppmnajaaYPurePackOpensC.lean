/- Sources that are made of bytes. No condition. -/
import Derived.Test.YtgkjkhhppmnajaaYPurePackOpensB
import Derived.Outline
namespace Go.Proofs.Ytgkjkhhppmnajaa.Pure
open Go Go.RowKit Go.Maps Go.Proofs.Ytgkjkhhppmnajaa.QPackOpens Go.Proofs.YtgkjkhhppmnajaaW.PrintWords Go.Proofs.YtgkjkhhppmnajaaW.PrintLast Go.Proofs.YtgkjkhhppmnajaaW.PrintMore
set_option linter.unusedVariables false
set_option linter.unusedSimpArgs false
theorem q1ja : type_of% @Aside0.mk := @Aside0.mk
/-- a span that is none of an image of so many bytes -/
def rightS (n : Nat) (x : S45) : Prop := 0 ≤ x.f0 ∧ 0 ≤ x.f1 ∧ x.f0 + x.f1 ≤ 65536 ∧ x.f0 + x.f1 ≤ n
instance (n : Nat) (x : S45) : Decidable (rightS n x) := by unfold rightS; exact inferInstance
def srcErr (n : Nat) (l : List S45) : Int := if n > 65536 then 2 else if (∀ x ∈ l, rightS n x) then 0 else 4
theorem rd_mem (l : List S45) (i : Nat) (h : i < l.length) : rd_T45 l (i : Int) ∈ l := by
 unfold rd_T45
 rw [Int.toNat_natCast, List.getD_eq_getElem?_getD, List.getElem?_eq_getElem h]
 exact List.getElem_mem h
theorem all_rd (l : List S45) (p : S45 → Prop) (h : ∀ j, j < l.length → p (rd_T45 l (j : Int))) : ∀ x ∈ l, p x := by
 intro x hx
 obtain ⟨j, hj, rfl⟩ := List.getElem_of_mem hx
 have := h j hj
 unfold rd_T45 at this
 rw [Int.toNat_natCast, List.getD_eq_getElem?_getD, List.getElem?_eq_getElem hj] at this
 exact this
/-- what Bad hands back -/
def BadEnd (w : World) (b : List Int) (l : List S45) (e : Ending) (w' : World) : Prop :=
 (srcErr b.length l = 0 → ∃ g A1 c1 A2 c2, e = .returned (.tuple #[.iface 121 (.pointer (some ⟨g, 0, none⟩)), .int .i64 0]) ∧ IsImg w' g A1 c1 b A2 c2 (normP l) ∧ Below w.heap.size w w') ∧
 (srcErr b.length l ≠ 0 → e = .returned (.tuple #[.nilIface, .int .i64 (srcErr b.length l)]) ∧ Below w.heap.size w w')
set_option maxHeartbeats 8000000 in
set_option maxRecDepth 100000 in
theorem bad_small (A : Option Addr) (c : Nat) (b : List Int) (A' : Option Addr) (c' : Nat) (l : List S45) (w : World) (hrb : Kd.C (Kd.int .u8) w A b.length b) (hcb : b.length ≤ c) (hrl : Kd.C k45 w A' l.length l) (hcl : l.length ≤ c') (hn : b.length ≤ 65536) (hl : l.length ≤ 8796093021952) :
  Calls Try.prog 35 #[.slice A b.length c, .slice A' l.length c'] w fun e w' => BadEnd w b l e w' := by
 obtain ⟨kn, hkn⟩ := (norm_ev l (by omega)).rounds
 have hF : slices_Clone_byte.f b = some b := by unfold slices_Clone_byte.f; rw [if_pos (by omega)]
 have HRB := q1ja hrb
 have HRL := q1ja hrl
 have HCB := q1ja hcb
 have HCL := q1ja hcl
 have HKN := q1ja hkn
 have HF := q1ja hF
 have h1 : decide ((65536 : Int) < (b.length : Int)) = false := decide_eq_false (by omega)
 have hu41 := Try.underlying45
 have hu73 := Try.underlying123
 have HB := q1ja (Below.refl w.heap.size w)
 clear hrb hrl hcb hcl hkn hF
 go_enter Try.func35, Try.ntmps35
 go_wp2
 go_loopw [13] (fun vi wr => ∃ i : Nat, i ≤ l.length ∧ vi = .int .i64 (i : Int) ∧ Aside0 (∀ j, j < i → rightS b.length (rd_T45 l (j : Int))) ∧ Aside0 (Below w.heap.size w wr)) (fun vi _ => l.length - (intOf vi).toNat)
 case atStart => exact ⟨0, Nat.zero_le _, rfl, ⟨fun j hj => absurd hj (by omega)⟩, HB⟩
 case round =>
  clear HB
  obtain ⟨i, hi, rfl, hall, HB⟩ := hrel
  by_cases hlt : i < l.length
  ·
   have hlti : (i : Int) < (l.length : Int) := by omega
   have hnx : IntKind.i64.wrap ((i : Int) + 1) = (i : Int) + 1 := by rw [i64_w]; unfold wrap64; omega
   obtain ⟨ad, rfl, e0, e1⟩ := at_T45 (Kd.C_below HRL.out HB.out) (i : Int) (by omega) hlti
   rw [Int.toNat_natCast] at e0 e1
   have hmem := q1ja (rd_mem l i hlt)
   obtain ⟨x, hx⟩ : ∃ x, x = rd_T45 l (i : Int) := ⟨_, rfl⟩
   rw [← hx] at e0 e1 hmem
   have hX0 := q1ja (blk_new wr (.cells #[.int .i64 x.f0, .int .i64 x.f1] 45))
   have HB1 := q1ja (below_alloc HB.out (.cells #[.int .i64 x.f0, .int .i64 x.f1] 45))
   have hcv := check_val x.f0 x.f1
   replace hx := q1ja hx
   by_cases hr : 0 ≤ x.f0 ∧ 0 ≤ x.f1 ∧ x.f0 + x.f1 ≤ 65536
   ·
    rw [if_pos hr] at hcv
    have HCV := q1ja hcv
    have hsum : IntKind.i64.wrap (x.f0 + x.f1) = x.f0 + x.f1 := by rw [i64_w]; unfold wrap64; omega
    by_cases hle : x.f0 + x.f1 ≤ (b.length : Int)
    ·
     have ht : decide ((b.length : Int) < x.f0 + x.f1) = false := decide_eq_false (by omega)
     have hok := q1ja (show rightS b.length x from ⟨hr.1, hr.2.1, hr.2.2, hle⟩)
     clear hcv hr hle
     go_wp2_with (first
      | (go_at_call 71; refine (span_Check.calls x.f0 x.f1 0 _ HCV.out).mono ?_; rintro e w4 ⟨rfl, hb4⟩; have HB4 := q1ja (below_step HB1.out hb4); have hX4 := blk_below hX0.out hb4; have x0 : w4.cell? ⟨wr.heap.size, 0, none⟩ = some (.int .i64 x.f0) := (blk_cell hX4 0).trans rfl; have x1 : w4.cell? ⟨wr.heap.size, 1, none⟩ = some (.int .i64 x.f1) := (blk_cell hX4 1).trans rfl; clear hb4 hX4 HB1 hX0))
     go_roundw
     case rel => exact ⟨i + 1, by omega, by go_num, ⟨fun j hj => by
      by_cases e : j = i
      · rw [e, ← hx.out]; exact hok.out
      · exact hall.out j (by omega)⟩, HB4⟩
     case measure => simp [intOf]; omega
    ·
     have ht : decide ((b.length : Int) < x.f0 + x.f1) = true := decide_eq_true (by omega)
     have hno := q1ja (show ¬ rightS b.length x from fun h => hle h.2.2.2)
     clear hcv hr hle
     go_wp2_with (first
      | (go_at_call 71; refine (span_Check.calls x.f0 x.f1 0 _ HCV.out).mono ?_; rintro e w4 ⟨rfl, hb4⟩; have HB4 := q1ja (below_step HB1.out hb4); have hX4 := blk_below hX0.out hb4; have x0 : w4.cell? ⟨wr.heap.size, 0, none⟩ = some (.int .i64 x.f0) := (blk_cell hX4 0).trans rfl; have x1 : w4.cell? ⟨wr.heap.size, 1, none⟩ = some (.int .i64 x.f1) := (blk_cell hX4 1).trans rfl; clear hb4 hX4 HB1 hX0))
     refine bodyPost_ret (v := .tuple #[.nilIface, .int .i64 4]) (by simp [results, Try.results35, go_sem]) rfl ?_
     have hse : srcErr b.length l = 4 := by unfold srcErr; rw [if_neg (by omega), if_neg (fun h => hno.out (h x hmem.out))]
     exact ⟨fun h => absurd h (by rw [hse]; decide), fun _ => ⟨by rw [hse], HB4.out⟩⟩
   ·
    rw [if_neg hr] at hcv
    have HCV := q1ja hcv
    have hno := q1ja (show ¬ rightS b.length x from fun h => hr ⟨h.1, h.2.1, h.2.2.1⟩)
    clear hcv hr
    go_wp2_with (first
     | (go_at_call 71; refine (span_Check.calls x.f0 x.f1 4 _ HCV.out).mono ?_; rintro e w4 ⟨rfl, hb4⟩; have HB4 := q1ja (below_step HB1.out hb4); clear hb4 HB1 hX0))
    refine bodyPost_ret (v := .tuple #[.nilIface, .int .i64 4]) (by simp [results, Try.results35, go_sem]) rfl ?_
    have hse : srcErr b.length l = 4 := by unfold srcErr; rw [if_neg (by omega), if_neg (fun h => hno.out (h x hmem.out))]
    exact ⟨fun h => absurd h (by rw [hse]; decide), fun _ => ⟨by rw [hse], HB4.out⟩⟩
  ·
   obtain rfl : i = l.length := by omega
   go_wp2_with (first
    | (go_at_call 52; refine (slices_Clone_byte.calls A c b b _ (Kd.C_below HRB.out HB.out) HCB.out HF.out).mono ?_; rintro e w5 ⟨v1, rfl, hv1, hb5⟩; obtain ⟨A1, c1, e1⟩ := Kd.R_slice hv1; subst e1; have HB5 := q1ja (below_step HB.out hb5); replace hv1 := q1ja hv1; clear hb5 HB)
    | (go_at_call 69; refine (span_Norm.calls kn A' c' l (normP l) _ (Kd.C_below HRL.out HB5.out) HCL.out HKN.out).mono ?_; rintro e w6 ⟨v2, rfl, hv2, hb6⟩; obtain ⟨A2, c2, e2⟩ := Kd.R_slice hv2; subst e2; have HB6 := q1ja (below_step HB5.out hb6); have hw1 := q1ja (Kd.R_below hv1.out hb6); replace hv2 := q1ja hv2; clear hb6 HB5 hv1))
   refine bodyPost_ret (v := .tuple #[.iface 121 (.pointer (some ⟨w6.heap.size, 0, none⟩)), .int .i64 0]) (by simp [results, Try.results35, go_sem]) rfl ?_
   have hse : srcErr b.length l = 0 := by unfold srcErr; rw [if_neg (by omega), if_pos (all_rd l _ hall.out)]
   have hal := below_alloc (Below.refl w6.heap.size w6) (.cells #[.slice A1 b.length c1, .slice A2 (normP l).length c2] 123)
   refine ⟨fun _ => ⟨w6.heap.size, A1, c1, A2, c2, rfl, ?_, below_step HB6.out hal⟩, fun h => absurd hse h⟩
   have r1 := Kd.R_reads' hw1.out
   have r2 := Kd.R_reads' hv2.out
   exact ⟨blk_new _ _, Kd.C_below r1.2.2 hal, r1.2.1, Kd.C_below r2.2.2 hal, r2.2.1⟩
end Go.Proofs.Ytgkjkhhppmnajaa.Pure
