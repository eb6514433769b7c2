/- What a source is to its readers. No condition. -/
import Derived.Test.YtagcaheopbmdiaaGreatYPureLockOpensB
import Derived.Outline
namespace Go.Proofs.YtagcaheopbmdiaaGreat.Pure
open Go Go.RowKit Go.Maps Go.Proofs.YtagcaheopbmdiaaGreat.QLockOpens Go.Proofs.YtagcaheopbmdiaaGreatW.PrintWords Go.Proofs.YtagcaheopbmdiaaGreatW.PrintLast Go.Proofs.YtagcaheopbmdiaaGreatW.PrintMore
set_option linter.unusedVariables false
set_option linter.unusedSimpArgs false
theorem q11a : type_of% @Aside0.mk := @Aside0.mk
/-- a span that is none of an image of so many bytes -/
def rightS (n : Nat) (x : S52) : Prop := 0 ≤ x.f0 ∧ 0 ≤ x.f1 ∧ x.f0 + x.f1 ≤ 65536 ∧ x.f0 + x.f1 ≤ n
instance (n : Nat) (x : S52) : Decidable (rightS n x) := by unfold rightS; exact inferInstance
def srcErr (n : Nat) (l : List S52) : Int := if n > 65536 then 2 else if (∀ x ∈ l, rightS n x) then 0 else 4
theorem rd_mem (l : List S52) (i : Nat) (h : i < l.length) : rd_T52 l (i : Int) ∈ l := by
 unfold rd_T52
 rw [Int.toNat_natCast, List.getD_eq_getElem?_getD, List.getElem?_eq_getElem h]
 exact List.getElem_mem h
theorem all_rd (l : List S52) (p : S52 → Prop) (h : ∀ j, j < l.length → p (rd_T52 l (j : Int))) : ∀ x ∈ l, p x := by
 intro x hx
 obtain ⟨j, hj, rfl⟩ := List.getElem_of_mem hx
 have := h j hj
 unfold rd_T52 at this
 rw [Int.toNat_natCast, List.getD_eq_getElem?_getD, List.getElem?_eq_getElem hj] at this
 exact this
/-- what Bad hands back -/
def BadEnd (w : World) (b : List Int) (l : List S52) (e : Ending) (w' : World) : Prop :=
 (srcErr b.length l = 0 → ∃ g A1 c1 A2 c2, e = .returned (.tuple #[.iface 79 (.pointer (some ⟨g, 0, none⟩)), .int .i64 0]) ∧ IsImg w' g A1 c1 b A2 c2 (normP l) ∧ Below w.heap.size w w') ∧
 (srcErr b.length l ≠ 0 → e = .returned (.tuple #[.nilIface, .int .i64 (srcErr b.length l)]) ∧ Below w.heap.size w w')
set_option maxHeartbeats 8000000 in
set_option maxRecDepth 100000 in
theorem bad_small (A : Option Addr) (c : Nat) (b : List Int) (A' : Option Addr) (c' : Nat) (l : List S52) (w : World) (hrb : Kd.C (Kd.int .u8) w A b.length b) (hcb : b.length ≤ c) (hrl : Kd.C k52 w A' l.length l) (hcl : l.length ≤ c') (hn : b.length ≤ 65536) (hl : l.length ≤ 8796093021952) :
  Calls Tryz.prog 17 #[.slice A b.length c, .slice A' l.length c'] w fun e w' => BadEnd w b l e w' := by
 obtain ⟨kn, hkn⟩ := (norm_ev l (by omega)).rounds
 have hF : slices_Clone_byte.f b = some b := by unfold slices_Clone_byte.f; rw [if_pos (by omega)]
 have HRB := q11a hrb
 have HRL := q11a hrl
 have HCB := q11a hcb
 have HCL := q11a hcl
 have HKN := q11a hkn
 have HF := q11a hF
 have h1 : decide ((65536 : Int) < (b.length : Int)) = false := decide_eq_false (by omega)
 have hu41 := Tryz.underlying52
 have hu73 := Tryz.underlying82
 have HB := q11a (Below.refl w.heap.size w)
 clear hrb hrl hcb hcl hkn hF
 go_enter Tryz.func17, Tryz.ntmps17
 go_wp2
 go_loopw [13] (fun vi wr => ∃ i : Nat, i ≤ l.length ∧ vi = .int .i64 (i : Int) ∧ Aside0 (∀ j, j < i → rightS b.length (rd_T52 l (j : Int))) ∧ Aside0 (Below w.heap.size w wr)) (fun vi _ => l.length - (intOf vi).toNat)
 case atStart => exact ⟨0, Nat.zero_le _, rfl, ⟨fun j hj => absurd hj (by omega)⟩, HB⟩
 case round =>
  clear HB
  obtain ⟨i, hi, rfl, hall, HB⟩ := hrel
  by_cases hlt : i < l.length
  ·
   have hlti : (i : Int) < (l.length : Int) := by omega
   have hnx : IntKind.i64.wrap ((i : Int) + 1) = (i : Int) + 1 := by rw [i64_w]; unfold wrap64; omega
   obtain ⟨ad, rfl, e0, e1⟩ := at_T52 (Kd.C_below HRL.out HB.out) (i : Int) (by omega) hlti
   rw [Int.toNat_natCast] at e0 e1
   have hmem := q11a (rd_mem l i hlt)
   obtain ⟨x, hx⟩ : ∃ x, x = rd_T52 l (i : Int) := ⟨_, rfl⟩
   rw [← hx] at e0 e1 hmem
   have hX0 := q11a (blk_new wr (.cells #[.int .i64 x.f0, .int .i64 x.f1] 52))
   have HB1 := q11a (below_alloc HB.out (.cells #[.int .i64 x.f0, .int .i64 x.f1] 52))
   have hcv := check_val x.f0 x.f1
   replace hx := q11a hx
   by_cases hr : 0 ≤ x.f0 ∧ 0 ≤ x.f1 ∧ x.f0 + x.f1 ≤ 65536
   ·
    rw [if_pos hr] at hcv
    have HCV := q11a hcv
    have hsum : IntKind.i64.wrap (x.f0 + x.f1) = x.f0 + x.f1 := by rw [i64_w]; unfold wrap64; omega
    by_cases hle : x.f0 + x.f1 ≤ (b.length : Int)
    ·
     have ht : decide ((b.length : Int) < x.f0 + x.f1) = false := decide_eq_false (by omega)
     have hok := q11a (show rightS b.length x from ⟨hr.1, hr.2.1, hr.2.2, hle⟩)
     clear hcv hr hle
     go_wp2_with (first
      | (go_at_call 36; refine (span_Check.calls x.f0 x.f1 0 _ HCV.out).mono ?_; rintro e w4 ⟨rfl, hb4⟩; have HB4 := q11a (below_step HB1.out hb4); have hX4 := blk_below hX0.out hb4; have x0 : w4.cell? ⟨wr.heap.size, 0, none⟩ = some (.int .i64 x.f0) := (blk_cell hX4 0).trans rfl; have x1 : w4.cell? ⟨wr.heap.size, 1, none⟩ = some (.int .i64 x.f1) := (blk_cell hX4 1).trans rfl; clear hb4 hX4 HB1 hX0))
     go_roundw
     case rel => exact ⟨i + 1, by omega, by go_num, ⟨fun j hj => by
      by_cases e : j = i
      · rw [e, ← hx.out]; exact hok.out
      · exact hall.out j (by omega)⟩, HB4⟩
     case measure => simp [intOf]; omega
    ·
     have ht : decide ((b.length : Int) < x.f0 + x.f1) = true := decide_eq_true (by omega)
     have hno := q11a (show ¬ rightS b.length x from fun h => hle h.2.2.2)
     clear hcv hr hle
     go_wp2_with (first
      | (go_at_call 36; refine (span_Check.calls x.f0 x.f1 0 _ HCV.out).mono ?_; rintro e w4 ⟨rfl, hb4⟩; have HB4 := q11a (below_step HB1.out hb4); have hX4 := blk_below hX0.out hb4; have x0 : w4.cell? ⟨wr.heap.size, 0, none⟩ = some (.int .i64 x.f0) := (blk_cell hX4 0).trans rfl; have x1 : w4.cell? ⟨wr.heap.size, 1, none⟩ = some (.int .i64 x.f1) := (blk_cell hX4 1).trans rfl; clear hb4 hX4 HB1 hX0))
     refine bodyPost_ret (v := .tuple #[.nilIface, .int .i64 4]) (by simp [results, Tryz.results17, go_sem]) rfl ?_
     have hse : srcErr b.length l = 4 := by unfold srcErr; rw [if_neg (by omega), if_neg (fun h => hno.out (h x hmem.out))]
     exact ⟨fun h => absurd h (by rw [hse]; decide), fun _ => ⟨by rw [hse], HB4.out⟩⟩
   ·
    rw [if_neg hr] at hcv
    have HCV := q11a hcv
    have hno := q11a (show ¬ rightS b.length x from fun h => hr ⟨h.1, h.2.1, h.2.2.1⟩)
    clear hcv hr
    go_wp2_with (first
     | (go_at_call 36; refine (span_Check.calls x.f0 x.f1 4 _ HCV.out).mono ?_; rintro e w4 ⟨rfl, hb4⟩; have HB4 := q11a (below_step HB1.out hb4); clear hb4 HB1 hX0))
    refine bodyPost_ret (v := .tuple #[.nilIface, .int .i64 4]) (by simp [results, Tryz.results17, go_sem]) rfl ?_
    have hse : srcErr b.length l = 4 := by unfold srcErr; rw [if_neg (by omega), if_neg (fun h => hno.out (h x hmem.out))]
    exact ⟨fun h => absurd h (by rw [hse]; decide), fun _ => ⟨by rw [hse], HB4.out⟩⟩
  ·
   obtain rfl : i = l.length := by omega
   go_wp2_with (first
    | (go_at_call 37; refine (slices_Clone_byte.calls A c b b _ (Kd.C_below HRB.out HB.out) HCB.out HF.out).mono ?_; rintro e w5 ⟨v1, rfl, hv1, hb5⟩; obtain ⟨A1, c1, e1⟩ := Kd.R_slice hv1; subst e1; have HB5 := q11a (below_step HB.out hb5); replace hv1 := q11a hv1; clear hb5 HB)
    | (go_at_call 34; refine (span_Norm.calls kn A' c' l (normP l) _ (Kd.C_below HRL.out HB5.out) HCL.out HKN.out).mono ?_; rintro e w6 ⟨v2, rfl, hv2, hb6⟩; obtain ⟨A2, c2, e2⟩ := Kd.R_slice hv2; subst e2; have HB6 := q11a (below_step HB5.out hb6); have hw1 := q11a (Kd.R_below hv1.out hb6); replace hv2 := q11a hv2; clear hb6 HB5 hv1))
   refine bodyPost_ret (v := .tuple #[.iface 79 (.pointer (some ⟨w6.heap.size, 0, none⟩)), .int .i64 0]) (by simp [results, Tryz.results17, go_sem]) rfl ?_
   have hse : srcErr b.length l = 0 := by unfold srcErr; rw [if_neg (by omega), if_pos (all_rd l _ hall.out)]
   have hal := below_alloc (Below.refl w6.heap.size w6) (.cells #[.slice A1 b.length c1, .slice A2 (normP l).length c2] 82)
   refine ⟨fun _ => ⟨w6.heap.size, A1, c1, A2, c2, rfl, ?_, below_step HB6.out hal⟩, fun h => absurd hse h⟩
   have r1 := Kd.R_reads' hw1.out
   have r2 := Kd.R_reads' hv2.out
   exact ⟨blk_new _ _, Kd.C_below r1.2.2 hal, r1.2.1, Kd.C_below r2.2.2 hal, r2.2.1⟩
end Go.Proofs.YtagcaheopbmdiaaGreat.Pure
namespace Go.Proofs.YtagcaheopbmdiaaGreat.Pure
open Go Go.RowKit Go.Maps Go.Proofs.YtagcaheopbmdiaaGreat.QLockOpens Go.Proofs.YtagcaheopbmdiaaGreatW.PrintWords Go.Proofs.YtagcaheopbmdiaaGreatW.PrintLast Go.Proofs.YtagcaheopbmdiaaGreatW.PrintMore
set_option linter.unusedVariables false
set_option linter.unusedSimpArgs false
/-- a method of a value of an interface, resolved -/
structure MethAt (T : Nat) (x : Value) (name : String) (f : Nat) : Prop where
 run : ∀ w, (method 259 T x name).run Tryz.prog w = .ok (f, x) w
 ahead : ∀ w, (nilAhead 259 T x name).run Tryz.prog w = .ok (some false) w
 ent : ∀ args w, (callFunc f args).run Tryz.prog w = .ok (.enter f args) w
/-- what a source's methods answer -/
structure SrcAns (x : Value) (fR fO fS fP : Nat) (b fr : List Int) (bad : List Bool) (W : World) : Prop where
 read : ∀ off k : Int, Calls Tryz.prog fR #[x, .int .i64 off, .int .i64 k] W fun e w' => ∃ v0, e = .returned (.tuple #[v0, .int .i64 (readErr b.length bad off k)]) ∧ (Kd.int .u8).R 5 w' W.heap.size (fun _ => True) v0 (readRow b bad off k) ∧ Below W.heap.size W w'
 road : ∀ off k : Int, Calls Tryz.prog fO #[x, .int .i64 off, .int .i64 k] W fun e w' => ∃ v0, e = .returned v0 ∧ k52.R 52 w' W.heap.size (fun _ => True) v0 (roadRow fr off k) ∧ Below W.heap.size W w'
 size : Calls Tryz.prog fS #[x] W fun e w' => e = .returned (.int .i64 (b.length : Int)) ∧ Below W.heap.size W w'
 plain : Calls Tryz.prog fP #[x] W fun e w' => e = .returned (.bool true) ∧ Below W.heap.size W w'
/-- a plain source of bytes, with the places of its bytes and those that cannot be read -/
structure SrcIs (w : World) (T : Nat) (x : Value) (fR fO fS fP : Nat) (b fr : List Int) (bad : List Bool) : Prop where
 mR : MethAt T x "Read" fR
 mO : MethAt T x "Road" fO
 mS : MethAt T x "Size" fS
 mP : MethAt T x "Plain" fP
 ans : ∀ W, Below w.heap.size w W → SrcAns x fR fO fS fP b fr bad W
theorem SrcIs.below {w W : World} {T : Nat} {x : Value} {fR fO fS fP : Nat} {b fr : List Int} {bad : List Bool} (h : SrcIs w T x fR fO fS fP b fr bad) (hb : Below w.heap.size w W) : SrcIs W T x fR fO fS fP b fr bad :=
 ⟨h.mR, h.mO, h.mS, h.mP, fun W' hb' => h.ans W' (below_step hb hb')⟩
/-- an image is such a source -/
theorem img_src {w : World} {g : Nat} {A : Option Addr} {c : Nat} {b : List Int} {A' : Option Addr} {c' : Nat} {l : List S52} (h : IsImg w g A c b A' c' (normP l)) (hn : b.length ≤ 65536) (hl : l.length ≤ 8796093021952) :
  SrcIs w 79 (.pointer (some ⟨g, 0, none⟩)) 118 119 120 117 b (idx b.length) (badOf b.length l) where
 mR := ⟨fun _ => by kernel_rfl, fun _ => by kernel_rfl, enters_of Tryz.func118 (by kernel_rfl) rfl⟩
 mO := ⟨fun _ => by kernel_rfl, fun _ => by kernel_rfl, enters_of Tryz.func119 (by kernel_rfl) rfl⟩
 mS := ⟨fun _ => by kernel_rfl, fun _ => by kernel_rfl, enters_of Tryz.func120 (by kernel_rfl) rfl⟩
 mP := ⟨fun _ => by kernel_rfl, fun _ => by kernel_rfl, enters_of Tryz.func117 (by kernel_rfl) rfl⟩
 ans := fun W hb => ⟨fun off k => img_read W g A c b A' c' l (h.below hb) hn hl off k, fun off k => img_road W g A c b A' c' (normP l) (h.below hb) hn off k, img_size W g A c b A' c' (normP l) (h.below hb), img_plain W g⟩
end Go.Proofs.YtagcaheopbmdiaaGreat.Pure
