/- Sources of bytes: the fact on a part of an image, closed. No condition. -/
import Derived.Test.YtagcaheopbmdiaaDoorYQLockSealsx0
import Derived.Test.YtagcaheopbmdiaaDoorYQLockSealsx1
import Derived.Test.YtagcaheopbmdiaaDoorYQLockSealsx2
import Derived.Test.YtagcaheopbmdiaaDoorYQLockSealsx3
import Derived.Test.YtagcaheopbmdiaaDoorYQLockSealsx4
import Derived.Test.YtagcaheopbmdiaaDoorYQLockSealsx5
import Derived.Test.YtagcaheopbmdiaaDoorYQLockSealsx6
import Derived.Test.YtagcaheopbmdiaaDoorYQLockSealsx7
import Derived.Test.YtagcaheopbmdiaaDoorYQLockSealsx8
import Derived.WalkLawsBesides
import Derived.LoopN
namespace Go.Proofs.YtagcaheopbmdiaaDoor.Pure
open Go Go.RowKit Go.Maps Go.Proofs.YtagcaheopbmdiaaDoor.QLockSeals Go.Proofs.YtagcaheopbmdiaaDoorW.PrintWords Go.Proofs.YtagcaheopbmdiaaDoorW.PrintLast Go.Proofs.YtagcaheopbmdiaaDoorW.PrintMore
set_option linter.unusedVariables false
set_option linter.unusedSimpArgs false
theorem q13a : type_of% @Aside0.mk := @Aside0.mk
theorem part_cut {w : World} {A0 : Option Addr} {len c0 off C : Nat} {b : List Int} (h : off + C ≤ len) (hc : len ≤ c0) (hb : b.length = len) : ∃ AP,
  (∀ W : World, (Instr.slice 22 (.slice A0 len c0) (some (.int .i64 (off : Int))) (some (.int .i64 ((off : Int) + (C : Int)))) none).run Tryd.prog W = .ok (.slice AP C (c0 - off)) W) ∧
  ∀ W : World, Kd.C (Kd.int .u8) W A0 len b → Kd.C (Kd.int .u8) W AP C ((b.drop off).take C) := by
 subst hb
 obtain ⟨i5, hi5, hy5⟩ := Option.map_eq_some_iff.1 info5
 simp only [Prod.mk.injEq] at hy5
 refine ⟨if c0 = off then A0 else A0.map (·.add (off * 1)), fun W => ?_, fun W hC => ?_⟩
 ·
  have h1 := cut_mid (P := Tryd.prog) 22 5 .i64 .i64 Tryd.underlying22 hi5 1 hy5.2.1 A0 b.length c0 (off : Int) ((off : Int) + (C : Int)) (by omega) (by omega) (by omega) hc W
  rw [Int.toNat_natCast, show ((off : Int) + (C : Int)).toNat = off + C by omega, Nat.add_sub_cancel_left] at h1
  exact h1
 ·
  have h1 := Kd.C_mid (lo := off) (hi := off + C) hC (by omega) h hc
  rw [List.drop_take, show off + C - off = C by omega] at h1
  rw [show ((b.drop off).take C).length = C by rw [List.length_take, List.length_drop]; omega] at h1
  exact h1
theorem none_below {w W : World} (h : w.grownBy W none) : Below w.heap.size w W := (Below.refl w.heap.size w).grown h (Nat.le_refl _) (fun k hk => by simp at hk)
/-- an image in memory -/
structure IsImg (w : World) (g : Nat) (A : Option Addr) (c : Nat) (b : List Int) (A' : Option Addr) (c' : Nat) (l : List S76) : Prop where
 blk : w.heap[g]? = some (.cells #[.slice A b.length c, .slice A' l.length c'] 82 (0, 0))
 rb : Kd.C (Kd.int .u8) w A b.length b
 cb : b.length ≤ c
 rl : Kd.C k76 w A' l.length l
 cl : l.length ≤ c'
theorem IsImg.below {w W : World} {g : Nat} {A : Option Addr} {c : Nat} {b : List Int} {A' : Option Addr} {c' : Nat} {l : List S76} (h : IsImg w g A c b A' c' l) (hb : Below w.heap.size w W) : IsImg W g A c b A' c' l :=
 ⟨blk_below h.blk hb, Kd.C_below h.rb hb, h.cb, Kd.C_below h.rl hb, h.cl⟩
theorem one_reps (w : World) (base : Nat) (ok : Nat → Prop) (off k : Int) : Reps (k76.M w base ok) k76.sz ([⟨off, k⟩] : List S76) [.int .i64 off, .int .i64 k] := by
 refine ⟨rfl, fun j p hj => ?_⟩
 match j, hj with
 | 0, hj =>
  obtain rfl := Option.some.inj hj
  exact k76_mkM w base ok (⟨off, k⟩ : S76)
set_option maxHeartbeats 8000000 in
set_option maxRecDepth 100000 in
theorem bad_lite (A : Option Addr) (c : Nat) (b : List Int) (w : World) (hrb : Kd.C (Kd.int .u8) w A b.length b) (hcb : b.length ≤ c) (hn : b.length ≤ 65536) :
  Calls Tryd.prog 35 #[.slice A b.length c, .slice none 0 0] w fun e w' => ∃ g A1 c1 A2 c2, e = .returned (.tuple #[.iface 78 (.pointer (some ⟨g, 0, none⟩)), .int .i64 0]) ∧ IsImg w' g A1 c1 b A2 c2 [] ∧ Below w.heap.size w w' := by
 have hkn : span_Norm.f 40 [] = some [] := by kernel_rfl
 have hF : slices_Clone_byte.f b = some b := by unfold slices_Clone_byte.f; rw [if_pos (by omega)]
 have HRB := q13a hrb
 have HCB := q13a hcb
 have HKN := q13a hkn
 have HF := q13a hF
 have h1 : decide ((65536 : Int) < (b.length : Int)) = false := decide_eq_false (by omega)
 have hu73 := Tryd.underlying82
 have HB := q13a (Below.refl w.heap.size w)
 clear hrb hcb hkn hF
 go_enter Tryd.func35, Tryd.ntmps35
 go_wp2
 go_loopw [13] (fun vi wr => vi = .int .i64 0 ∧ Aside0 (Below w.heap.size w wr)) (fun vi _ => 0)
 case atStart => exact ⟨rfl, HB⟩
 case round =>
  clear HB
  obtain ⟨rfl, HB⟩ := hrel
  go_wp2_with (first
   | (go_at_call 45; refine (slices_Clone_byte.calls A c b b _ (Kd.C_below HRB.out HB.out) HCB.out HF.out).mono ?_; rintro e w5 ⟨v1, rfl, hv1, hb5⟩; obtain ⟨A1, c1, e1⟩ := Kd.R_slice hv1; subst e1; have HB5 := q13a (below_step HB.out hb5); replace hv1 := q13a hv1; clear hb5 HB)
   | (go_at_call 46; refine (span_Norm.calls 40 none 0 [] [] _ (Kd.C_nil _ _) (Nat.le_refl _) HKN.out).mono ?_; rintro e w6 ⟨v2, rfl, hv2, hb6⟩; obtain ⟨A2, c2, e2⟩ := Kd.R_slice hv2; subst e2; have HB6 := q13a (below_step HB5.out hb6); have hw1 := q13a (Kd.R_below hv1.out hb6); replace hv2 := q13a hv2; clear hb6 HB5 hv1))
  refine bodyPost_ret (v := .tuple #[.iface 78 (.pointer (some ⟨w6.heap.size, 0, none⟩)), .int .i64 0]) (by simp [results, Tryd.results35, go_sem]) rfl ?_
  have hal := below_alloc (Below.refl w6.heap.size w6) (.cells #[.slice A1 b.length c1, .slice A2 ([] : List S76).length c2] 82)
  have r1 := Kd.R_reads' hw1.out
  have r2 := Kd.R_reads' hv2.out
  exact ⟨w6.heap.size, A1, c1, A2, c2, rfl, ⟨blk_new _ _, Kd.C_below r1.2.2 hal, r1.2.1, Kd.C_below r2.2.2 hal, r2.2.1⟩, below_step HB6.out hal⟩
theorem of_lite (A : Option Addr) (c : Nat) (b : List Int) (w : World) (hrb : Kd.C (Kd.int .u8) w A b.length b) (hcb : b.length ≤ c) (hn : b.length ≤ 65536) :
  Calls Tryd.prog 27 #[.slice A b.length c] w fun e w' => ∃ g A1 c1 A2 c2, e = .returned (.tuple #[.iface 78 (.pointer (some ⟨g, 0, none⟩)), .int .i64 0]) ∧ IsImg w' g A1 c1 b A2 c2 [] ∧ Below w.heap.size w w' := by
 have HB := q13a (bad_lite A c b w hrb hcb hn)
 clear hrb hn hcb
 go_enter Tryd.func27, Tryd.ntmps27
 go_wp2_with (first
  | (go_at_call 35; refine HB.out.mono ?_; rintro e w1 ⟨g, A1, c1, A2, c2, rfl, hI, hb1⟩; replace hI := q13a hI; have HB1 := q13a hb1; clear hb1))
 refine bodyPost_ret (v := .tuple #[.iface 78 (.pointer (some ⟨g, 0, none⟩)), .int .i64 0]) (by simp [results, Tryd.results27, go_sem]) rfl ?_
 exact ⟨g, A1, c1, A2, c2, rfl, hI.out, HB1.out⟩
set_option maxHeartbeats 8000000 in
set_option maxRecDepth 100000 in
theorem read_lite (w : World) (g : Nat) (A : Option Addr) (c : Nat) (A' : Option Addr) (c' : Nat) (h : IsImg w g A c [97, 98, 99, 100, 101, 102] A' c' []) :
  Calls Tryd.prog 109 #[.pointer (some ⟨g, 0, none⟩), .int .i64 1, .int .i64 2] w fun e w' => ∃ v0, e = .returned (.tuple #[v0, .int .i64 0]) ∧ (Kd.int .u8).R 5 w' w.heap.size (fun _ => True) v0 [98, 99] ∧ Below w.heap.size w w' := by
 have c0 : w.cell? ⟨g, 0, none⟩ = some (.slice A 6 c) := (blk_cell h.blk 0).trans rfl
 have HWI := q13a (show source_within.f 1 2 6 = some true by decide +kernel)
 have HKM := q13a (show span_Meet.f 40 [] [⟨1, 2⟩] = some [] by kernel_rfl)
 have HB := q13a (Below.refl w.heap.size w)
 have HI := q13a h
 obtain ⟨AP, hcut, hCP⟩ := part_cut (w := w) (A0 := A) (len := 6) (c0 := c) (off := 1) (C := 2) (b := [97, 98, 99, 100, 101, 102]) (by decide) h.cb rfl
 have hcut2 : ∀ W : World, (Instr.slice 22 (.slice A 6 c) (some (.int .i64 1)) (some (.int .i64 3)) none).run Tryd.prog W = .ok (.slice AP 2 (c - 1)) W := hcut
 have h6 : 6 ≤ c := h.cb
 have HCL := q13a (fun W (hC : Kd.C (Kd.int .u8) W AP 2 [98, 99]) => slices_Clone_byte.calls AP (c - 1) [98, 99] [98, 99] W hC (by show 2 ≤ c - 1; omega) (by unfold slices_Clone_byte.f; rw [if_pos (by decide)]))
 have HCP := q13a (show ∀ W : World, Kd.C (Kd.int .u8) W A 6 [97, 98, 99, 100, 101, 102] → Kd.C (Kd.int .u8) W AP 2 [98, 99] from hCP)
 clear h hcut hCP
 go_enter Tryd.func109, Tryd.ntmps109
 go_wp2_with (first
  | (go_at_call 112; refine (source_within.calls 1 2 6 true _ HWI.out).mono ?_; rintro e w1 ⟨rfl, hd⟩; have HB1 := q13a (below_step HB.out hd.below); have HI1 := q13a (HI.out.below hd.below); clear c0; have c1 : w1.cell? ⟨g, 1, none⟩ = some (.slice A' 0 c') := (blk_cell HI1.out.blk 1).trans rfl; clear hd HB HI)
  | ((with_reducible refine gate_dst (N:=24) rfl ?_); refine Kd.R_lit k76 (w0 := w) w.heap.size 76 ?hg (N:=24) ?hd (xs := ([⟨1, 2⟩] : List S76)) (inner := [.int .i64 1, .int .i64 2]) (ok := fun _ => True) (okp := fun _ => True) ?hr (one_reps _ _ _ _ _) (fun _ hk => hk) trivial HB1.out HB1.out.size (by simp) ?_; (case hd => rfl); (case hg => rfl); (case hr => first | (go_simp; done) | (go_simp; rfl)); intro vF w2 hF2 hB2 hG2 hn2; obtain ⟨AF, cF, eF⟩ := Kd.R_slice hF2; rw [show ([⟨1, 2⟩] : List S76).length = 1 from rfl] at eF; subst eF; replace hF2 := q13a hF2; have HI2 := q13a (HI1.out.below (none_below hG2)); replace hB2 := q13a hB2; clear hG2 hn2 HB1 HI1 c1)
  | (go_at_call 113; refine (span_Meet.calls 40 A' c' [] AF cF [⟨1, 2⟩] [] _ HI2.out.rl HI2.out.cl (Kd.R_reads' hF2.out).2.2 (Kd.R_reads' hF2.out).2.1 HKM.out).mono ?_; rintro e w3 ⟨v0, rfl, hv0, hb3⟩; obtain ⟨AM, cM, eM⟩ := Kd.R_slice hv0; rw [show ([] : List S76).length = 0 from rfl] at eM; subst eM; have HB3 := q13a (below_step hB2.out hb3); have HI3 := q13a (HI2.out.below hb3); have c3 : w3.cell? ⟨g, 0, none⟩ = some (.slice A 6 c) := (blk_cell HI3.out.blk 0).trans rfl; clear hv0 hb3 HI2)
  | (go_at_call 45; refine (HCL.out _ (HCP.out _ HI3.out.rb)).mono ?_; rintro e w4 ⟨v1, rfl, hv1, hb4⟩; have HB4 := q13a (below_step HB3.out hb4); have HV := q13a (Kd.R_lower hv1 HB3.out.size); clear hv1 hb4 c3))
 refine bodyPost_ret (v := .tuple #[v1, .int .i64 0]) (by simp [results, Tryd.results109, go_sem]) rfl ?_
 exact ⟨_, rfl, HV.out, HB4.out⟩
set_option maxHeartbeats 8000000 in
set_option maxRecDepth 100000 in
/-- the fact on a part of an image -/
theorem sources_calls (w : World) : Calls Tryd.prog 14 #[] w fun e w' => e = .returned (.bool true) ∧ Below w.heap.size w w' := by
 have HOF := q13a (fun A c W h0 h1 => of_lite A c [97, 98, 99, 100, 101, 102] W h0 h1 (by decide))
 have hss : strOfNums [98, 99] = ⟨#[98, 99]⟩ := by decide
 have HB := q13a (Below.refl w.heap.size w)
 go_enter Tryd.func14, Tryd.ntmps14
 go_wp2_with (first
  | ((with_reducible refine gate_dst (N:=6) rfl ?_); refine Kd.C_litbytes (xs := [97, 98, 99, 100, 101, 102]) (e := 5) rfl rfl (N:=6) rfl ?hr Tryd.underlying22 Tryd.underlying5 rfl (fun _ => rfl) (by simp) ?_; (case hr => first | (go_simp; done) | (go_simp; rfl)); intro A1 c1 w1 hC hc hb; have HB1 := q13a hb; have HC := q13a hC; have HCC := q13a hc; clear hC hc hb)
  | (go_at_call 27; refine (HOF.out A1 c1 _ HC.out HCC.out).mono ?_; rintro e w2 ⟨g, A2, c2, A3, c3, rfl, hI, hb2⟩; have HB2 := q13a (below_step HB1.out hb2); have hRr : ∀ w, (method 245 78 (.pointer (some ⟨g, 0, none⟩)) "Read").run Tryd.prog w = .ok (109, .pointer (some ⟨g, 0, none⟩)) w := (fun _ => by kernel_rfl); have hRe : ∀ args w, (callFunc 109 args).run Tryd.prog w = .ok (.enter 109 args) w := enters_of Tryd.func109 (by kernel_rfl) rfl; have hrd := q13a (read_lite _ _ _ _ _ _ hI); clear hI hb2)
  | (go_at_call 109; refine hrd.out.mono ?_; rintro e w3 ⟨v0, rfl, hv0, hb3⟩; obtain ⟨V0, d0, e0⟩ := Kd.R_slice hv0; rw [show ([98, 99] : List Int).length = 2 from rfl] at e0; subst e0; have HB3 := q13a (below_step HB2.out hb3); have hcv : (convert 22 9 (.slice V0 2 d0)).run Tryd.prog w3 = .ok (.string ⟨#[98, 99]⟩) w3 := (Kd.C_string (P := Tryd.prog) (c := d0) (xs := [98, 99]) Tryd.underlying22 Tryd.underlying5 Tryd.underlying9 (Kd.R_reads' hv0).2.2).trans (by rw [hss]); clear hv0 hb3))
 go_ret
 exact ⟨rfl, HB3.out⟩
end Go.Proofs.YtagcaheopbmdiaaDoor.Pure
