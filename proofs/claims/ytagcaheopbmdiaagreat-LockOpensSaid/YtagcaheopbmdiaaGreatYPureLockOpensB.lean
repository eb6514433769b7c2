/- An image in memory: what its methods answer. No condition. -/
import Derived.Test.YtagcaheopbmdiaaGreatYPureLockOpensA
namespace Go.Proofs.YtagcaheopbmdiaaGreat.Pure
open Go Go.RowKit Go.Maps Go.Proofs.YtagcaheopbmdiaaGreat.QLockOpens Go.Proofs.YtagcaheopbmdiaaGreatW.PrintWords Go.Proofs.YtagcaheopbmdiaaGreatW.PrintLast Go.Proofs.YtagcaheopbmdiaaGreatW.PrintMore
set_option linter.unusedVariables false
set_option linter.unusedSimpArgs false
theorem q10a : type_of% @Aside0.mk := @Aside0.mk
theorem part_cut {w : World} {A0 : Option Addr} {len c0 off C : Nat} {b : List Int} (h : off + C ≤ len) (hc : len ≤ c0) (hb : b.length = len) : ∃ AP,
  (∀ W : World, (Instr.slice 22 (.slice A0 len c0) (some (.int .i64 (off : Int))) (some (.int .i64 ((off : Int) + (C : Int)))) none).run Tryz.prog W = .ok (.slice AP C (c0 - off)) W) ∧
  ∀ W : World, Kd.C (Kd.int .u8) W A0 len b → Kd.C (Kd.int .u8) W AP C ((b.drop off).take C) := by
 subst hb
 obtain ⟨i5, hi5, hy5⟩ := Option.map_eq_some_iff.1 info5
 simp only [Prod.mk.injEq] at hy5
 refine ⟨if c0 = off then A0 else A0.map (·.add (off * 1)), fun W => ?_, fun W hC => ?_⟩
 ·
  have h1 := cut_mid (P := Tryz.prog) 22 5 .i64 .i64 Tryz.underlying22 hi5 1 hy5.2.1 A0 b.length c0 (off : Int) ((off : Int) + (C : Int)) (by omega) (by omega) (by omega) hc W
  rw [Int.toNat_natCast, show ((off : Int) + (C : Int)).toNat = off + C by omega, Nat.add_sub_cancel_left] at h1
  exact h1
 ·
  have h1 := Kd.C_mid (lo := off) (hi := off + C) hC (by omega) h hc
  rw [List.drop_take, show off + C - off = C by omega] at h1
  rw [show ((b.drop off).take C).length = C by rw [List.length_take, List.length_drop]; omega] at h1
  exact h1
theorem none_below {w W : World} (h : w.grownBy W none) : Below w.heap.size w W := (Below.refl w.heap.size w).grown h (Nat.le_refl _) (fun k hk => by simp at hk)
/-- an image in memory -/
structure IsImg (w : World) (g : Nat) (A : Option Addr) (c : Nat) (b : List Int) (A' : Option Addr) (c' : Nat) (l : List S52) : Prop where
 blk : w.heap[g]? = some (.cells #[.slice A b.length c, .slice A' l.length c'] 82 (0, 0))
 rb : Kd.C (Kd.int .u8) w A b.length b
 cb : b.length ≤ c
 rl : Kd.C k52 w A' l.length l
 cl : l.length ≤ c'
theorem IsImg.below {w W : World} {g : Nat} {A : Option Addr} {c : Nat} {b : List Int} {A' : Option Addr} {c' : Nat} {l : List S52} (h : IsImg w g A c b A' c' l) (hb : Below w.heap.size w W) : IsImg W g A c b A' c' l :=
 ⟨blk_below h.blk hb, Kd.C_below h.rb hb, h.cb, Kd.C_below h.rl hb, h.cl⟩
theorem one_reps (w : World) (base : Nat) (ok : Nat → Prop) (off k : Int) : Reps (k52.M w base ok) k52.sz ([⟨off, k⟩] : List S52) [.int .i64 off, .int .i64 k] := by
 refine ⟨rfl, fun j p hj => ?_⟩
 match j, hj with
 | 0, hj =>
  obtain rfl := Option.some.inj hj
  exact k52_mkM w base ok (⟨off, k⟩ : S52)
theorem img_size (w : World) (g : Nat) (A : Option Addr) (c : Nat) (b : List Int) (A' : Option Addr) (c' : Nat) (l : List S52) (h : IsImg w g A c b A' c' l) :
  Calls Tryz.prog 120 #[.pointer (some ⟨g, 0, none⟩)] w fun e w' => e = .returned (.int .i64 (b.length : Int)) ∧ Below w.heap.size w w' := by
 have c0 : w.cell? ⟨g, 0, none⟩ = some (.slice A b.length c) := (blk_cell h.blk 0).trans rfl
 clear h
 go_enter Tryz.func120, Tryz.ntmps120
 go_wp2
 go_ret
 exact ⟨rfl, Below.refl _ _⟩
theorem img_plain (w : World) (g : Nat) :
  Calls Tryz.prog 117 #[.pointer (some ⟨g, 0, none⟩)] w fun e w' => e = .returned (.bool true) ∧ Below w.heap.size w w' := by
 go_enter Tryz.func117, Tryz.ntmps117
 go_wp2
 go_ret
 exact ⟨rfl, Below.refl _ _⟩
set_option maxHeartbeats 8000000 in
set_option maxRecDepth 100000 in
theorem img_road (w : World) (g : Nat) (A : Option Addr) (c : Nat) (b : List Int) (A' : Option Addr) (c' : Nat) (l : List S52) (h : IsImg w g A c b A' c' l) (hn : b.length ≤ 65536) (off k : Int) :
  Calls Tryz.prog 119 #[.pointer (some ⟨g, 0, none⟩), .int .i64 off, .int .i64 k] w fun e w' => ∃ v0, e = .returned v0 ∧ k52.R 52 w' w.heap.size (fun _ => True) v0 (roadRow (idx b.length) off k) ∧ Below w.heap.size w w' := by
 have c0 : w.cell? ⟨g, 0, none⟩ = some (.slice A b.length c) := (blk_cell h.blk 0).trans rfl
 have hwi := within_val b.length hn off k
 have HB := q10a (Below.refl w.heap.size w)
 by_cases hR : inR b.length off k
 ·
  rw [decide_eq_true hR] at hwi
  obtain ⟨kg, hkg⟩ := (glue_ev [⟨off, k⟩] (by simp)).rounds
  rw [road_one b.length hn off k hR] at hkg
  have hrr : roadRow (idx b.length) off k = gluedP [] (((idx b.length).drop off.toNat).take k.toNat) := by unfold roadRow; rw [idx_len, if_pos hR]
  rw [hrr]
  obtain ⟨road, hroad⟩ : ∃ r, r = gluedP [] (((idx b.length).drop off.toNat).take k.toNat) := ⟨_, rfl⟩
  rw [← hroad] at hkg ⊢
  have HWI := q10a hwi
  have HKG := q10a hkg
  clear h hwi hkg hR hrr hroad hn
  go_enter Tryz.func119, Tryz.ntmps119
  go_wp2_with (first
   | (go_at_call 121; refine (source_within.calls off k (b.length : Int) true _ HWI.out).mono ?_; rintro e w1 ⟨rfl, hd⟩; have HB1 := q10a (below_step HB.out hd.below); clear hd c0 HB)
   | ((with_reducible refine gate_dst (N:=19) rfl ?_); refine Kd.R_lit k52 (w0 := w) w.heap.size 52 ?hg (N:=19) ?hd (xs := ([⟨off, k⟩] : List S52)) (inner := [.int .i64 off, .int .i64 k]) (ok := fun _ => True) (okp := fun _ => True) ?hr (one_reps _ _ _ _ _) (fun _ hk => hk) trivial HB1.out HB1.out.size (by simp) ?_; (case hd => rfl); (case hg => rfl); (case hr => first | (go_simp; done) | (go_simp; rfl)); intro vF w2 hF2 hB2 hG2 hn2; obtain ⟨AF, cF, eF⟩ := Kd.R_slice hF2; rw [show ([⟨off, k⟩] : List S52).length = 1 from rfl] at eF; subst eF; replace hF2 := q10a hF2; replace hB2 := q10a hB2; clear hG2 hn2 HB1)
   | (go_at_call 116; refine (span_Glue.calls kg AF cF [⟨off, k⟩] road _ (Kd.R_reads' hF2.out).2.2 (Kd.R_reads' hF2.out).2.1 HKG.out).mono ?_; rintro e w3 ⟨v0, rfl, hv0, hb3⟩; have HB3 := q10a (below_step hB2.out hb3); have HV := q10a (Kd.R_lower hv0 hB2.out.size); clear hv0 hb3))
  go_ret
  exact ⟨_, rfl, HV.out, HB3.out⟩
 ·
  rw [decide_eq_false hR] at hwi
  have hrr : roadRow (idx b.length) off k = [] := by unfold roadRow; rw [idx_len, if_neg hR]
  rw [hrr]
  have HWI := q10a hwi
  clear h hwi hR hrr hn
  go_enter Tryz.func119, Tryz.ntmps119
  go_wp2_with (first
   | (go_at_call 121; refine (source_within.calls off k (b.length : Int) false _ HWI.out).mono ?_; rintro e w1 ⟨rfl, hd⟩; have HB1 := q10a (below_step HB.out hd.below); clear hd c0 HB))
  go_ret
  exact ⟨_, rfl, Kd.R_nil _ _ _ _ _, HB1.out⟩
set_option maxHeartbeats 8000000 in
set_option maxRecDepth 100000 in
theorem img_read (w : World) (g : Nat) (A : Option Addr) (c : Nat) (b : List Int) (A' : Option Addr) (c' : Nat) (l : List S52) (h : IsImg w g A c b A' c' (normP l)) (hn : b.length ≤ 65536) (hll : l.length ≤ 8796093021952) (off k : Int) :
  Calls Tryz.prog 118 #[.pointer (some ⟨g, 0, none⟩), .int .i64 off, .int .i64 k] w fun e w' => ∃ v0, e = .returned (.tuple #[v0, .int .i64 (readErr b.length (badOf b.length l) off k)]) ∧ (Kd.int .u8).R 5 w' w.heap.size (fun _ => True) v0 (readRow b (badOf b.length l) off k) ∧ Below w.heap.size w w' := by
 have c0 : w.cell? ⟨g, 0, none⟩ = some (.slice A b.length c) := (blk_cell h.blk 0).trans rfl
 have hwi := within_val b.length hn off k
 have HB := q10a (Below.refl w.heap.size w)
 have HI := q10a h
 have hnl := (norm_facts l).2.2.2
 by_cases hR : inR b.length off k
 ·
  rw [decide_eq_true hR] at hwi
  have hmh := meet_hit l b.length hn off k hR
  obtain ⟨km, hkm⟩ := (meet_ev (normP l) [⟨off, k⟩] (by simp only [List.length_cons, List.length_nil]; omega)).rounds
  obtain ⟨m, hm⟩ : ∃ m, m = meetP (normP (normP l)) (normP [⟨off, k⟩]) := ⟨_, rfl⟩
  rw [← hm] at hmh hkm
  have HWI := q10a hwi
  have HKM := q10a hkm
  by_cases hh : hit (badOf b.length l) off k = true
  ·
   have he : readErr b.length (badOf b.length l) off k = 19 := by unfold readErr; rw [if_pos hR, if_pos hh]
   have hr : readRow b (badOf b.length l) off k = [] := by unfold readRow; rw [he, if_neg (by decide)]
   rw [he, hr]
   have hml2 : 0 < m.length := List.length_pos_iff.mpr (hmh.mpr hh)
   have hml : decide ((0 : Int) < (m.length : Int)) = true := decide_eq_true (by omega)
   clear h hwi hkm hR hmh hh he hr hm hn hll
   go_enter Tryz.func118, Tryz.ntmps118
   go_wp2_with (first
    | (go_at_call 121; refine (source_within.calls off k (b.length : Int) true _ HWI.out).mono ?_; rintro e w1 ⟨rfl, hd⟩; have HB1 := q10a (below_step HB.out hd.below); have HI1 := q10a (HI.out.below hd.below); clear c0; have c1 : w1.cell? ⟨g, 1, none⟩ = some (.slice A' (normP l).length c') := (blk_cell HI1.out.blk 1).trans rfl; clear hd HB HI)
    | ((with_reducible refine gate_dst (N:=24) rfl ?_); refine Kd.R_lit k52 (w0 := w) w.heap.size 52 ?hg (N:=24) ?hd (xs := ([⟨off, k⟩] : List S52)) (inner := [.int .i64 off, .int .i64 k]) (ok := fun _ => True) (okp := fun _ => True) ?hr (one_reps _ _ _ _ _) (fun _ hk => hk) trivial HB1.out HB1.out.size (by simp) ?_; (case hd => rfl); (case hg => rfl); (case hr => first | (go_simp; done) | (go_simp; rfl)); intro vF w2 hF2 hB2 hG2 hn2; obtain ⟨AF, cF, eF⟩ := Kd.R_slice hF2; rw [show ([⟨off, k⟩] : List S52).length = 1 from rfl] at eF; subst eF; replace hF2 := q10a hF2; have HI2 := q10a (HI1.out.below (none_below hG2)); replace hB2 := q10a hB2; clear hG2 hn2 HB1 HI1 c1)
    | (go_at_call 16; refine (span_Meet.calls km A' c' (normP l) AF cF [⟨off, k⟩] m _ HI2.out.rl HI2.out.cl (Kd.R_reads' hF2.out).2.2 (Kd.R_reads' hF2.out).2.1 HKM.out).mono ?_; rintro e w3 ⟨v0, rfl, hv0, hb3⟩; obtain ⟨AM, cM, eM⟩ := Kd.R_slice hv0; subst eM; have HB3 := q10a (below_step hB2.out hb3); have HI3 := q10a (HI2.out.below hb3); clear hv0 hb3 HI2))
   refine bodyPost_ret (v := .tuple #[.slice none 0 0, .int .i64 19]) (by simp [results, Tryz.results118, go_sem]) rfl ?_
   exact ⟨_, rfl, Kd.R_nil _ _ _ _ _, HB3.out⟩
  ·
   have he : readErr b.length (badOf b.length l) off k = 0 := by unfold readErr; rw [if_pos hR, if_neg hh]
   have hr : readRow b (badOf b.length l) off k = (b.drop off.toNat).take k.toNat := by unfold readRow; rw [he, if_pos rfl]
   rw [he, hr]
   have hm0 : m = [] := by
    by_cases e : m = []
    · exact e
    · exact absurd (hmh.mp e) hh
   have hml2 : ¬ (0 < m.length) := by rw [hm0]; exact Nat.lt_irrefl 0
   have hml : decide ((0 : Int) < (m.length : Int)) = false := by rw [hm0]; rfl
   unfold inR at hR
   obtain ⟨o, rfl⟩ := Int.eq_ofNat_of_zero_le hR.1
   obtain ⟨n, rfl⟩ := Int.eq_ofNat_of_zero_le hR.2.1
   have hon : o + n ≤ b.length := by omega
   rw [Int.toNat_natCast, Int.toNat_natCast]
   obtain ⟨AP, hcut, hCP⟩ := part_cut (w := w) (A0 := A) hon h.cb rfl
   have hpl : ((b.drop o).take n).length = n := by rw [List.length_take, List.length_drop]; omega
   have hF : slices_Clone_byte.f ((b.drop o).take n) = some ((b.drop o).take n) := by unfold slices_Clone_byte.f; rw [if_pos (by omega)]
   have hccb := h.cb
   have hsum : IntKind.i64.wrap ((o : Int) + (n : Int)) = (o : Int) + (n : Int) := by rw [i64_w]; unfold wrap64; omega
   have hcl := fun W (hC : Kd.C (Kd.int .u8) W AP n ((b.drop o).take n)) => slices_Clone_byte.calls AP (c - o) ((b.drop o).take n) _ W (by rw [hpl]; exact hC) (by omega) hF
   rw [hpl] at hcl
   obtain ⟨part, hpart⟩ : ∃ p, p = (b.drop o).take n := ⟨_, rfl⟩
   rw [← hpart] at hcl hCP ⊢
   replace hcl := q10a hcl
   replace hCP := q10a hCP
   have hbl : b.length ≤ 65536 := hn
   clear h hwi hkm hR hmh hh he hr hm hll hF hpl hpart hm0
   go_enter Tryz.func118, Tryz.ntmps118
   go_wp2_with (first
    | (go_at_call 121; refine (source_within.calls (o : Int) (n : Int) (b.length : Int) true _ HWI.out).mono ?_; rintro e w1 ⟨rfl, hd⟩; have HB1 := q10a (below_step HB.out hd.below); have HI1 := q10a (HI.out.below hd.below); clear c0; have c1 : w1.cell? ⟨g, 1, none⟩ = some (.slice A' (normP l).length c') := (blk_cell HI1.out.blk 1).trans rfl; clear hd HB HI)
    | ((with_reducible refine gate_dst (N:=24) rfl ?_); refine Kd.R_lit k52 (w0 := w) w.heap.size 52 ?hg (N:=24) ?hd (xs := ([⟨(o : Int), (n : Int)⟩] : List S52)) (inner := [.int .i64 (o : Int), .int .i64 (n : Int)]) (ok := fun _ => True) (okp := fun _ => True) ?hr (one_reps _ _ _ _ _) (fun _ hk => hk) trivial HB1.out HB1.out.size (by simp) ?_; (case hd => rfl); (case hg => rfl); (case hr => first | (go_simp; done) | (go_simp; rfl)); intro vF w2 hF2 hB2 hG2 hn2; obtain ⟨AF, cF, eF⟩ := Kd.R_slice hF2; rw [show ([⟨(o : Int), (n : Int)⟩] : List S52).length = 1 from rfl] at eF; subst eF; replace hF2 := q10a hF2; have HI2 := q10a (HI1.out.below (none_below hG2)); replace hB2 := q10a hB2; clear hG2 hn2 HB1 HI1 c1)
    | (go_at_call 16; refine (span_Meet.calls km A' c' (normP l) AF cF [⟨(o : Int), (n : Int)⟩] m _ HI2.out.rl HI2.out.cl (Kd.R_reads' hF2.out).2.2 (Kd.R_reads' hF2.out).2.1 HKM.out).mono ?_; rintro e w3 ⟨v0, rfl, hv0, hb3⟩; obtain ⟨AM, cM, eM⟩ := Kd.R_slice hv0; subst eM; have HB3 := q10a (below_step hB2.out hb3); have HI3 := q10a (HI2.out.below hb3); have c3 : w3.cell? ⟨g, 0, none⟩ = some (.slice A b.length c) := (blk_cell HI3.out.blk 0).trans rfl; clear hv0 hb3 HI2)
    | (go_at_call 37; refine (hcl.out _ (hCP.out _ HI3.out.rb)).mono ?_; rintro e w4 ⟨v1, rfl, hv1, hb4⟩; have HB4 := q10a (below_step HB3.out hb4); have HV := q10a (Kd.R_lower hv1 HB3.out.size); clear hv1 hb4 c3))
   refine bodyPost_ret (v := .tuple #[v1, .int .i64 0]) (by simp [results, Tryz.results118, go_sem]) rfl ?_
   exact ⟨_, rfl, HV.out, HB4.out⟩
 ·
  rw [decide_eq_false hR] at hwi
  have he : readErr b.length (badOf b.length l) off k = 4 := by unfold readErr; rw [if_neg hR]
  have hr : readRow b (badOf b.length l) off k = [] := by unfold readRow; rw [he, if_neg (by decide)]
  rw [he, hr]
  have HWI := q10a hwi
  clear h hwi hR he hr hn hll
  go_enter Tryz.func118, Tryz.ntmps118
  go_wp2_with (first
   | (go_at_call 121; refine (source_within.calls off k (b.length : Int) false _ HWI.out).mono ?_; rintro e w1 ⟨rfl, hd⟩; have HB1 := q10a (below_step HB.out hd.below); clear hd c0 HB))
  refine bodyPost_ret (v := .tuple #[.slice none 0 0, .int .i64 4]) (by simp [results, Tryz.results118, go_sem]) rfl ?_
  exact ⟨_, rfl, Kd.R_nil _ _ _ _ _, HB1.out⟩
end Go.Proofs.YtagcaheopbmdiaaGreat.Pure
