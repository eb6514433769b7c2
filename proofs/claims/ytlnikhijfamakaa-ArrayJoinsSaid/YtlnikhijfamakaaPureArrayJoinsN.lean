/- Arrays joined: the road of a whole. No condition. -/
import Derived.Test.YtlnikhijfamakaaPureArrayJoinsM
import Derived.WalkLawsBesides
import Derived.LoopN
namespace Go.Proofs.Ytlnikhijfamakaa.Pure
open Go.Proofs.Ytlnikhijfamakaa.ArrayPlain
open Go Go.RowKit Go.Maps Go.Proofs.Ytlnikhijfamakaa.QArrayJoins Go.Proofs.YtlnikhijfamakaaW.PrintWords Go.Proofs.YtlnikhijfamakaaW.PrintLast Go.Proofs.YtlnikhijfamakaaW.PrintMore
set_option linter.unusedVariables false
set_option linter.unusedSimpArgs false
/-- the whole's bytes: how many -/
def totW (k m s : Int) : Int := s * widthOf k m
def inW (t off n : Int) : Prop := 0 ≤ off ∧ 0 ≤ n ∧ n ≤ t ∧ off ≤ t - n
instance (t off n : Int) : Decidable (inW t off n) := by unfold inW; exact inferInstance
/-- all spans of a run of runs -/
def spansR (M : Nat) (s gone : Int) (R : List R3) : List S41 := R.flatMap fun q => atP M s gone q.f0 q.f1 q.f2
theorem take_R3 (R : List R3) (i : Nat) (h : i < R.length) : R.take (i + 1) = R.take i ++ [rd_R3 R (i : Int)] := by
  rw [List.take_add_one]
  simp [rd_R3, List.getD_eq_getElem?_getD, h]
theorem spans_take (M : Nat) (s gone : Int) (R : List R3) (i : Nat) (h : i < R.length) : spansR M s gone (R.take (i + 1)) = spansR M s gone (R.take i) ++ atP M s gone (rd_R3 R (i : Int)).f0 (rd_R3 R (i : Int)).f1 (rd_R3 R (i : Int)).f2 := by
  unfold spansR
  rw [take_R3 R i h, List.flatMap_append]
  simp
theorem atP_len (M : Nat) (hM : M ≤ 8) (s gone mI off n : Int) : (atP M s gone mI off n).length ≤ 8 := by
  have := atL_len s mI off n M
  unfold atP
  split
  · omega
  · simp
theorem spans_len (M : Nat) (hM : M ≤ 8) (s gone : Int) : ∀ R : List R3, (spansR M s gone R).length ≤ 8 * R.length
  | [] => Nat.le_refl _
  | q :: R => by
    have h1 := spans_len M hM s gone R
    have h2 := atP_len M hM s gone q.f0 q.f1 q.f2
    unfold spansR at h1 ⊢
    rw [List.flatMap_cons, List.length_append, List.length_cons]
    omega
theorem rd_R3_mem (R : List R3) (i : Nat) (h : i < R.length) : rd_R3 R (i : Int) ∈ R := by
  unfold rd_R3
  rw [Int.toNat_natCast, List.getD_eq_getElem?_getD, List.getElem?_eq_getElem h]
  exact List.getElem_mem h
/-- where the road's loop stands -/
def WRoad (W wr : World) (M : Nat) (s gone : Int) (R : List R3) (vi v : Value) : Prop := ∃ i : Nat, i ≤ R.length ∧ vi = .int .i64 (i : Int) ∧ Aside0 (k41.R 41 wr W.heap.size (fun _ => True) v (spansR M s gone (R.take i))) ∧ Aside0 (Below W.heap.size W wr)
set_option maxHeartbeats 8000000 in
set_option maxRecDepth 100000 in
theorem whole_road_in (w : World) (g : Nat) (k m c : Int) (l : Bool) (AM : Option Addr) (cM : Nat) (mm : List (List Int)) (s gone : Int) (h : IsWhole w g k m c l AM cM mm s gone) (hg : Good k m c l) (hM : mm.length ≤ 8) (hs0 : 0 ≤ s) (hs1 : s ≤ 65536) (o n : Int) (hR : inW (totW k m s) o n) (ht : totW k m s ≤ 65536)
    (hrun : ∀ q ∈ runF k m c l (firstP 0 mm) n.toNat o n, 0 ≤ q.f0 ∧ q.f0 ≤ 8 ∧ 0 ≤ q.f1 ∧ q.f1 ≤ 65536) :
    Calls Try.prog 110 #[.pointer (some ⟨g, 0, none⟩), .int .i64 o, .int .i64 n] w fun e w' => ∃ v0, e = .returned v0 ∧ k41.R 41 w' w.heap.size (fun _ => True) v0 (gluedP [] (laid (spansR mm.length s gone (runF k m c l (firstP 0 mm) n.toNat o n)))) ∧ Below w.heap.size w w' := by
  unfold inW at hR
  have hrl := runF_len k m c l (firstP 0 mm) n.toNat o n
  obtain ⟨R, hRe⟩ : ∃ R, R = runF k m c l (firstP 0 mm) n.toNat o n := ⟨_, rfl⟩
  have hruns := whole_runs w g k m c l AM cM mm s gone h hg hM o n hR.1 hR.2.1 (by omega)
  have HRUNS := Aside0.mk (fun W (hb : Below w.heap.size w W) => whole_runs W g k m c l AM cM mm s gone (h.below hb) hg hM o n hR.1 hR.2.1 (by omega))
  rw [← hRe] at hrun hrl HRUNS ⊢
  have hRl : R.length ≤ 65536 := by omega
  have hgl := glue_ev (spansR mm.length s gone R) (by have := spans_len mm.length hM s gone R; omega)
  obtain ⟨kg, hkg⟩ := hgl.rounds
  obtain ⟨road, hroad⟩ : ∃ r, r = gluedP [] (laid (spansR mm.length s gone R)) := ⟨_, rfl⟩
  rw [← hroad] at hkg ⊢
  have HKG := Aside0.mk hkg
  have HRN := Aside0.mk hrun
  have HI := Aside0.mk h
  have HSZ := Aside0.mk (fun W (hb : Below w.heap.size w W) => whole_size W g k m c l AM cM mm s gone (h.below hb) hg hs0 hs1)
  have HAT := Aside0.mk (fun W (hb : Below w.heap.size w W) mI off nn => whole_at W g k m c l AM cM mm s gone (h.below hb) hs0 hs1 hM mI off nn)
  have HSL := Aside0.mk (spans_len mm.length hM s gone)
  have HB := Aside0.mk (Below.refl w.heap.size w)
  obtain ⟨t, hte⟩ : ∃ t, t = totW k m s := ⟨_, rfl⟩
  rw [← hte] at hR ht
  have htw : s * widthOf k m = t := hte.symm
  rw [htw] at HSZ
  have t0 : decide (o < 0) = false := decide_eq_false (by omega)
  have t1 : decide (n < 0) = false := decide_eq_false (by omega)
  have t2 : decide (t < n) = false := decide_eq_false (by omega)
  have hws : IntKind.i64.wrap (t - n) = t - n := by rw [i64_w]; unfold wrap64; omega
  have t3 : decide (t - n < o) = false := decide_eq_false (by omega)
  clear h hg hM hs0 hs1 hR ht hrun hruns hrl hRe hgl hkg hroad hte htw
  go_enter Try.func110, Try.ntmps110
  go_wp2_with (first
    | (go_at_call 111; refine (HSZ.out _ HB.out).mono ?_; rintro e w1 ⟨rfl, hb1⟩; replace HB := Aside0.mk (below_step HB.out hb1); clear hb1)
    | (go_at_call 112; refine (HRUNS.out _ HB.out).mono ?_; rintro e w2 ⟨v2, rfl, hv2, hb2⟩; obtain ⟨AG, cG, eG⟩ := Kd.R_slice hv2; subst eG; have HB2 := Aside0.mk (below_step HB.out hb2); have HG2 := Aside0.mk (Kd.R_reads' hv2).2.2; clear hv2 hb2 HB))
  go_loopw [35, 7] (fun vi v wr => WRoad w2 wr mm.length s gone R vi v) (fun vi _ _ => R.length - (intOf vi).toNat)
  case atStart => exact ⟨0, Nat.zero_le _, rfl, ⟨by rw [List.take_zero]; exact Kd.R_nil _ _ _ _ _⟩, ⟨Below.refl _ _⟩⟩
  case round =>
    obtain ⟨i, hi, rfl, HO, HBr⟩ := hrel
    by_cases hlt : i < R.length
    · have hlti : (i : Int) < (R.length : Int) := by omega
      have hnx : IntKind.i64.wrap ((i : Int) + 1) = (i : Int) + 1 := by rw [i64_w]; unfold wrap64; omega
      obtain ⟨ad, rfl, e0, e1, e2⟩ := at_R3 (Kd.C_below HG2.out HBr.out) (i : Int) (by omega) hlti
      rw [Int.toNat_natCast] at e0 e1 e2
      have hqm := HRN.out _ (rd_R3_mem R i hlt)
      have hT := spans_take mm.length s gone R i hlt
      have hl1 := HSL.out (R.take (i + 1))
      rw [List.length_take] at hl1
      obtain ⟨q, hq⟩ : ∃ q, q = rd_R3 R (i : Int) := ⟨_, rfl⟩
      rw [← hq] at e0 e1 e2 hqm hT
      rw [hT, List.length_append] at hl1
      have hX0 := Aside0.mk (blk_new wr (.cells #[.int .i64 q.f0, .int .i64 q.f1, .int .i64 q.f2] 162))
      have hba := below_alloc (Below.refl wr.heap.size wr) (.cells #[.int .i64 q.f0, .int .i64 q.f1, .int .i64 q.f2] 162)
      have HB1 := Aside0.mk (below_step HBr.out hba)
      obtain ⟨AO, cO, eO⟩ := Kd.R_slice HO.out
      obtain ⟨O, hO⟩ : ∃ O, O = spansR mm.length s gone (R.take i) := ⟨_, rfl⟩
      rw [← hO] at HO hT eO hl1
      subst eO
      have HOl := Aside0.mk (Kd.R_below HO.out hba)
      have HRM := Aside0.mk (show (O.length + (atP mm.length s gone q.f0 q.f1 q.f2).length) * 16 ≤ 140737488355328 by omega)
      have HT := Aside0.mk hT
      have HQM := Aside0.mk hqm
      clear HO HBr hl1 hT hqm hba hq hO
      go_wp2_with (first
        | (go_at_call 113; refine (HAT.out _ (below_step HB2.out HB1.out) q.f0 q.f1 q.f2 HQM.out.1 HQM.out.2.1 HQM.out.2.2.1 HQM.out.2.2.2).mono ?_; rintro e w3 ⟨v3, rfl, hv3, hb3⟩; obtain ⟨A3, d3, e3⟩ := Kd.R_slice hv3; subst e3; have HB3 := Aside0.mk (below_step HB1.out hb3); have HO3 := Aside0.mk (Kd.R_below HOl.out hb3); have HV3 := Aside0.mk (Kd.R_reads' hv3).2.2; clear hv3 hb3)
        | (refine Kd.R_append_rows k41 (Rr := k41.K w3) (w0 := w2) w2.heap.size rfl (.tmp 39) (.tmp 47) 23 41 (.agg #[.int .i64 0, .int .i64 0]) 16 rfl Try.underlying23 info41 rfl (by decide) (by decide) (.slice AO O.length cO) O (atP mm.length s gone q.f0 q.f1 q.f2) A3 (atP mm.length s gone q.f0 q.f1 q.f2).length d3 (fun _ => True) (fun _ => False) rfl rfl HO3.out HV3.out (fun x cs h => (k41_open h) ▸ k41_mkM _ _ _ x) (fun _ h => h.elim) (fun _ _ => trivial) HB3.out HB3.out.size HRM.out ?_; intro v4 w4 HO4 HB4 hg4 hat4))
      go_roundw
      case rel => exact ⟨i + 1, by omega, by go_num, ⟨by rw [HT.out]; exact HO4⟩, ⟨HB4⟩⟩
      case measure => simp [intOf]; omega
    · obtain rfl : i = R.length := by omega
      rw [List.take_length] at HO
      have hkg := HKG.out
      obtain ⟨O, hO⟩ : ∃ O, O = spansR mm.length s gone R := ⟨_, rfl⟩
      rw [← hO] at HO hkg
      obtain ⟨AO, cO, eO⟩ := Kd.R_slice HO.out
      subst eO
      have HKO := Aside0.mk hkg
      replace HO := Aside0.mk (Kd.R_reads' HO.out)
      clear hO hkg
      go_wp2_with (first
        | (go_at_call 102; refine (span_Glue.calls kg AO cO O road _ HO.out.2.2 HO.out.2.1 HKO.out).mono ?_; rintro e w3 ⟨v0, rfl, hv0, hb3⟩; have HB3 := Aside0.mk (below_step HB2.out (below_step HBr.out hb3)); have HV := Aside0.mk (Kd.R_lower hv0 (below_step HB2.out HBr.out).size); clear hv0 hb3))
      go_ret
      exact ⟨_, rfl, HV.out, HB3.out⟩
end Go.Proofs.Ytlnikhijfamakaa.Pure
