/- The fact on the order of three blocks; rows of whole numbers that are equal. No condition. -/
import Derived.Test.YtdgkbpoljcndgaaPurePassRunsD
namespace Go.Proofs.Ytdgkbpoljcndgaa.Pure
open Go Go.RowKit Go.Maps Go.Proofs.Ytdgkbpoljcndgaa.QPassRuns Go.Proofs.YtdgkbpoljcndgaaW.PrintWords Go.Proofs.YtdgkbpoljcndgaaW.PrintLast Go.Proofs.YtdgkbpoljcndgaaW.PrintMore
set_option linter.unusedVariables false
set_option linter.unusedSimpArgs false
theorem equalI_l0 (xs : List Int) (hn : xs.length ≤ 4611686018427387904) : ∀ (d i : Nat), i + d = xs.length →
    Ev (fun k => slices_Equal_int_int.l0 k xs xs (xs.length : Int) (i : Int)) true
  | 0, i, hi => by
    refine Ev.step (f := fun _ => some _) (fun k => ?_) (Ev.now _)
    simp only [slices_Equal_int_int.l0]
    rw [if_neg (by omega)]
  | d + 1, i, hi => by
    refine Ev.step (fun k => ?_) (equalI_l0 xs hn d (i + 1) (by omega))
    simp only [slices_Equal_int_int.l0]
    rw [if_pos (by omega), if_pos (by omega), if_pos (by omega), if_pos (by omega), up i xs.length (by omega) hn]
    simp
theorem equalI_ev (xs : List Int) (hn : xs.length ≤ 4611686018427387904) : Ev (fun k => slices_Equal_int_int.f k xs xs) true := by
  refine Ev.congr (fun k => ?_) (equalI_l0 xs hn xs.length 0 (by omega))
  unfold slices_Equal_int_int.f
  rw [if_pos rfl]; rfl
theorem passed_rd : (passes (List.replicate 192 0) [⟨0, 1, 0⟩] ((List.replicate 192 (0 : Int)).length / 64) 1 1).rd = [0, 2, 1] := by decide +kernel
theorem passed_len : (passes (List.replicate 192 0) [⟨0, 1, 0⟩] ((List.replicate 192 (0 : Int)).length / 64) 1 1).rd.length = 3 := by rw [passed_rd]; rfl
theorem lit3_C {W : World} {g : Nat} (h : W.heap[g]? = some (.cells #[.int .i64 0, .int .i64 2, .int .i64 1] 3 (0, 0))) : Kd.C (Kd.int .i64) W (some ⟨g, 0, none⟩) 3 [0, 2, 1] := by
  have h0 : W.cell? ⟨g, 0, none⟩ = some (.int .i64 0) := (blk_cell h 0).trans rfl
  have h1 : W.cell? ⟨g, 1, none⟩ = some (.int .i64 2) := (blk_cell h 1).trans rfl
  have h2 : W.cell? ⟨g, 2, none⟩ = some (.int .i64 1) := (blk_cell h 2).trans rfl
  refine ⟨rfl, by decide, fun _ => ⟨_, rfl, fun j p hj => ?_⟩⟩
  match j, hj with
  | 0, hj => obtain rfl := Option.some.inj hj; exact ⟨[.int .i64 0], rfl, rfl, fun i u hu => by match i, hu with | 0, hu => obtain rfl := Option.some.inj hu; exact h0⟩
  | 1, hj => obtain rfl := Option.some.inj hj; exact ⟨[.int .i64 2], rfl, rfl, fun i u hu => by match i, hu with | 0, hu => obtain rfl := Option.some.inj hu; exact h1⟩
  | 2, hj => obtain rfl := Option.some.inj hj; exact ⟨[.int .i64 1], rfl, rfl, fun i u hu => by match i, hu with | 0, hu => obtain rfl := Option.some.inj hu; exact h2⟩
theorem fault_reps (w : World) (base : Nat) (ok : Nat → Prop) : Reps (k121.M w base ok) k121.sz ([⟨0, 1, 0⟩] : List S121) [.int .i64 0, .int .i64 1, .int .i64 0] := by
  refine ⟨rfl, fun j p hj => ?_⟩
  match j, hj with
  | 0, hj =>
    obtain rfl := Option.some.inj hj
    exact k121_mkM w base ok (⟨0, 1, 0⟩ : S121)
set_option maxHeartbeats 8000000 in
set_option maxRecDepth 100000 in
/-- the fact on the order of three blocks -/
theorem passed_calls (w : World) : Calls Try.prog 55 #[] w fun e w' => e = .returned (.bool true) ∧ Below w.heap.size w w' := by
  have herr : errD (List.replicate 192 0) [⟨0, 1, 0⟩] = 0 := by decide +kernel
  obtain ⟨kq, hkq⟩ := (equalI_ev [0, 2, 1] (by decide)).rounds
  have hrd := Aside0.mk passed_rd
  obtain ⟨fin, hfin⟩ : ∃ f, passes (List.replicate 192 0) [⟨0, 1, 0⟩] ((List.replicate 192 (0 : Int)).length / 64) 1 1 = f := ⟨_, rfl⟩
  have hrun := fun A0 c0 A1 c1 W p0 p1 p2 p3 => run_ok A0 c0 (List.replicate 192 0) A1 c1 [⟨0, 1, 0⟩] 1 1 W p0 p1 p2 p3 (by decide) herr (by decide)
  rw [hfin] at hrun
  replace hrd : Aside0 (fin.rd = [0, 2, 1]) := ⟨by rw [← hfin]; exact passed_rd⟩
  have HRUN := Aside0.mk hrun
  have HKQ := Aside0.mk hkq
  have hu46 := Try.underlying46
  have hu80 := Try.underlying80
  have hu82 := Try.underlying82
  have hu121 := Try.underlying121
  clear hrun hkq herr hfin
  have HB := Aside0.mk (Below.refl w.heap.size w)
  go_enter Try.func55, Try.ntmps55
  go_wp2_with (first
    | ((with_reducible refine gate_dst (N := 4) rfl ?_); refine Kd.R_make (Kd.int .u8) (w0 := w) w.heap.size 5 rfl (N := 4) rfl 22 _ _ rfl (192 : Int) rfl rfl Try.underlying22 (.int .u8 0) 1 info5 rfl (by decide) (by decide) 0 (ok := fun _ => True) (okp := fun _ => True) rfl (fun _ hk => hk) trivial (by decide) (by decide) HB.out (Nat.le_refl _) ?_; intro vD w1 hD1 hB1 hG1 hn1; obtain ⟨AD, cD, eD⟩ := Kd.R_slice hD1; rw [show (List.replicate (192 : Int).toNat (0 : Int)).length = 192 by simp] at eD; subst eD; replace hD1 := Aside0.mk hD1; replace hB1 := Aside0.mk hB1; clear hG1 hn1)
    | ((with_reducible refine gate_dst (N := 6) rfl ?_); refine Kd.R_lit k121 (w0 := w) w.heap.size 121 ?hg (N := 6) ?hd (xs := ([⟨0, 1, 0⟩] : List S121)) (inner := [.int .i64 0, .int .i64 1, .int .i64 0]) (ok := fun _ => True) (okp := fun _ => True) ?hr (fault_reps _ _ _) (fun _ hk => hk) trivial hB1.out hB1.out.size (by simp) ?_; (case hd => rfl); (case hg => rfl); (case hr => first | (go_simp; done) | (go_simp; rfl)); intro vF w2 hF2 hB2 hG2 hn2; obtain ⟨AF, cF, eF⟩ := Kd.R_slice hF2; rw [show ([⟨0, 1, 0⟩] : List S121).length = 1 from rfl] at eF; subst eF; have hD2 := Aside0.mk (Kd.R_grown hD1.out hG2 (fun _ _ => by simp)); replace hF2 := Aside0.mk hF2; replace hB2 := Aside0.mk hB2; clear hG2 hn2 hD1 hB1)
    | (go_at_call 53; refine (HRUN.out AD cD AF cF _ (Kd.R_reads' hD2.out).2.2 (by have := (Kd.R_reads' hD2.out).2.1; simpa using this) (Kd.R_reads' hF2.out).2.2 (Kd.R_reads' hF2.out).2.1).mono ?_; rintro e w3 ⟨v0, v1, v2, rfl, hv0, hv1, hv2, hb3⟩; obtain ⟨B0, d0, e0⟩ := Kd.R_slice hv0; obtain ⟨B1, d1, e1⟩ := Kd.R_slice hv1; obtain ⟨B2, d2, e2⟩ := Kd.R_slice hv2; subst e0; subst e1; subst e2; have hB3 := Aside0.mk (below_step hB2.out hb3); replace hv2 := Aside0.mk hv2; clear hv0 hv1 hb3)
    | (go_at_call 95; have hl := heap_alloc_new (w3.alloc (.cells #[.slice B0 fin.st.length d0, .slice B1 fin.dat.length d1, .slice B2 fin.rd.length d2, .int .i64 fin.tm] 82)) (.cells #[.int .i64 0, .int .i64 2, .int .i64 1] 3); rw [show (w3.alloc (.cells #[.slice B0 fin.st.length d0, .slice B1 fin.dat.length d1, .slice B2 fin.rd.length d2, .int .i64 fin.tm] 82)).heap.size = w3.heap.size + 1 by simp [World.alloc_eq]] at hl; have hB5 := Aside0.mk (below_alloc (below_alloc hB3.out (.cells #[.slice B0 fin.st.length d0, .slice B1 fin.dat.length d1, .slice B2 fin.rd.length d2, .int .i64 fin.tm] 82)) (.cells #[.int .i64 0, .int .i64 2, .int .i64 1] 3)); have hc := Kd.R_alloc (Kd.R_alloc hv2.out (.cells #[.slice B0 fin.st.length d0, .slice B1 fin.dat.length d1, .slice B2 fin.rd.length d2, .int .i64 fin.tm] 82)) (.cells #[.int .i64 0, .int .i64 2, .int .i64 1] 3); refine (slices_Equal_int_int.calls kq B2 d2 fin.rd (some ⟨w3.heap.size + 1, 0, none⟩) 3 [0, 2, 1] true _ (Kd.R_reads' hc).2.2 (Kd.R_reads' hc).2.1 (lit3_C hl) (by decide) (by rw [hrd.out]; exact HKQ.out)).mono ?_; rintro e w6 ⟨rfl, hb6⟩; have hB6 := Aside0.mk (below_step hB5.out hb6.below); clear hb6 hl hc))
  go_ret
  exact ⟨rfl, hB6.out⟩
end Go.Proofs.Ytdgkbpoljcndgaa.Pure
