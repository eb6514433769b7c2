/- Pieces of sources: parts; their error. No condition. -/
import Derived.Test.YtlnikhijfamakaaPureSourcePiecesU
namespace Go.Proofs.Ytlnikhijfamakaa.Pure
open Go Go.RowKit Go.Maps Go.Proofs.Ytlnikhijfamakaa.QSourceImages Go.Proofs.YtlnikhijfamakaaW.PrintWords Go.Proofs.YtlnikhijfamakaaW.PrintLast Go.Proofs.YtlnikhijfamakaaW.PrintMore
set_option linter.unusedVariables false
set_option linter.unusedSimpArgs false

theorem perr_l0 (nb : Nat) (hnb : nb ≤ 65536) (l : List S41) (hl : l.length ≤ 4096) : ∀ (d i : Nat) (s : Int), i + d = l.length → (∀ j, j < i → inR (nb : Int) (rd_T41 l (j : Int)).f0 (rd_T41 l (j : Int)).f1) → s = ((l.take i).map S41.f1).sum →
    Ev (fun k => wracklaw1_piecesErr.l0 k (nb : Int) s l (l.length : Int) (i : Int)) (pcsErr nb l)
  | 0, i, s, hi, hall, hs => by
    obtain rfl : i = l.length := by omega
    rw [List.take_length] at hs
    have hpe : pcsErr nb l = if s > 65536 then 2 else 0 := by
      unfold pcsErr
      rw [if_neg (show ¬ l.length > 4096 by omega), if_pos (all_rd l (fun x => inR (nb : Int) x.f0 x.f1) hall), ← hs]
    rw [hpe]
    refine Ev.step (f := fun _ => some _) (fun k => ?_) (Ev.now _)
    simp only [wracklaw1_piecesErr.l0]
    rw [if_neg (by omega)]
    by_cases h : s > 65536
    · rw [if_pos h, if_pos h]
    · rw [if_neg h, if_neg h]
  | d + 1, i, s, hi, hall, hs => by
    have hb := sum_bound nb hnb l i (by omega) hall
    have hup := sum_up l i (by omega)
    have hmem := rd_mem l i (by omega)
    rw [← hs] at hb hup
    by_cases hr : inR (nb : Int) (rd_T41 l (i : Int)).f0 (rd_T41 l (i : Int)).f1
    · have hr2 := hr
      unfold inR at hr2
      have hall' : ∀ j, j < i + 1 → inR (nb : Int) (rd_T41 l (j : Int)).f0 (rd_T41 l (j : Int)).f1 := fun j hj => by
        by_cases e : j = i
        · rw [e]; exact hr
        · exact hall j (by omega)
      have e := perr_l0 nb hnb l hl d (i + 1) (s + (rd_T41 l (i : Int)).f1) (by omega) hall' (by rw [hup])
      generalize hx : rd_T41 l (i : Int) = x at *
      have hw : wrap64 (s + x.f1) = s + x.f1 := by unfold wrap64; omega
      have hw2 : wrap64 ((nb : Int) - x.f0) = (nb : Int) - x.f0 := by unfold wrap64; omega
      refine Ev.step (fun k => ?_) e
      simp only [wracklaw1_piecesErr.l0]
      rw [if_pos (by omega), if_pos (by omega), if_pos (by omega), hx, if_neg (by omega), if_neg (by omega), if_neg (by omega), hw2, if_neg (by omega), hw, up i l.length (by omega) (by omega)]
    · have hpe : pcsErr nb l = 4 := by unfold pcsErr; rw [if_neg (by omega), if_neg (fun h => hr (h _ hmem))]
      rw [hpe]
      refine Ev.step (f := fun _ => some _) (fun k => ?_) (Ev.now _)
      simp only [wracklaw1_piecesErr.l0]
      rw [if_pos (by omega), if_pos (by omega), if_pos (by omega)]
      generalize rd_T41 l (i : Int) = x at *
      unfold inR at hr
      by_cases h0 : x.f0 < 0
      · rw [if_pos h0]
      · rw [if_neg h0]
        by_cases h1 : x.f1 < 0
        · rw [if_pos h1]
        · rw [if_neg h1]
          by_cases h2 : x.f0 > (nb : Int)
          · rw [if_pos h2]
          · have hw2 : wrap64 ((nb : Int) - x.f0) = (nb : Int) - x.f0 := by unfold wrap64; omega
            rw [if_neg h2, hw2, if_pos (by omega)]
theorem perr_ev (nb : Nat) (hnb : nb ≤ 65536) (l : List S41) : Ev (fun k => wracklaw1_piecesErr.f k l (nb : Int)) (pcsErr nb l) := by
  by_cases h : l.length > 4096
  · refine Ev.congr (fun k => ?_) (Ev.now _)
    unfold wracklaw1_piecesErr.f pcsErr
    rw [if_pos (by omega), if_pos h]
  · refine Ev.congr (fun k => ?_) (perr_l0 nb hnb l (by omega) l.length 0 0 (by omega) (fun j hj => absurd hj (by omega)) (by simp))
    unfold wracklaw1_piecesErr.f
    rw [if_neg (by omega)]
    rfl
theorem one_span {w : World} {g : Nat} {x : S41} {t : TypeId} (h : w.heap[g]? = some (.cells #[.int .i64 x.f0, .int .i64 x.f1] t (0, 0))) : Kd.C k41 w (some ⟨g, 0, none⟩) 1 [x] := by
  refine ⟨rfl, by decide, fun _ => ⟨_, rfl, fun j p hp => ?_⟩⟩
  obtain ⟨rfl, rfl⟩ : j = 0 ∧ p = x := by
    cases j with
    | zero => exact ⟨rfl, by simpa using hp.symm⟩
    | succ j => simp at hp
  refine ⟨[.int .i64 p.f0, .int .i64 p.f1], rfl, k41_mk _ p, fun i u hu => ?_⟩
  match i, hu with
  | 0, hu => exact (blk_cell h 0).trans hu
  | 1, hu => exact (blk_cell h 1).trans hu
/-- what Part hands back -/
def PartEnd (w : World) (nb T : Nat) (x : Value) (off k : Int) (e : Ending) (w' : World) : Prop :=
  (inR nb off k → ∃ g A c, e = .returned (.tuple #[.iface 78 (.pointer (some ⟨g, 0, none⟩)), .int .i64 0]) ∧ IsPcs w' g T x A c [⟨off, k⟩] k.toNat ∧ Below w.heap.size w w') ∧
  (¬ inR nb off k → e = .returned (.tuple #[.nilIface, .int .i64 4]) ∧ Below w.heap.size w w')
theorem part_err (nb : Nat) (hnb : nb ≤ 65536) (off k : Int) (h : inR nb off k) : pcsErr nb [⟨off, k⟩] = 0 := by
  have h2 := h
  unfold inR at h2
  unfold pcsErr
  rw [if_neg (by simp), if_pos (by intro x hx; rw [List.mem_singleton] at hx; subst hx; exact h), if_neg (by simp; omega)]
set_option maxHeartbeats 8000000 in
set_option maxRecDepth 100000 in
theorem part_calls (w : World) (T : Nat) (x : Value) (fR fO fS fP : Nat) (b fr : List Int) (bad : List Bool) (hs : SrcIs w T x fR fO fS fP b fr bad) (hnb : b.length ≤ 65536) (off k : Int) :
    Calls Try.prog 15 #[.iface T x, .int .i64 off, .int .i64 k] w fun e w' => PartEnd w b.length T x off k e w' := by
  have hwi := within_val b.length hnb off k
  have HS := Aside0.mk hs
  have hSr := hs.mS.run
  have hSe := hs.mS.ent
  have hSa := hs.mS.ahead
  have HSZ := Aside0.mk (hs.ans w (Below.refl _ _)).size
  have HNB := Aside0.mk hnb
  have hu41 := Try.underlying41
  obtain ⟨nb, hnbe⟩ : ∃ nb, nb = b.length := ⟨_, rfl⟩
  rw [← hnbe] at hwi HSZ ⊢
  by_cases hR : inR (nb : Int) off k
  · rw [decide_eq_true hR] at hwi
    have hpe := part_err nb (by omega) off k hR
    have HPE := Aside0.mk hpe
    have HWI := Aside0.mk hwi
    have HR := Aside0.mk hR
    have HNE := Aside0.mk hnbe
    clear hwi hR hs hpe hnb hnbe
    go_enter Try.func15, Try.ntmps15
    go_wp2_with fail
    refine HSZ.out.mono ?_
    rintro e w1 ⟨rfl, hb1⟩
    have HB1 := Aside0.mk hb1
    clear hb1
    go_wp2_with (first
      | (go_at_call 33; refine (source_within.calls off k (nb : Int) true _ HWI.out).mono ?_; rintro e w2 ⟨rfl, hd⟩; have HB2 := Aside0.mk (below_step HB1.out hd.below); clear hd HB1)
      | (go_at_call 17; have hX := blk_new w2 (.cells #[.int .i64 off, .int .i64 k] 41); have HB3 := Aside0.mk (below_step HB2.out (below_alloc (Below.refl w2.heap.size w2) (.cells #[.int .i64 off, .int .i64 k] 41))); refine (pcs_small _ T x fR fO fS fP b fr bad (HS.out.below HB3.out) HNB.out (some ⟨w2.heap.size, 0, none⟩) 1 [⟨off, k⟩] (one_span hX) (Nat.le_refl _) (by simp)).mono ?_; rintro e w4 ⟨h1_, _⟩; rw [← HNE.out] at h1_; obtain ⟨g, A, c, rfl, hI, _, _, hb4⟩ := h1_ HPE.out; have HB4 := Aside0.mk (below_step HB3.out hb4); replace hI := Aside0.mk hI; clear h1_ hX HB3 HB2 hb4))
    refine bodyPost_ret (v := .tuple #[.iface 78 (.pointer (some ⟨g, 0, none⟩)), .int .i64 0]) (by simp [results, Try.results15, go_sem]) rfl ?_
    refine ⟨fun _ => ⟨g, A, c, rfl, ?_, HB4.out⟩, fun h => absurd HR.out h⟩
    have h := hI.out
    rw [show ([(⟨off, k⟩ : S41)].map S41.f1).sum.toNat = k.toNat by simp] at h
    exact h
  · rw [decide_eq_false hR] at hwi
    have HWI := Aside0.mk hwi
    have HR := Aside0.mk hR
    clear hwi hR hs hnb hnbe
    go_enter Try.func15, Try.ntmps15
    go_wp2_with fail
    refine HSZ.out.mono ?_
    rintro e w1 ⟨rfl, hb1⟩
    have HB1 := Aside0.mk hb1
    clear hb1
    go_wp2_with (first
      | (go_at_call 33; refine (source_within.calls off k (nb : Int) false _ HWI.out).mono ?_; rintro e w2 ⟨rfl, hd⟩; have HB2 := Aside0.mk (below_step HB1.out hd.below); clear hd HB1))
    refine bodyPost_ret (v := .tuple #[.nilIface, .int .i64 4]) (by simp [results, Try.results15, go_sem]) rfl ?_
    exact ⟨fun h => absurd h HR.out, fun _ => ⟨rfl, HB2.out⟩⟩
end Go.Proofs.Ytlnikhijfamakaa.Pure
