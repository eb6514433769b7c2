/- Pieces of sources: their size; whether they are plain. No condition. -/
import Derived.Test.YtlnikhijfamakaaPureSourcePiecesP
namespace Go.Proofs.Ytlnikhijfamakaa.Pure
open Go Go.RowKit Go.Maps Go.Proofs.Ytlnikhijfamakaa.QSourceImages Go.Proofs.YtlnikhijfamakaaW.PrintWords Go.Proofs.YtlnikhijfamakaaW.PrintLast Go.Proofs.YtlnikhijfamakaaW.PrintMore
set_option linter.unusedVariables false
set_option linter.unusedSimpArgs false
theorem slice_l0 (l : List S41) (hn : l.length ≤ 8796093022208) : ∀ (d i : Nat) (off n : Int) (o : List S41), i + d = l.length → o.length ≤ i → 0 ≤ off → off ≤ 9223372036854775807 → 0 < n → n ≤ 9223372036854775807 →
    Ev (fun k => span_Slice.l0 k off n o l (l.length : Int) (i : Int)) (gluedP [] (laid (cutP off n o (l.drop i))))
  | 0, i, off, n, o, hi, ho, h0, h1, h2, h3 => by
    refine Ev.step (f := fun k => (span_Glue.f k o).bind fun t => some t) (fun k => ?_) (Ev.bind (f := fun _ t => some t) ?_ (Ev.now _))
    · simp only [span_Slice.l0]
      rw [if_neg (by omega)]
    · rw [List.drop_of_length_le (by omega)]
      exact glue_ev o (by omega)
  | d + 1, i, off, n, o, hi, ho, h0, h1, h2, h3 => by
    rw [drop_span l i (by omega)]
    generalize hx : rd_T41 l (i : Int) = x
    unfold cutP
    by_cases hk : okS x
    · have hk' := hk
      unfold okS at hk'
      rw [if_pos hk]
      by_cases hf : x.f1 ≤ off
      · rw [if_pos hf]
        refine Ev.step (fun k => ?_) (slice_l0 l hn d (i + 1) (off - x.f1) n o (by omega) (by omega) (by omega) (by omega) h2 h3)
        simp only [span_Slice.l0]
        rw [if_pos (by omega), if_pos (by omega), if_pos (by omega), hx, good_val, Option.bind_some, decide_eq_true hk, if_pos rfl, if_pos (by omega), up i l.length (by omega) (by omega), show wrap64 (off - x.f1) = off - x.f1 by unfold wrap64; omega]
      · rw [if_neg hf]
        have hmn : mn n (wrap64 (x.f1 - off)) = min n (x.f1 - off) := by
          rw [show wrap64 (x.f1 - off) = x.f1 - off by unfold wrap64; omega]
          unfold mn; split <;> omega
        generalize hm : min n (x.f1 - off) = m at hmn ⊢
        have hw : wrap64 (n - m) = n - m := by unfold wrap64; omega
        have hw2 : wrap64 (x.f0 + off) = x.f0 + off := by unfold wrap64; omega
        by_cases hz : n - m = 0
        · rw [if_pos hz]
          refine Ev.step (f := fun k => (span_Glue.f k (o ++ [⟨x.f0 + off, m⟩])).bind fun t => some t) (fun k => ?_) (Ev.bind (f := fun _ t => some t) (glue_ev _ (by simp; omega)) (Ev.now _))
          simp only [span_Slice.l0]
          rw [if_pos (by omega), if_pos (by omega), if_pos (by omega), hx, good_val, Option.bind_some, decide_eq_true hk, if_pos rfl, if_neg (by omega), if_pos (by omega), Option.bind_some, hmn, hw, hw2, if_pos hz]
        · rw [if_neg hz]
          refine Ev.step (fun k => ?_) (slice_l0 l hn d (i + 1) 0 (n - m) (o ++ [⟨x.f0 + off, m⟩]) (by omega) (by simp; omega) (by omega) (by omega) (by omega) (by omega))
          simp only [span_Slice.l0]
          rw [if_pos (by omega), if_pos (by omega), if_pos (by omega), hx, good_val, Option.bind_some, decide_eq_true hk, if_pos rfl, if_neg (by omega), if_pos (by omega), Option.bind_some, hmn, hw, hw2, if_neg hz, up i l.length (by omega) (by omega)]
    · rw [if_neg hk]
      refine Ev.step (fun k => ?_) (slice_l0 l hn d (i + 1) off n o (by omega) (by omega) h0 h1 h2 h3)
      simp only [span_Slice.l0]
      rw [if_pos (by omega), if_pos (by omega), if_pos (by omega), hx, good_val, Option.bind_some, decide_eq_false hk, if_neg (by decide), up i l.length (by omega) (by omega)]
theorem slice_ev (l : List S41) (hn : l.length ≤ 8796093022208) (off n : Int) (h0 : off ≤ 9223372036854775807) (h1 : n ≤ 9223372036854775807) :
    Ev (fun k => span_Slice.f k l off n) (gluedP [] (partP (laid l) off n)) := by
  unfold span_Slice.f
  by_cases hneg : off < 0
  · refine Ev.congr (fun k => if_pos hneg) ?_
    refine Ev.step (f := fun _ => some []) (fun k => by simp [span_Slice.j0]) ?_
    unfold partP
    rw [if_neg (by omega)]
    exact Ev.now _
  · refine Ev.congr (fun k => if_neg hneg) ?_
    by_cases hz : n ≤ 0
    · refine Ev.step (f := fun _ => some []) (fun k => by simp [span_Slice.j0, hz]) ?_
      unfold partP
      rw [if_pos (by omega), show n.toNat = 0 by omega, List.take_zero]
      exact Ev.now _
    · have e := slice_l0 l hn l.length 0 off n [] (by omega) (by simp) (by omega) h0 (by omega) h1
      have hc := cut_laid l [] off.toNat n.toNat (by omega)
      rw [show ((off.toNat : Nat) : Int) = off by omega, show ((n.toNat : Nat) : Int) = n by omega, laid_nil, List.nil_append] at hc
      rw [List.drop_zero, hc] at e
      unfold partP
      rw [if_pos (by omega)]
      refine Ev.step (fun k => ?_) e
      simp only [span_Slice.j0]
      rw [if_neg (by simp; omega)]; rfl
/-- pieces of another source, in memory -/
structure IsPcs (w : World) (g T : Nat) (x : Value) (A : Option Addr) (c : Nat) (l : List S41) (n : Nat) : Prop where
  blk : w.heap[g]? = some (.cells #[.iface T x, .slice A l.length c, .int .i64 (n : Int)] 80 (0, 0))
  rl : Kd.C k41 w A l.length l
  cl : l.length ≤ c
theorem IsPcs.below {w W : World} {g T : Nat} {x : Value} {A : Option Addr} {c : Nat} {l : List S41} {n : Nat} (h : IsPcs w g T x A c l n) (hb : Below w.heap.size w W) : IsPcs W g T x A c l n :=
  ⟨blk_below h.blk hb, Kd.C_below h.rl hb, h.cl⟩
theorem pcs_size (w : World) (g T : Nat) (x : Value) (A : Option Addr) (c : Nat) (l : List S41) (n : Nat) (h : IsPcs w g T x A c l n) :
    Calls Try.prog 106 #[.pointer (some ⟨g, 0, none⟩)] w fun e w' => e = .returned (.int .i64 (n : Int)) ∧ Below w.heap.size w w' := by
  have c2 : w.cell? ⟨g, 2, none⟩ = some (.int .i64 (n : Int)) := (blk_cell h.blk 2).trans rfl
  clear h
  go_enter Try.func106, Try.ntmps106
  go_wp2
  go_ret
  exact ⟨rfl, Below.refl _ _⟩
theorem pcs_plain (w : World) (g T : Nat) (x : Value) (A : Option Addr) (c : Nat) (l : List S41) (n : Nat) (h : IsPcs w g T x A c l n) (fR fO fS fP : Nat) (b fr : List Int) (bad : List Bool) (hs : SrcIs w T x fR fO fS fP b fr bad) :
    Calls Try.prog 103 #[.pointer (some ⟨g, 0, none⟩)] w fun e w' => e = .returned (.bool true) ∧ Below w.heap.size w w' := by
  have c0 : w.cell? ⟨g, 0, none⟩ = some (.iface T x) := (blk_cell h.blk 0).trans rfl
  have m1 := hs.mP.run
  have m3 := hs.mP.ent
  have HA := Aside0.mk (hs.ans w (Below.refl _ _)).plain
  clear h hs
  go_enter Try.func103, Try.ntmps103
  go_wp2_with fail
  refine HA.out.mono ?_
  rintro e w1 ⟨rfl, hb⟩
  have HB := Aside0.mk hb
  clear hb
  go_wp2
  go_ret
  exact ⟨rfl, HB.out⟩
end Go.Proofs.Ytlnikhijfamakaa.Pure
