/- Pieces of sources: the whole. No condition. -/
import Derived.Test.YtlnikhijfamakaaPureSourcePiecesV
namespace Go.Proofs.Ytlnikhijfamakaa.Pure
open Go Go.RowKit Go.Maps Go.Proofs.Ytlnikhijfamakaa.QSourceImages Go.Proofs.YtlnikhijfamakaaW.PrintWords Go.Proofs.YtlnikhijfamakaaW.PrintLast Go.Proofs.YtlnikhijfamakaaW.PrintMore
set_option linter.unusedVariables false
set_option linter.unusedSimpArgs false

/-- a chain of pieces over a source, in memory -/
inductive PSrc (W0 w : World) : Nat → Value → Nat → Nat → Nat → Nat → List Int → List Int → List Bool → Prop
  | base {T : Nat} {x : Value} {fR fO fS fP : Nat} {b fr : List Int} {bad : List Bool} (h : SrcIs W0 T x fR fO fS fP b fr bad) (hb : Below W0.heap.size W0 w) : PSrc W0 w T x fR fO fS fP b fr bad
  | step {T : Nat} {x : Value} {fR fO fS fP : Nat} {b fr : List Int} {bad : List Bool} {g : Nat} {A : Option Addr} {c : Nat} {l : List S41} (h : PSrc W0 w T x fR fO fS fP b fr bad)
      (hg : w.heap[g]? = some (.cells #[.iface T x, .slice A l.length c, .int .i64 ((laid l).length : Int)] 80 (0, 0))) (hr : k41.R 41 w W0.heap.size (fun _ => True) (.slice A l.length c) l)
      (hn : (laid l).length ≤ 65536) (hll : l.length ≤ 4096) (hwl : ∀ q ∈ laid l, 0 ≤ q ∧ q < (b.length : Int)) (hbl : b.length ≤ 65536) (hfl : fr.length = b.length) (hbd : bad.length = b.length) (hfr : ∀ y ∈ fr, 0 ≤ y ∧ y < 65536) :
      PSrc W0 w 78 (.pointer (some ⟨g, 0, none⟩)) 104 105 106 103 (pickI b (laid l)) (pickI fr (laid l)) (pickB bad (laid l))
theorem PSrc.src {W0 w : World} {T : Nat} {x : Value} {fR fO fS fP : Nat} {b fr : List Int} {bad : List Bool} (h : PSrc W0 w T x fR fO fS fP b fr bad) : SrcIs w T x fR fO fS fP b fr bad := by
  induction h with
  | base h hb => exact h.below hb
  | step h hg hr hn hll hwl hbl hfl hbd hfr ih =>
    have r := Kd.R_reads' hr
    exact pcs_src ⟨hg, r.2.2, r.2.1⟩ ih hn hll rfl hwl hbl hfl hbd hfr
theorem PSrc.size {W0 w : World} {T : Nat} {x : Value} {fR fO fS fP : Nat} {b fr : List Int} {bad : List Bool} (h : PSrc W0 w T x fR fO fS fP b fr bad) : W0.heap.size ≤ w.heap.size := by
  induction h with
  | base h hb => exact hb.size
  | step h hg hr hn hll hwl hbl hfl hbd hfr ih => exact ih
theorem PSrc.keep {W0 w W : World} {T : Nat} {x : Value} {fR fO fS fP : Nat} {b fr : List Int} {bad : List Bool} (h : PSrc W0 w T x fR fO fS fP b fr bad) (hb : Below w.heap.size w W) : PSrc W0 W T x fR fO fS fP b fr bad := by
  induction h with
  | base h hb0 => exact .base h (below_step hb0 hb)
  | step h hg hr hn hll hwl hbl hfl hbd hfr ih => exact .step ih (blk_below hg hb) (Kd.R_below hr hb) hn hll hwl hbl hfl hbd hfr
theorem PSrc.store {W0 w : World} {T : Nat} {x : Value} {fR fO fS fP : Nat} {b fr : List Int} {bad : List Bool} (h : PSrc W0 w T x fR fO fS fP b fr bad) {mb : Nat} {O : Array Value} (hm : w.heap[mb]? = some (.cells O 34 (0, 0))) (hle : W0.heap.size ≤ mb) (j : Nat) (u : Value) : PSrc W0 (w.setCell ⟨mb, j, none⟩ u) T x fR fO fS fP b fr bad := by
  induction h with
  | base h hb0 => exact .base h (hb0.setCell (p := ⟨mb, j, none⟩) hle u)
  | step h hg hr hn hll hwl hbl hfl hbd hfr ih =>
    exact .step ih (blk_far hg (p := ⟨mb, j, none⟩) (typed_ne ⟨_, hg⟩ ⟨_, hm⟩ (by decide)) u) (Kd.R_mono (Kd.R_far (p := ⟨mb, j, none⟩) (Kd.R_types hr hm (by decide)) (fun k hk => hk.2) u) (fun _ hk => hk.1)) hn hll hwl hbl hfl hbd hfr
theorem PSrc.store3 {W0 w : World} {T : Nat} {x : Value} {fR fO fS fP : Nat} {b fr : List Int} {bad : List Bool} (h : PSrc W0 w T x fR fO fS fP b fr bad) {mb : Nat} {O : Array Value} (hm : w.heap[mb]? = some (.cells O 34 (0, 0))) (hle : W0.heap.size ≤ mb) (u0 u1 u2 : Value) : PSrc W0 (((w.setCell ⟨mb, 0, none⟩ u0).setCell ⟨mb, 1, none⟩ u1).setCell ⟨mb, 2, none⟩ u2) T x fR fO fS fP b fr bad := by
  have h1 := blk_put hm 0 u0 rfl
  have h2 := blk_put h1 1 u1 rfl
  exact ((h.store hm hle 0 u0).store h1 hle 1 u1).store h2 hle 2 u2
theorem pick_in (fr Q : List Int) (h : ∀ y ∈ fr, 0 ≤ y ∧ y < 65536) (hq : ∀ q ∈ Q, 0 ≤ q ∧ q < (fr.length : Int)) : ∀ y ∈ pickI fr Q, 0 ≤ y ∧ y < 65536 := by
  intro y hy
  unfold pickI at hy
  obtain ⟨q, hq1, rfl⟩ := List.mem_map.1 hy
  have h2 := hq q hq1
  refine h _ ?_
  unfold rd
  rw [List.getD_eq_getElem?_getD, List.getElem?_eq_getElem (by omega)]
  exact List.getElem_mem _
/-- the rows of a model -/
structure MRow (w : World) (n : Nat) (V0 : Option Addr) (d0 : Nat) (V1 : Option Addr) (d1 : Nat) (V2 : Option Addr) (d2 : Nat) (bb ff : List Int) (gg : List Bool) : Prop where
  e0 : bb.length = n
  e1 : ff.length = n
  e2 : gg.length = n
  r0 : Kd.C (Kd.int .u8) w V0 n bb
  r1 : Kd.C (Kd.int .i64) w V1 n ff
  r2 : Kd.C Kd.bool w V2 n gg
  l0 : n ≤ d0
  l1 : n ≤ d1
  le : n ≤ 65536
  hin : ∀ y ∈ ff, 0 ≤ y ∧ y < 65536
/-- the rows of a model, of the call's own -/
structure MOwn (w : World) (base n : Nat) (V0 : Option Addr) (d0 : Nat) (V1 : Option Addr) (d1 : Nat) (V2 : Option Addr) (d2 : Nat) (bb ff : List Int) (gg : List Bool) : Prop where
  e0 : bb.length = n
  e1 : ff.length = n
  e2 : gg.length = n
  r0 : (Kd.int .u8).R 5 w base (fun _ => True) (.slice V0 n d0) bb
  r1 : (Kd.int .i64).R 3 w base (fun _ => True) (.slice V1 n d1) ff
  r2 : Kd.bool.R 4 w base (fun _ => True) (.slice V2 n d2) gg
  le : n ≤ 65536
  hin : ∀ y ∈ ff, 0 ≤ y ∧ y < 65536
section
variable {w W : World} {base n : Nat} {V0 V1 V2 : Option Addr} {d0 d1 d2 : Nat} {bb ff : List Int} {gg : List Bool}
theorem MRow.below (h : MRow w n V0 d0 V1 d1 V2 d2 bb ff gg) (hb : Below w.heap.size w W) : MRow W n V0 d0 V1 d1 V2 d2 bb ff gg :=
  ⟨h.e0, h.e1, h.e2, Kd.C_below h.r0 hb, Kd.C_below h.r1 hb, Kd.C_below h.r2 hb, h.l0, h.l1, h.le, h.hin⟩
theorem MOwn.below (h : MOwn w base n V0 d0 V1 d1 V2 d2 bb ff gg) (hb : Below w.heap.size w W) : MOwn W base n V0 d0 V1 d1 V2 d2 bb ff gg :=
  ⟨h.e0, h.e1, h.e2, Kd.R_below h.r0 hb, Kd.R_below h.r1 hb, Kd.R_below h.r2 hb, h.le, h.hin⟩
theorem MOwn.row (h : MOwn w base n V0 d0 V1 d1 V2 d2 bb ff gg) : MRow w n V0 d0 V1 d1 V2 d2 bb ff gg := by
  have q0 := Kd.R_reads' h.r0
  have q1 := Kd.R_reads' h.r1
  have q2 := Kd.R_reads' h.r2
  rw [h.e0] at q0
  rw [h.e1] at q1
  rw [h.e2] at q2
  exact ⟨h.e0, h.e1, h.e2, q0.2.2, q1.2.2, q2.2.2, q0.2.1, q1.2.1, h.le, h.hin⟩
theorem MOwn.store3 (h : MOwn w base n V0 d0 V1 d1 V2 d2 bb ff gg) {mb : Nat} {O : Array Value} (hm : w.heap[mb]? = some (.cells O 34 (0, 0))) (u0 u1 u2 : Value) : MOwn (((w.setCell ⟨mb, 0, none⟩ u0).setCell ⟨mb, 1, none⟩ u1).setCell ⟨mb, 2, none⟩ u2) base n V0 d0 V1 d1 V2 d2 bb ff gg :=
  ⟨h.e0, h.e1, h.e2, far3 h.r0 hm (by decide) u0 u1 u2, far3 h.r1 hm (by decide) u0 u1 u2, far3 h.r2 hm (by decide) u0 u1 u2, h.le, h.hin⟩
theorem MRow.is (h : MRow w n V0 d0 V1 d1 V2 d2 bb ff gg) {T : Nat} {x : Value} {fR fO fS fP : Nat} (hs : SrcIs w T x fR fO fS fP bb ff gg) (off k : Int) :
    Calls Try.prog 11 #[.agg #[.slice V0 n d0, .slice V1 n d1, .slice V2 n d2], .iface T x, .int .i64 off, .int .i64 k] w fun e w' => e = .returned (.bool true) ∧ Below w.heap.size w w' := by
  obtain ⟨e0, e1, e2, r0, r1, r2, l0, l1, le, hin⟩ := h
  subst e0
  exact is_calls w T x fR fO fS fP bb ff gg hs V0 V1 V2 d0 d1 d2 off k e1 e2 le l0 l1 r0 r1 r2 hin
theorem MRow.pieces (h : MRow w n V0 d0 V1 d1 V2 d2 bb ff gg) (A : Option Addr) (c : Nat) (l : List S41) (hrl : Kd.C k41 w A l.length l) (hcl : l.length ≤ c) (hl : l.length ≤ 4096) (hll : (laid l).length ≤ 65536) (hwl : ∀ q ∈ laid l, 0 ≤ q ∧ q < (n : Int)) :
    Calls Try.prog 16 #[.agg #[.slice V0 n d0, .slice V1 n d1, .slice V2 n d2], .slice A l.length c] w fun e w' => ∃ V0' d0' V1' d1' V2' d2', e = .returned (.agg #[.slice V0' (laid l).length d0', .slice V1' (laid l).length d1', .slice V2' (laid l).length d2']) ∧
      MOwn w' w.heap.size (laid l).length V0' d0' V1' d1' V2' d2' (pickI bb (laid l)) (pickI ff (laid l)) (pickB gg (laid l)) ∧ Below w.heap.size w w' := by
  obtain ⟨e0, e1, e2, r0, r1, r2, l0, l1, le, hin⟩ := h
  subst e0
  have hc := mp_calls V0 d0 bb V1 d1 ff V2 d2 gg A c l w r0 (by rw [e1]; exact r1) (by rw [e2]; exact r2) e1 e2 hrl hcl hl hll hwl
  rw [e1, e2] at hc
  refine hc.mono ?_
  rintro e w' ⟨V0', d0', V1', d1', V2', d2', rfl, q0, q1, q2, hb⟩
  exact ⟨V0', d0', V1', d1', V2', d2', rfl, ⟨pickI_len _ _, pickI_len _ _, pickB_len _ _, q0, q1, q2, hll, pick_in ff (laid l) hin (by rw [e1]; exact hwl)⟩, hb⟩
end
/-- Pieces, for every list -/
theorem pcs_calls (w : World) (T : Nat) (x : Value) (fR fO fS fP : Nat) (b fr : List Int) (bad : List Bool) (hs : SrcIs w T x fR fO fS fP b fr bad) (hnb : b.length ≤ 65536) (A : Option Addr) (c : Nat) (l : List S41) (hrl : Kd.C k41 w A l.length l) (hcl : l.length ≤ c) :
    Calls Try.prog 17 #[.iface T x, .slice A l.length c] w fun e w' => PcsEnd w b.length T x l e w' := by
  by_cases hl : l.length ≤ 4096
  · exact pcs_small w T x fR fO fS fP b fr bad hs hnb A c l hrl hcl hl
  · refine (pcs_large T x A c l.length w (by omega)).mono ?_
    rintro e w' ⟨rfl, hb⟩
    have he : pcsErr b.length l = 2 := by unfold pcsErr; rw [if_pos (by omega)]
    exact ⟨fun h => absurd h (by rw [he]; decide), fun _ => ⟨by rw [he], hb⟩⟩
/-- where the rounds over the two lists stand -/
def SPRel (w w1 : World) (mb X : Nat) (P : Array Value) (wr : World) (vi vs : Value) : Prop := ∃ (i T : Nat) (x : Value) (fR fO fS fP : Nat) (bb ff : List Int) (gg : List Bool) (nn : Nat) (V0 : Option Addr) (d0 : Nat) (V1 : Option Addr) (d1 : Nat) (V2 : Option Addr) (d2 : Nat), i ≤ 2 ∧ vi = .int .i64 (i : Int) ∧ vs = .iface T x ∧
  Aside0 (PSrc w1 wr T x fR fO fS fP bb ff gg) ∧ Aside0 (MRow wr nn V0 d0 V1 d1 V2 d2 bb ff gg) ∧ Aside0 (wr.heap[mb]? = some (.cells #[.slice V0 nn d0, .slice V1 nn d1, .slice V2 nn d2] 34 (0, 0))) ∧ Aside0 (wr.heap[X]? = some (.cells P 23 (0, 0))) ∧ Aside0 (Below w.heap.size w wr)
/-- the model of pieces is stored, and the pieces are a source -/
theorem sp_step {w w1 wr wb : World} {mb X : Nat} {P : Array Value} {T : Nat} {x : Value} {fR fO fS fP : Nat} {bb ff : List Int} {gg : List Bool} {nn : Nat} {V0 : Option Addr} {d0 : Nat} {V1 : Option Addr} {d1 : Nat} {V2 : Option Addr} {d2 : Nat} {gq : Nat} {Aq : Option Addr} {cq m : Nat} {L : List S41} {W0 : Option Addr} {f0 : Nat} {W1 : Option Addr} {f1 : Nat} {W2 : Option Addr} {f2 : Nat} {base : Nat}
    (hsrc : PSrc w1 wr T x fR fO fS fP bb ff gg) (hrow : MRow wr nn V0 d0 V1 d1 V2 d2 bb ff gg) (hpair : wr.heap[X]? = some (.cells P 23 (0, 0))) (hbx : Below w.heap.size w wr) (hmx : mb ≠ X) (hle : w1.heap.size ≤ mb) (hle2 : w.heap.size ≤ mb) (hb : Below wr.heap.size wr wb)
    (hi : IsPcs wb gq T x Aq cq L m) (hr : k41.R 41 wb wr.heap.size (fun _ => True) (.slice Aq L.length cq) L) (ho : MOwn wb base (laid L).length W0 f0 W1 f1 W2 f2 (pickI bb (laid L)) (pickI ff (laid L)) (pickB gg (laid L))) (hm : wb.heap[mb]? = some (.cells #[.slice V0 nn d0, .slice V1 nn d1, .slice V2 nn d2] 34 (0, 0)))
    (hls : m = (laid L).length) (hll : (laid L).length ≤ 65536) (hl4 : L.length ≤ 4096) (hlw : ∀ q ∈ laid L, 0 ≤ q ∧ q < (nn : Int)) :
    PSrc w1 (((wb.setCell ⟨mb, 0, none⟩ (.slice W0 (laid L).length f0)).setCell ⟨mb, 1, none⟩ (.slice W1 (laid L).length f1)).setCell ⟨mb, 2, none⟩ (.slice W2 (laid L).length f2)) 78 (.pointer (some ⟨gq, 0, none⟩)) 104 105 106 103 (pickI bb (laid L)) (pickI ff (laid L)) (pickB gg (laid L)) ∧
    MRow (((wb.setCell ⟨mb, 0, none⟩ (.slice W0 (laid L).length f0)).setCell ⟨mb, 1, none⟩ (.slice W1 (laid L).length f1)).setCell ⟨mb, 2, none⟩ (.slice W2 (laid L).length f2)) (laid L).length W0 f0 W1 f1 W2 f2 (pickI bb (laid L)) (pickI ff (laid L)) (pickB gg (laid L)) ∧ (((wb.setCell ⟨mb, 0, none⟩ (.slice W0 (laid L).length f0)).setCell ⟨mb, 1, none⟩ (.slice W1 (laid L).length f1)).setCell ⟨mb, 2, none⟩ (.slice W2 (laid L).length f2)).heap[X]? = some (.cells P 23 (0, 0)) ∧ Below w.heap.size w (((wb.setCell ⟨mb, 0, none⟩ (.slice W0 (laid L).length f0)).setCell ⟨mb, 1, none⟩ (.slice W1 (laid L).length f1)).setCell ⟨mb, 2, none⟩ (.slice W2 (laid L).length f2)) ∧
    (((wb.setCell ⟨mb, 0, none⟩ (.slice W0 (laid L).length f0)).setCell ⟨mb, 1, none⟩ (.slice W1 (laid L).length f1)).setCell ⟨mb, 2, none⟩ (.slice W2 (laid L).length f2)).heap[mb]? = some (.cells #[.slice W0 (laid L).length f0, .slice W1 (laid L).length f1, .slice W2 (laid L).length f2] 34 (0, 0)) := by
  have hgq := hi.blk
  rw [hls] at hgq
  refine ⟨(PSrc.step (hsrc.keep hb) hgq (Kd.R_lower hr hsrc.size) hll hl4 (by rw [hrow.e0]; exact hlw) (by rw [hrow.e0]; exact hrow.le) (hrow.e1.trans hrow.e0.symm) (hrow.e2.trans hrow.e0.symm) hrow.hin).store3 hm hle _ _ _, (ho.store3 hm _ _ _).row, ?_, ?_, ?_⟩
  · exact blk_far (blk_far (blk_far (blk_below hpair hb) (p := ⟨mb, 0, none⟩) (Ne.symm hmx) _) (p := ⟨mb, 1, none⟩) (Ne.symm hmx) _) (p := ⟨mb, 2, none⟩) (Ne.symm hmx) _
  · exact (((below_step hbx hb).setCell (p := ⟨mb, 0, none⟩) hle2 _).setCell (p := ⟨mb, 1, none⟩) hle2 _).setCell (p := ⟨mb, 2, none⟩) hle2 _
  · exact blk_put (blk_put (blk_put hm 0 _ rfl) 1 _ rfl) 2 _ rfl
theorem bad_end {m : Nat} (hm : m ≤ 65536) (bad : List S41) (h : srcErr m bad ≠ 0) : srcErr m bad = 4 := by
  unfold srcErr at h ⊢
  rw [if_neg (by omega)] at h ⊢
  by_cases h2 : ∀ x ∈ bad, rightS m x
  · rw [if_pos h2] at h; exact absurd rfl h
  · rw [if_neg h2]
theorem take_min (b : List Int) : b.take (min b.length 65536) = b.take (min b.length 65536) ∧ (b.take (min b.length 65536)).length = min b.length 65536 := ⟨rfl, by rw [List.length_take]; omega⟩
set_option maxHeartbeats 16000000 in
set_option maxRecDepth 100000 in
theorem sp_wrong (A0 : Option Addr) (c0 : Nat) (b : List Int) (A1 : Option Addr) (c1 : Nat) (bad : List S41) (v2 v3 : Value) (off n : Int) (w : World) (hrb : Kd.C (Kd.int .u8) w A0 b.length b) (hcb : b.length ≤ c0) (hrl : Kd.C k41 w A1 bad.length bad) (hcl : bad.length ≤ c1) (hl : bad.length ≤ 8796093021952) (hE : srcErr (min b.length 65536) bad ≠ 0) :
    Calls Try.prog 4 #[.slice A0 b.length c0, .slice A1 bad.length c1, v2, v3, .int .i64 off, .int .i64 n] w fun e w' => e = .returned (.bool true) ∧ Below w.heap.size w w' := by
  obtain ⟨i5, hi5, hy5⟩ := Option.map_eq_some_iff.1 info5
  obtain ⟨m, hm⟩ : ∃ m, m = min b.length 65536 := ⟨_, rfl⟩
  rw [← hm] at hE
  have hcut := cut_to (P := Try.prog) 22 5 .i64 Try.underlying22 hi5 A0 b.length c0 (m : Int) (by omega) (by omega) hcb
  rw [Int.toNat_natCast] at hcut
  have hrc := Kd.C_take hrb (m := m) (by omega)
  obtain ⟨p, hp⟩ : ∃ p, p = b.take m := ⟨_, rfl⟩
  have hpl : m = p.length := by rw [hp, List.length_take]; omega
  rw [← hp] at hrc
  have hmm : min (b.length : Int) 65536 = (p.length : Int) := by omega
  rw [hpl] at hcut hE
  have hbad := bad_small A0 c0 p A1 c1 bad w hrc (by omega) hrl hcl (by omega) hl
  have HBAD := Aside0.mk hbad
  have HE := Aside0.mk hE
  have HE4 := Aside0.mk (bad_end (by omega) bad hE)
  clear hbad hrc hrl hcl hE hrb hcb hm hp hpl hl hi5 hy5
  go_enter Try.func4, Try.ntmps4
  go_wp2_with (first
    | (go_at_call 7; refine HBAD.out.mono ?_; rintro e w1 ⟨_, h2_⟩; obtain ⟨rfl, hb1⟩ := h2_ HE.out; rw [HE4.out]; have HB1 := Aside0.mk hb1; clear hb1 h2_)
    | (go_at_call 9; refine (sources_calls _).mono ?_; rintro e w3 ⟨rfl, hb3⟩; have HB3 := Aside0.mk (below_step HB1.out hb3); have HB1 := HB3; clear hb3))
  go_ret
  exact ⟨rfl, HB3.out⟩
theorem part_laid (nb : Nat) (hnb : nb ≤ 65536) (off n : Int) (h : inR nb off n) : (laid [⟨off, n⟩]).length = n.toNat ∧ (laid [⟨off, n⟩]).length ≤ 65536 ∧ ∀ q ∈ laid [⟨off, n⟩], 0 ≤ q ∧ q < (nb : Int) := by
  obtain ⟨h1, h2⟩ := laid_sum nb hnb [⟨off, n⟩] (by intro x hx; rw [List.mem_singleton] at hx; subst hx; exact h)
  unfold inR at h
  simp only [List.map_cons, List.map_nil, List.sum_cons, List.sum_nil] at h1
  exact ⟨by omega, by omega, h2⟩
set_option maxHeartbeats 16000000 in
set_option maxRecDepth 100000 in
theorem sp_good (A0 : Option Addr) (c0 : Nat) (b : List Int) (A1 : Option Addr) (c1 : Nat) (bad : List S41) (A2 : Option Addr) (c2 : Nat) (l : List S41) (A3 : Option Addr) (c3 : Nat) (k : List S41) (off n : Int) (w : World) (hrb : Kd.C (Kd.int .u8) w A0 b.length b) (hcb : b.length ≤ c0) (hrl : Kd.C k41 w A1 bad.length bad) (hcl : bad.length ≤ c1) (hl : bad.length ≤ 8796093021952) (hr2 : Kd.C k41 w A2 l.length l) (hc2 : l.length ≤ c2) (hr3 : Kd.C k41 w A3 k.length k) (hc3 : k.length ≤ c3) (hE : srcErr (min b.length 65536) bad = 0) :
    Calls Try.prog 4 #[.slice A0 b.length c0, .slice A1 bad.length c1, .slice A2 l.length c2, .slice A3 k.length c3, .int .i64 off, .int .i64 n] w fun e w' => e = .returned (.bool true) ∧ Below w.heap.size w w' := by
  obtain ⟨i5, hi5, hy5⟩ := Option.map_eq_some_iff.1 info5
  obtain ⟨m, hm⟩ : ∃ m, m = min b.length 65536 := ⟨_, rfl⟩
  rw [← hm] at hE
  have hcut := cut_to (P := Try.prog) 22 5 .i64 Try.underlying22 hi5 A0 b.length c0 (m : Int) (by omega) (by omega) hcb
  rw [Int.toNat_natCast] at hcut
  have hrc := Kd.C_take hrb (m := m) (by omega)
  obtain ⟨p, hp⟩ : ∃ p, p = b.take m := ⟨_, rfl⟩
  have hpl : m = p.length := by rw [hp, List.length_take]; omega
  rw [← hp] at hrc
  have hmm : min (b.length : Int) 65536 = (p.length : Int) := by omega
  rw [hpl] at hcut hE
  have hpm : p.length ≤ 65536 := by omega
  have hpc : p.length ≤ c0 := by omega
  have hbad := bad_small A0 c0 p A1 c1 bad w hrc (by omega) hrl hcl (by omega) hl
  have HBAD := Aside0.mk hbad
  have HE := Aside0.mk hE
  have HL := Aside0.mk hl
  have HPM := Aside0.mk hpm
  have HPC := Aside0.mk hpc
  have HRP := Aside0.mk hrc
  have HIM := Aside0.mk (fun W (h : Kd.C k41 W A1 bad.length bad) => image_calls A0 c0 p A1 c1 bad W h hcl hpm hl)
  have HRL := Aside0.mk hrl
  have HR2 := Aside0.mk hr2
  have HR3 := Aside0.mk hr3
  have HC2 := Aside0.mk hc2
  have HC3 := Aside0.mk hc3
  have HPE := Aside0.mk (fun nb (h : nb ≤ 65536) (q : List S41) => (perr_ev nb h q).rounds)
  have hu34 := Try.underlying34
  have hu41 := Try.underlying41
  clear hbad hrc hrl hcl hE hrb hcb hm hp hpl hl hi5 hy5 hpc hr2 hr3 hc2 hc3
  by_cases hR : inR (p.length : Int) off n
  · have hR2 := hR
    unfold inR at hR2
    have HR := Aside0.mk hR
    have t0 : decide (off < 0) = false := decide_eq_false (by omega)
    have t1 : decide (n < 0) = false := decide_eq_false (by omega)
    have t2 : decide ((p.length : Int) < off) = false := decide_eq_false (by omega)
    have hsb : IntKind.i64.wrap ((p.length : Int) - off) = (p.length : Int) - off := by rw [i64_w]; unfold wrap64; omega
    have t3 : decide ((p.length : Int) - off < n) = false := decide_eq_false (by omega)
    clear hR hR2 hpm
    go_enter Try.func4, Try.ntmps4
    go_wp2_with (first
      | (go_at_call 7; refine HBAD.out.mono ?_; rintro e w1 ⟨h1_, _⟩; obtain ⟨gS, B1, d1, B2, d2, rfl, hS, hb1⟩ := h1_ HE.out; have HB1 := Aside0.mk hb1; have hS1 := Aside0.mk (img_src hS HPM.out HL.out); clear hb1 h1_ hS)
      | (go_at_call 9; refine (sources_calls _).mono ?_; rintro e w3 ⟨rfl, hb3⟩; have HB3 := Aside0.mk (below_step HB1.out hb3); have HD3 := Aside0.mk hb3; clear hb3)
      | (go_at_call 10; refine (HIM.out _ (Kd.C_below HRL.out HB3.out)).mono ?_; rintro e w4 ⟨V1, e1, V2, e2, rfl, hC1, hl1, hC2, hb4⟩; have HB4 := Aside0.mk (below_step HB3.out hb4); have HD4 := Aside0.mk (below_step HD3.out hb4); have hi1 := Aside0.mk (And.intro hC1 (And.intro hl1 hC2)); clear hC1 hl1 hC2 hb4))
    have hb5 := below_alloc (Below.refl w4.heap.size w4) (.cells #[.slice A0 p.length c0, .slice V1 p.length e1, .slice V2 p.length e2] 34)
    have hM5 := blk_new w4 (.cells #[.slice A0 p.length c0, .slice V1 p.length e1, .slice V2 p.length e2] 34)
    have HM5 := Aside0.mk (MRow.mk (d2 := e2) rfl (idx_len _) (badOf_len _ _) (Kd.C_below HRP.out (below_step HB4.out hb5)) (Kd.C_below hi1.out.1 hb5) (Kd.C_below hi1.out.2.2 hb5) HPC.out hi1.out.2.1 HPM.out (idx_in _ HPM.out))
    have HB5 := Aside0.mk (below_step HB4.out hb5)
    have HD5 := Aside0.mk (below_step HD4.out hb5)
    have hle := HD4.out.size
    have hle2 := HB4.out.size
    generalize w4.alloc (.cells #[.slice A0 p.length c0, .slice V1 p.length e1, .slice V2 p.length e2] 34) = w5 at hM5 HM5 HB5 HD5 ⊢
    generalize w4.heap.size = mb at hM5 hle hle2 ⊢
    have HLE := Aside0.mk hle
    have HLE2 := Aside0.mk hle2
    replace hM5 := Aside0.mk hM5
    clear hb5 hle hle2 hi1 HD4 HB4
    refine (part_calls w5 _ _ _ _ _ _ p (idx p.length) (badOf p.length bad) (hS1.out.below HD5.out) HPM.out off n).mono ?_
    rintro e w6 ⟨hP_, _⟩
    obtain ⟨gP, AP, cP, rfl, hI, hb6⟩ := hP_ HR.out
    have HI6 := Aside0.mk hI
    have HB6 := Aside0.mk (below_step HB5.out hb6)
    have HD6 := Aside0.mk (below_step HD5.out hb6)
    have hM6 := Aside0.mk (blk_below hM5.out hb6)
    have HM6 := Aside0.mk (HM5.out.below hb6)
    have c0_ : w6.cell? ⟨mb, 0, none⟩ = some (.slice A0 p.length c0) := (blk_cell hM6.out 0).trans rfl
    have c1_ : w6.cell? ⟨mb, 1, none⟩ = some (.slice V1 p.length e1) := (blk_cell hM6.out 1).trans rfl
    have c2_ : w6.cell? ⟨mb, 2, none⟩ = some (.slice V2 p.length e2) := (blk_cell hM6.out 2).trans rfl
    clear hP_ hI hb6 HB5 HD5 hM5 HM5
    have HPL := Aside0.mk (part_laid p.length HPM.out off n HR.out)
    go_wp2_with (first
      | (go_at_call 16; have hX := blk_new w6 (.cells #[.int .i64 off, .int .i64 n] 41); have hb7 := below_alloc (Below.refl w6.heap.size w6) (.cells #[.int .i64 off, .int .i64 n] 41); generalize w6.alloc (.cells #[.int .i64 off, .int .i64 n] 41) = w7 at hX hb7 ⊢; refine ((HM6.out.below hb7).pieces (some ⟨w6.heap.size, 0, none⟩) 1 [⟨off, n⟩] (one_span hX) (Nat.le_refl _) (by simp) HPL.out.2.1 HPL.out.2.2).mono ?_; rintro e w8 ⟨W0, f0, W1, f1, W2, f2, rfl, hO, hb8⟩; have hb78 := below_step hb7 hb8; have HB8 := Aside0.mk (below_step HB6.out hb78); have HD8 := Aside0.mk (below_step HD6.out hb78); have hM8 := Aside0.mk (blk_below hM6.out hb78); have HM8 := Aside0.mk (HM6.out.below hb78); have HI8 := Aside0.mk (HI6.out.below hb78); have HO8 := Aside0.mk hO; clear hX hb7 hb78 hO hb8 HB6 HD6 hM6 HM6 HI6 c0_ c1_ c2_)
      | (go_at_call 11; refine (HO8.out.row.is (pcs_src HI8.out (hS1.out.below HD8.out) (by have := HPL.out; omega) (by simp) HPL.out.1 HPL.out.2.2 HPM.out (idx_len _) (badOf_len _ _) (idx_in _ HPM.out)) 0 n).mono ?_; rintro e w9 ⟨rfl, hb9⟩; have HBX := Aside0.mk (below_step HB8.out hb9); have HD9 := Aside0.mk (below_step HD8.out hb9); have HBLK := Aside0.mk (blk_below hM8.out hb9); have HROW := Aside0.mk (HM8.out.below hb9); clear hb9 HB8 HD8 hM8 HM8 HI8 HO8))
    have hBL := HBLK
    have hba := below_alloc (Below.refl w9.heap.size w9) (.cells #[.slice A2 l.length c2, .slice A3 k.length c3] 23)
    have hX := blk_new w9 (.cells #[.slice A2 l.length c2, .slice A3 k.length c3] 23)
    have HSRC := Aside0.mk (PSrc.base hS1.out (below_step HD9.out hba))
    replace HBX := Aside0.mk (below_step HBX.out hba)
    replace HBLK := Aside0.mk (blk_below HBLK.out hba)
    replace HROW := Aside0.mk (HROW.out.below hba)
    have HMX := Aside0.mk (show mb ≠ w9.heap.size from by have := blk_lt hBL.out; omega)
    generalize w9.alloc (.cells #[.slice A2 l.length c2, .slice A3 k.length c3] 23) = wx at hX HSRC HBX HBLK HROW ⊢
    generalize w9.heap.size = X at hX HMX ⊢
    have HPAIR := Aside0.mk hX
    clear hba hX HD9 hS1 hBL
    go_loopw [107, 13] (fun vi vs wr => SPRel w w1 mb X #[.slice A2 l.length c2, .slice A3 k.length c3] wr vi vs) (fun vi _ _ => 2 - (intOf vi).toNat)
    case atStart => exact ⟨0, _, _, _, _, _, _, _, _, _, _, _, _, _, _, _, _, by omega, rfl, rfl, HSRC, HROW, HBLK, HPAIR, HBX⟩
    case round =>
      clear HSRC HROW HBLK HPAIR HBX
      obtain ⟨i, T, x, fR, fO, fS, fP, bb, ff, gg, nn, V0, d0, V1, d1, V2, d2, hi, rfl, rfl, HSRC, HROW, HBLK, HPAIR, HBX⟩ := hrel
      by_cases hlt : i < 2
      · have hlti : (i : Int) < 2 := by omega
        have hnx : IntKind.i64.wrap ((i : Int) + 1) = (i : Int) + 1 := by rw [i64_w]; unfold wrap64; omega
        obtain ⟨AL, cL, L, ecell, hCL, hLc⟩ : ∃ (AL : Option Addr) (cL : Nat) (L : List S41), wr.cell? ⟨X, i, none⟩ = some (.slice AL L.length cL) ∧ Kd.C k41 w AL L.length L ∧ L.length ≤ cL := by
          match i, hlt with
          | 0, _ => exact ⟨A2, c2, l, (blk_cell HPAIR.out 0).trans rfl, HR2.out, HC2.out⟩
          | 1, _ => exact ⟨A3, c3, k, (blk_cell HPAIR.out 1).trans rfl, HR3.out, HC3.out⟩
        have HCL := Aside0.mk (Kd.C_below hCL HBX.out)
        have HLc := Aside0.mk hLc
        have hsrc := HSRC.out.src
        have hSr := hsrc.mS.run
        have hSe := hsrc.mS.ent
        have hSa := hsrc.mS.ahead
        have HSS := Aside0.mk hsrc
        obtain ⟨pe, hpe⟩ : ∃ pe, pe = pcsErr nn L := ⟨_, rfl⟩
        obtain ⟨kp, hkp⟩ := HPE.out nn HROW.out.le L
        rw [← hpe] at hkp
        have HKP := Aside0.mk hkp
        by_cases hz : pe = 0
        · subst hz
          have HPZ := Aside0.mk hpe.symm
          have hpin := pcsErr_in HPZ.out
          obtain ⟨hls1, hls2⟩ := laid_sum nn HROW.out.le L hpin.2.1
          have HL4 := Aside0.mk hpin.1
          have HLL := Aside0.mk (show (laid L).length ≤ 65536 by have := hpin.2.2; omega)
          have HLS := Aside0.mk (show (L.map S41.f1).sum.toNat = (laid L).length by omega)
          have HLW := Aside0.mk hls2
          clear hpe hkp hCL hLc hsrc hpin hls1 hls2
          go_wp2_with (first
            | (go_at_call 17; refine (pcs_calls _ T x fR fO fS fP bb ff gg HSS.out (by rw [HROW.out.e0]; exact HROW.out.le) AL cL L HCL.out HLc.out).mono ?_; rintro e w7 ⟨h1_, _⟩; rw [HROW.out.e0] at h1_; obtain ⟨gq, Aq, cq, rfl, hIq, hRq, hgq, hb7⟩ := h1_ HPZ.out; have HIq := Aside0.mk hIq; have HRq := Aside0.mk hRq; have HB7 := Aside0.mk hb7; clear h1_ hIq hRq hgq hb7))
          refine ((HSS.out.ans _ HB7.out).size).mono ?_
          rintro e w8 ⟨rfl, hb8⟩
          rw [HROW.out.e0]
          have HB8 := Aside0.mk (below_step HB7.out hb8)
          replace HIq := Aside0.mk (HIq.out.below hb8)
          replace HRq := Aside0.mk (Kd.R_below HRq.out hb8)
          clear hb8 HB7
          go_wp2_with (first
            | (go_at_call 18; refine (wracklaw1_piecesErr.calls kp AL cL L (nn : Int) 0 _ (Kd.C_below HCL.out HB8.out) HLc.out HKP.out).mono ?_; rintro e wa ⟨rfl, hba⟩; have HBa := Aside0.mk (below_step HB8.out hba); have HIa := Aside0.mk (HIq.out.below hba); have HRa := Aside0.mk (Kd.R_below HRq.out hba); have hma := blk_below HBLK.out HBa.out; have c0_ : wa.cell? ⟨mb, 0, none⟩ = some (.slice V0 nn d0) := (blk_cell hma 0).trans rfl; have c1_ : wa.cell? ⟨mb, 1, none⟩ = some (.slice V1 nn d1) := (blk_cell hma 1).trans rfl; have c2_ : wa.cell? ⟨mb, 2, none⟩ = some (.slice V2 nn d2) := (blk_cell hma 2).trans rfl; clear hba HB8 HIq HRq hma)
            | (go_at_call 16; refine ((HROW.out.below HBa.out).pieces AL cL L (Kd.C_below HCL.out HBa.out) HLc.out HL4.out HLL.out HLW.out).mono ?_; rintro e wb ⟨W0, f0, W1, f1, W2, f2, rfl, hO, hbb⟩; have HBb := Aside0.mk (below_step HBa.out hbb); have HIb := Aside0.mk (HIa.out.below hbb); have HRb := Aside0.mk (Kd.R_below HRa.out hbb); have HOb := Aside0.mk hO; have hmb := blk_below HBLK.out HBb.out; have o0 : wb.cell? ⟨mb, 0, none⟩ = some (.slice V0 nn d0) := (blk_cell hmb 0).trans rfl; have k0 := blk_frozen hmb 0; have y1 := blk_put hmb 0 (.slice W0 (laid L).length f0) rfl; have o1 : (wb.setCell ⟨mb, 0, none⟩ (.slice W0 (laid L).length f0)).cell? ⟨mb, 1, none⟩ = some (.slice V1 nn d1) := (blk_cell y1 1).trans rfl; have k1 := blk_frozen y1 1; have y2 := blk_put y1 1 (.slice W1 (laid L).length f1) rfl; have o2 : ((wb.setCell ⟨mb, 0, none⟩ (.slice W0 (laid L).length f0)).setCell ⟨mb, 1, none⟩ (.slice W1 (laid L).length f1)).cell? ⟨mb, 2, none⟩ = some (.slice V2 nn d2) := (blk_cell y2 2).trans rfl; have k2 := blk_frozen y2 2; have hk1 := blk_frozen hmb 1; have hk2 := blk_frozen hmb 2; have hmb' := Aside0.mk hmb; clear c0_ c1_ c2_ hO hbb y1 y2 HBa HIa HRa hmb))
          obtain ⟨hch, hrow, hpair, hbc, hblk⟩ := sp_step HSRC.out HROW.out HPAIR.out HBX.out HMX.out HLE.out HLE2.out HBb.out HIb.out HRb.out HOb.out hmb'.out HLS.out HLL.out HL4.out HLW.out
          clear hmb' o0 o1 o2 k0 k1 k2 hk1 hk2 HIb HRb HOb HBb ecell
          generalize ((wb.setCell ⟨mb, 0, none⟩ (.slice W0 (laid L).length f0)).setCell ⟨mb, 1, none⟩ (.slice W1 (laid L).length f1)).setCell ⟨mb, 2, none⟩ (.slice W2 (laid L).length f2) = wc at hch hrow hpair hbc hblk ⊢
          refine (hrow.is hch.src off n).mono ?_
          rintro e wd ⟨rfl, hbd⟩
          have HCH := Aside0.mk (hch.keep hbd)
          have HRW := Aside0.mk (hrow.below hbd)
          have HPR := Aside0.mk (blk_below hpair hbd)
          have HBD := Aside0.mk (below_step hbc hbd)
          have hblk2 := blk_below hblk hbd
          have c0_ : wd.cell? ⟨mb, 0, none⟩ = some (.slice W0 (laid L).length f0) := (blk_cell hblk2 0).trans rfl
          have c1_ : wd.cell? ⟨mb, 1, none⟩ = some (.slice W1 (laid L).length f1) := (blk_cell hblk2 1).trans rfl
          have c2_ : wd.cell? ⟨mb, 2, none⟩ = some (.slice W2 (laid L).length f2) := (blk_cell hblk2 2).trans rfl
          have HBK := Aside0.mk hblk2
          clear hch hrow hpair hbc hblk hbd hblk2
          go_wp2_with (first
            | (go_at_call 11; refine (HRW.out.is HCH.out.src 0 ((laid L).length : Int)).mono ?_; rintro e we ⟨rfl, hbe⟩; have HCH2 := Aside0.mk (HCH.out.keep hbe); have HRW2 := Aside0.mk (HRW.out.below hbe); have HPR2 := Aside0.mk (blk_below HPR.out hbe); have HBD2 := Aside0.mk (below_step HBD.out hbe); have HBK2 := Aside0.mk (blk_below HBK.out hbe); clear hbe c0_ c1_ c2_))
          go_roundw
          case rel => exact ⟨i + 1, _, _, _, _, _, _, _, _, _, _, _, _, _, _, _, _, by omega, by go_num, rfl, HCH2, HRW2, HBK2, HPR2, HBD2⟩
          case measure => simp [intOf]; omega
        · have hz2 : (pe == 0) = false := by simpa using hz
          have HPN := Aside0.mk (show pcsErr nn L ≠ 0 by rw [← hpe]; exact hz)
          replace hpe := Aside0.mk hpe
          clear hkp hCL hLc hsrc
          go_wp2_with (first
            | (go_at_call 17; refine (pcs_calls _ T x fR fO fS fP bb ff gg HSS.out (by rw [HROW.out.e0]; exact HROW.out.le) AL cL L HCL.out HLc.out).mono ?_; rintro e w7 ⟨_, h2_⟩; rw [HROW.out.e0, ← hpe.out] at h2_; obtain ⟨rfl, hb7⟩ := h2_ hz; have HB7 := Aside0.mk hb7; clear h2_ hb7))
          refine ((HSS.out.ans _ HB7.out).size).mono ?_
          rintro e w8 ⟨rfl, hb8⟩
          rw [HROW.out.e0]
          have HB8 := Aside0.mk (below_step HB7.out hb8)
          clear hb8 HB7
          go_wp2_with (first
            | (go_at_call 18; refine (wracklaw1_piecesErr.calls kp AL cL L (nn : Int) pe _ (Kd.C_below HCL.out HB8.out) HLc.out HKP.out).mono ?_; rintro e wa ⟨rfl, hba⟩; have HBa := Aside0.mk (below_step HBX.out (below_step HB8.out hba)); clear hba HB8))
          go_ret
          exact ⟨rfl, HBa.out⟩
      · obtain rfl : i = 2 := by omega
        go_wp2
        go_ret
        exact ⟨rfl, HBX.out⟩
  · have HR := Aside0.mk hR
    clear hR hpm
    go_enter Try.func4, Try.ntmps4
    go_wp2_with (first
      | (go_at_call 7; refine HBAD.out.mono ?_; rintro e w1 ⟨h1_, _⟩; obtain ⟨gS, B1, d1, B2, d2, rfl, hS, hb1⟩ := h1_ HE.out; have HB1 := Aside0.mk hb1; have hS1 := Aside0.mk (img_src hS HPM.out HL.out); clear hb1 h1_ hS)
      | (go_at_call 9; refine (sources_calls _).mono ?_; rintro e w3 ⟨rfl, hb3⟩; have HB3 := Aside0.mk (below_step HB1.out hb3); have HD3 := Aside0.mk hb3; clear hb3)
      | (go_at_call 10; refine (HIM.out _ (Kd.C_below HRL.out HB3.out)).mono ?_; rintro e w4 ⟨V1, e1, V2, e2, rfl, hC1, hl1, hC2, hb4⟩; have HB4 := Aside0.mk (below_step HB3.out hb4); have HD4 := Aside0.mk (below_step HD3.out hb4); have hi1 := Aside0.mk (And.intro hC1 (And.intro hl1 hC2)); clear hC1 hl1 hC2 hb4))
    have hb5 := below_alloc (Below.refl w4.heap.size w4) (.cells #[.slice A0 p.length c0, .slice V1 p.length e1, .slice V2 p.length e2] 34)
    have hM5 := blk_new w4 (.cells #[.slice A0 p.length c0, .slice V1 p.length e1, .slice V2 p.length e2] 34)
    have HM5 := Aside0.mk (MRow.mk (d2 := e2) rfl (idx_len _) (badOf_len _ _) (Kd.C_below HRP.out (below_step HB4.out hb5)) (Kd.C_below hi1.out.1 hb5) (Kd.C_below hi1.out.2.2 hb5) HPC.out hi1.out.2.1 HPM.out (idx_in _ HPM.out))
    have HB5 := Aside0.mk (below_step HB4.out hb5)
    have HD5 := Aside0.mk (below_step HD4.out hb5)
    have hle := HD4.out.size
    have hle2 := HB4.out.size
    generalize w4.alloc (.cells #[.slice A0 p.length c0, .slice V1 p.length e1, .slice V2 p.length e2] 34) = w5 at hM5 HM5 HB5 HD5 ⊢
    generalize w4.heap.size = mb at hM5 hle hle2 ⊢
    have HLE := Aside0.mk hle
    have HLE2 := Aside0.mk hle2
    replace hM5 := Aside0.mk hM5
    clear hb5 hle hle2 hi1 HD4 HB4
    refine (part_calls w5 _ _ _ _ _ _ p (idx p.length) (badOf p.length bad) (hS1.out.below HD5.out) HPM.out off n).mono ?_
    rintro e w6 ⟨_, hP_⟩
    obtain ⟨rfl, hb6⟩ := hP_ HR.out
    have HBX := Aside0.mk (below_step HB5.out hb6)
    have HD9 := Aside0.mk (below_step HD5.out hb6)
    have HBLK := Aside0.mk (blk_below hM5.out hb6)
    have HROW := Aside0.mk (HM5.out.below hb6)
    have hBL := HBLK
    clear hP_ hb6 HB5 HD5 hM5 HM5
    by_cases d0 : off < 0
    · have t0 := decide_eq_true d0
      clear d0
      go_wp2
      have hba := below_alloc (Below.refl w6.heap.size w6) (.cells #[.slice A2 l.length c2, .slice A3 k.length c3] 23)
      have hX := blk_new w6 (.cells #[.slice A2 l.length c2, .slice A3 k.length c3] 23)
      have HSRC := Aside0.mk (PSrc.base hS1.out (below_step HD9.out hba))
      replace HBX := Aside0.mk (below_step HBX.out hba)
      replace HBLK := Aside0.mk (blk_below HBLK.out hba)
      replace HROW := Aside0.mk (HROW.out.below hba)
      have HMX := Aside0.mk (show mb ≠ w6.heap.size from by have := blk_lt hBL.out; omega)
      generalize w6.alloc (.cells #[.slice A2 l.length c2, .slice A3 k.length c3] 23) = wx at hX HSRC HBX HBLK HROW ⊢
      generalize w6.heap.size = X at hX HMX ⊢
      have HPAIR := Aside0.mk hX
      clear hba hX HD9 hS1 hBL
      go_loopw [107, 13] (fun vi vs wr => SPRel w w1 mb X #[.slice A2 l.length c2, .slice A3 k.length c3] wr vi vs) (fun vi _ _ => 2 - (intOf vi).toNat)
      case atStart => exact ⟨0, _, _, _, _, _, _, _, _, _, _, _, _, _, _, _, _, by omega, rfl, rfl, HSRC, HROW, HBLK, HPAIR, HBX⟩
      case round =>
        clear HSRC HROW HBLK HPAIR HBX
        obtain ⟨i, T, x, fR, fO, fS, fP, bb, ff, gg, nn, V0, d0, V1, d1, V2, d2, hi, rfl, rfl, HSRC, HROW, HBLK, HPAIR, HBX⟩ := hrel
        by_cases hlt : i < 2
        · have hlti : (i : Int) < 2 := by omega
          have hnx : IntKind.i64.wrap ((i : Int) + 1) = (i : Int) + 1 := by rw [i64_w]; unfold wrap64; omega
          obtain ⟨AL, cL, L, ecell, hCL, hLc⟩ : ∃ (AL : Option Addr) (cL : Nat) (L : List S41), wr.cell? ⟨X, i, none⟩ = some (.slice AL L.length cL) ∧ Kd.C k41 w AL L.length L ∧ L.length ≤ cL := by
            match i, hlt with
            | 0, _ => exact ⟨A2, c2, l, (blk_cell HPAIR.out 0).trans rfl, HR2.out, HC2.out⟩
            | 1, _ => exact ⟨A3, c3, k, (blk_cell HPAIR.out 1).trans rfl, HR3.out, HC3.out⟩
          have HCL := Aside0.mk (Kd.C_below hCL HBX.out)
          have HLc := Aside0.mk hLc
          have hsrc := HSRC.out.src
          have hSr := hsrc.mS.run
          have hSe := hsrc.mS.ent
          have hSa := hsrc.mS.ahead
          have HSS := Aside0.mk hsrc
          obtain ⟨pe, hpe⟩ : ∃ pe, pe = pcsErr nn L := ⟨_, rfl⟩
          obtain ⟨kp, hkp⟩ := HPE.out nn HROW.out.le L
          rw [← hpe] at hkp
          have HKP := Aside0.mk hkp
          by_cases hz : pe = 0
          · subst hz
            have HPZ := Aside0.mk hpe.symm
            have hpin := pcsErr_in HPZ.out
            obtain ⟨hls1, hls2⟩ := laid_sum nn HROW.out.le L hpin.2.1
            have HL4 := Aside0.mk hpin.1
            have HLL := Aside0.mk (show (laid L).length ≤ 65536 by have := hpin.2.2; omega)
            have HLS := Aside0.mk (show (L.map S41.f1).sum.toNat = (laid L).length by omega)
            have HLW := Aside0.mk hls2
            clear hpe hkp hCL hLc hsrc hpin hls1 hls2
            go_wp2_with (first
              | (go_at_call 17; refine (pcs_calls _ T x fR fO fS fP bb ff gg HSS.out (by rw [HROW.out.e0]; exact HROW.out.le) AL cL L HCL.out HLc.out).mono ?_; rintro e w7 ⟨h1_, _⟩; rw [HROW.out.e0] at h1_; obtain ⟨gq, Aq, cq, rfl, hIq, hRq, hgq, hb7⟩ := h1_ HPZ.out; have HIq := Aside0.mk hIq; have HRq := Aside0.mk hRq; have HB7 := Aside0.mk hb7; clear h1_ hIq hRq hgq hb7))
            refine ((HSS.out.ans _ HB7.out).size).mono ?_
            rintro e w8 ⟨rfl, hb8⟩
            rw [HROW.out.e0]
            have HB8 := Aside0.mk (below_step HB7.out hb8)
            replace HIq := Aside0.mk (HIq.out.below hb8)
            replace HRq := Aside0.mk (Kd.R_below HRq.out hb8)
            clear hb8 HB7
            go_wp2_with (first
              | (go_at_call 18; refine (wracklaw1_piecesErr.calls kp AL cL L (nn : Int) 0 _ (Kd.C_below HCL.out HB8.out) HLc.out HKP.out).mono ?_; rintro e wa ⟨rfl, hba⟩; have HBa := Aside0.mk (below_step HB8.out hba); have HIa := Aside0.mk (HIq.out.below hba); have HRa := Aside0.mk (Kd.R_below HRq.out hba); have hma := blk_below HBLK.out HBa.out; have c0_ : wa.cell? ⟨mb, 0, none⟩ = some (.slice V0 nn d0) := (blk_cell hma 0).trans rfl; have c1_ : wa.cell? ⟨mb, 1, none⟩ = some (.slice V1 nn d1) := (blk_cell hma 1).trans rfl; have c2_ : wa.cell? ⟨mb, 2, none⟩ = some (.slice V2 nn d2) := (blk_cell hma 2).trans rfl; clear hba HB8 HIq HRq hma)
              | (go_at_call 16; refine ((HROW.out.below HBa.out).pieces AL cL L (Kd.C_below HCL.out HBa.out) HLc.out HL4.out HLL.out HLW.out).mono ?_; rintro e wb ⟨W0, f0, W1, f1, W2, f2, rfl, hO, hbb⟩; have HBb := Aside0.mk (below_step HBa.out hbb); have HIb := Aside0.mk (HIa.out.below hbb); have HRb := Aside0.mk (Kd.R_below HRa.out hbb); have HOb := Aside0.mk hO; have hmb := blk_below HBLK.out HBb.out; have o0 : wb.cell? ⟨mb, 0, none⟩ = some (.slice V0 nn d0) := (blk_cell hmb 0).trans rfl; have k0 := blk_frozen hmb 0; have y1 := blk_put hmb 0 (.slice W0 (laid L).length f0) rfl; have o1 : (wb.setCell ⟨mb, 0, none⟩ (.slice W0 (laid L).length f0)).cell? ⟨mb, 1, none⟩ = some (.slice V1 nn d1) := (blk_cell y1 1).trans rfl; have k1 := blk_frozen y1 1; have y2 := blk_put y1 1 (.slice W1 (laid L).length f1) rfl; have o2 : ((wb.setCell ⟨mb, 0, none⟩ (.slice W0 (laid L).length f0)).setCell ⟨mb, 1, none⟩ (.slice W1 (laid L).length f1)).cell? ⟨mb, 2, none⟩ = some (.slice V2 nn d2) := (blk_cell y2 2).trans rfl; have k2 := blk_frozen y2 2; have hk1 := blk_frozen hmb 1; have hk2 := blk_frozen hmb 2; have hmb' := Aside0.mk hmb; clear c0_ c1_ c2_ hO hbb y1 y2 HBa HIa HRa hmb))
            obtain ⟨hch, hrow, hpair, hbc, hblk⟩ := sp_step HSRC.out HROW.out HPAIR.out HBX.out HMX.out HLE.out HLE2.out HBb.out HIb.out HRb.out HOb.out hmb'.out HLS.out HLL.out HL4.out HLW.out
            clear hmb' o0 o1 o2 k0 k1 k2 hk1 hk2 HIb HRb HOb HBb ecell
            generalize ((wb.setCell ⟨mb, 0, none⟩ (.slice W0 (laid L).length f0)).setCell ⟨mb, 1, none⟩ (.slice W1 (laid L).length f1)).setCell ⟨mb, 2, none⟩ (.slice W2 (laid L).length f2) = wc at hch hrow hpair hbc hblk ⊢
            refine (hrow.is hch.src off n).mono ?_
            rintro e wd ⟨rfl, hbd⟩
            have HCH := Aside0.mk (hch.keep hbd)
            have HRW := Aside0.mk (hrow.below hbd)
            have HPR := Aside0.mk (blk_below hpair hbd)
            have HBD := Aside0.mk (below_step hbc hbd)
            have hblk2 := blk_below hblk hbd
            have c0_ : wd.cell? ⟨mb, 0, none⟩ = some (.slice W0 (laid L).length f0) := (blk_cell hblk2 0).trans rfl
            have c1_ : wd.cell? ⟨mb, 1, none⟩ = some (.slice W1 (laid L).length f1) := (blk_cell hblk2 1).trans rfl
            have c2_ : wd.cell? ⟨mb, 2, none⟩ = some (.slice W2 (laid L).length f2) := (blk_cell hblk2 2).trans rfl
            have HBK := Aside0.mk hblk2
            clear hch hrow hpair hbc hblk hbd hblk2
            go_wp2_with (first
              | (go_at_call 11; refine (HRW.out.is HCH.out.src 0 ((laid L).length : Int)).mono ?_; rintro e we ⟨rfl, hbe⟩; have HCH2 := Aside0.mk (HCH.out.keep hbe); have HRW2 := Aside0.mk (HRW.out.below hbe); have HPR2 := Aside0.mk (blk_below HPR.out hbe); have HBD2 := Aside0.mk (below_step HBD.out hbe); have HBK2 := Aside0.mk (blk_below HBK.out hbe); clear hbe c0_ c1_ c2_))
            go_roundw
            case rel => exact ⟨i + 1, _, _, _, _, _, _, _, _, _, _, _, _, _, _, _, _, by omega, by go_num, rfl, HCH2, HRW2, HBK2, HPR2, HBD2⟩
            case measure => simp [intOf]; omega
          · have hz2 : (pe == 0) = false := by simpa using hz
            have HPN := Aside0.mk (show pcsErr nn L ≠ 0 by rw [← hpe]; exact hz)
            replace hpe := Aside0.mk hpe
            clear hkp hCL hLc hsrc
            go_wp2_with (first
              | (go_at_call 17; refine (pcs_calls _ T x fR fO fS fP bb ff gg HSS.out (by rw [HROW.out.e0]; exact HROW.out.le) AL cL L HCL.out HLc.out).mono ?_; rintro e w7 ⟨_, h2_⟩; rw [HROW.out.e0, ← hpe.out] at h2_; obtain ⟨rfl, hb7⟩ := h2_ hz; have HB7 := Aside0.mk hb7; clear h2_ hb7))
            refine ((HSS.out.ans _ HB7.out).size).mono ?_
            rintro e w8 ⟨rfl, hb8⟩
            rw [HROW.out.e0]
            have HB8 := Aside0.mk (below_step HB7.out hb8)
            clear hb8 HB7
            go_wp2_with (first
              | (go_at_call 18; refine (wracklaw1_piecesErr.calls kp AL cL L (nn : Int) pe _ (Kd.C_below HCL.out HB8.out) HLc.out HKP.out).mono ?_; rintro e wa ⟨rfl, hba⟩; have HBa := Aside0.mk (below_step HBX.out (below_step HB8.out hba)); clear hba HB8))
            go_ret
            exact ⟨rfl, HBa.out⟩
        · obtain rfl : i = 2 := by omega
          go_wp2
          go_ret
          exact ⟨rfl, HBX.out⟩
    · have t0 := decide_eq_false d0
      by_cases d1 : n < 0
      · have t1 := decide_eq_true d1
        clear d0 d1
        go_wp2
        have hba := below_alloc (Below.refl w6.heap.size w6) (.cells #[.slice A2 l.length c2, .slice A3 k.length c3] 23)
        have hX := blk_new w6 (.cells #[.slice A2 l.length c2, .slice A3 k.length c3] 23)
        have HSRC := Aside0.mk (PSrc.base hS1.out (below_step HD9.out hba))
        replace HBX := Aside0.mk (below_step HBX.out hba)
        replace HBLK := Aside0.mk (blk_below HBLK.out hba)
        replace HROW := Aside0.mk (HROW.out.below hba)
        have HMX := Aside0.mk (show mb ≠ w6.heap.size from by have := blk_lt hBL.out; omega)
        generalize w6.alloc (.cells #[.slice A2 l.length c2, .slice A3 k.length c3] 23) = wx at hX HSRC HBX HBLK HROW ⊢
        generalize w6.heap.size = X at hX HMX ⊢
        have HPAIR := Aside0.mk hX
        clear hba hX HD9 hS1 hBL
        go_loopw [107, 13] (fun vi vs wr => SPRel w w1 mb X #[.slice A2 l.length c2, .slice A3 k.length c3] wr vi vs) (fun vi _ _ => 2 - (intOf vi).toNat)
        case atStart => exact ⟨0, _, _, _, _, _, _, _, _, _, _, _, _, _, _, _, _, by omega, rfl, rfl, HSRC, HROW, HBLK, HPAIR, HBX⟩
        case round =>
          clear HSRC HROW HBLK HPAIR HBX
          obtain ⟨i, T, x, fR, fO, fS, fP, bb, ff, gg, nn, V0, d0, V1, d1, V2, d2, hi, rfl, rfl, HSRC, HROW, HBLK, HPAIR, HBX⟩ := hrel
          by_cases hlt : i < 2
          · have hlti : (i : Int) < 2 := by omega
            have hnx : IntKind.i64.wrap ((i : Int) + 1) = (i : Int) + 1 := by rw [i64_w]; unfold wrap64; omega
            obtain ⟨AL, cL, L, ecell, hCL, hLc⟩ : ∃ (AL : Option Addr) (cL : Nat) (L : List S41), wr.cell? ⟨X, i, none⟩ = some (.slice AL L.length cL) ∧ Kd.C k41 w AL L.length L ∧ L.length ≤ cL := by
              match i, hlt with
              | 0, _ => exact ⟨A2, c2, l, (blk_cell HPAIR.out 0).trans rfl, HR2.out, HC2.out⟩
              | 1, _ => exact ⟨A3, c3, k, (blk_cell HPAIR.out 1).trans rfl, HR3.out, HC3.out⟩
            have HCL := Aside0.mk (Kd.C_below hCL HBX.out)
            have HLc := Aside0.mk hLc
            have hsrc := HSRC.out.src
            have hSr := hsrc.mS.run
            have hSe := hsrc.mS.ent
            have hSa := hsrc.mS.ahead
            have HSS := Aside0.mk hsrc
            obtain ⟨pe, hpe⟩ : ∃ pe, pe = pcsErr nn L := ⟨_, rfl⟩
            obtain ⟨kp, hkp⟩ := HPE.out nn HROW.out.le L
            rw [← hpe] at hkp
            have HKP := Aside0.mk hkp
            by_cases hz : pe = 0
            · subst hz
              have HPZ := Aside0.mk hpe.symm
              have hpin := pcsErr_in HPZ.out
              obtain ⟨hls1, hls2⟩ := laid_sum nn HROW.out.le L hpin.2.1
              have HL4 := Aside0.mk hpin.1
              have HLL := Aside0.mk (show (laid L).length ≤ 65536 by have := hpin.2.2; omega)
              have HLS := Aside0.mk (show (L.map S41.f1).sum.toNat = (laid L).length by omega)
              have HLW := Aside0.mk hls2
              clear hpe hkp hCL hLc hsrc hpin hls1 hls2
              go_wp2_with (first
                | (go_at_call 17; refine (pcs_calls _ T x fR fO fS fP bb ff gg HSS.out (by rw [HROW.out.e0]; exact HROW.out.le) AL cL L HCL.out HLc.out).mono ?_; rintro e w7 ⟨h1_, _⟩; rw [HROW.out.e0] at h1_; obtain ⟨gq, Aq, cq, rfl, hIq, hRq, hgq, hb7⟩ := h1_ HPZ.out; have HIq := Aside0.mk hIq; have HRq := Aside0.mk hRq; have HB7 := Aside0.mk hb7; clear h1_ hIq hRq hgq hb7))
              refine ((HSS.out.ans _ HB7.out).size).mono ?_
              rintro e w8 ⟨rfl, hb8⟩
              rw [HROW.out.e0]
              have HB8 := Aside0.mk (below_step HB7.out hb8)
              replace HIq := Aside0.mk (HIq.out.below hb8)
              replace HRq := Aside0.mk (Kd.R_below HRq.out hb8)
              clear hb8 HB7
              go_wp2_with (first
                | (go_at_call 18; refine (wracklaw1_piecesErr.calls kp AL cL L (nn : Int) 0 _ (Kd.C_below HCL.out HB8.out) HLc.out HKP.out).mono ?_; rintro e wa ⟨rfl, hba⟩; have HBa := Aside0.mk (below_step HB8.out hba); have HIa := Aside0.mk (HIq.out.below hba); have HRa := Aside0.mk (Kd.R_below HRq.out hba); have hma := blk_below HBLK.out HBa.out; have c0_ : wa.cell? ⟨mb, 0, none⟩ = some (.slice V0 nn d0) := (blk_cell hma 0).trans rfl; have c1_ : wa.cell? ⟨mb, 1, none⟩ = some (.slice V1 nn d1) := (blk_cell hma 1).trans rfl; have c2_ : wa.cell? ⟨mb, 2, none⟩ = some (.slice V2 nn d2) := (blk_cell hma 2).trans rfl; clear hba HB8 HIq HRq hma)
                | (go_at_call 16; refine ((HROW.out.below HBa.out).pieces AL cL L (Kd.C_below HCL.out HBa.out) HLc.out HL4.out HLL.out HLW.out).mono ?_; rintro e wb ⟨W0, f0, W1, f1, W2, f2, rfl, hO, hbb⟩; have HBb := Aside0.mk (below_step HBa.out hbb); have HIb := Aside0.mk (HIa.out.below hbb); have HRb := Aside0.mk (Kd.R_below HRa.out hbb); have HOb := Aside0.mk hO; have hmb := blk_below HBLK.out HBb.out; have o0 : wb.cell? ⟨mb, 0, none⟩ = some (.slice V0 nn d0) := (blk_cell hmb 0).trans rfl; have k0 := blk_frozen hmb 0; have y1 := blk_put hmb 0 (.slice W0 (laid L).length f0) rfl; have o1 : (wb.setCell ⟨mb, 0, none⟩ (.slice W0 (laid L).length f0)).cell? ⟨mb, 1, none⟩ = some (.slice V1 nn d1) := (blk_cell y1 1).trans rfl; have k1 := blk_frozen y1 1; have y2 := blk_put y1 1 (.slice W1 (laid L).length f1) rfl; have o2 : ((wb.setCell ⟨mb, 0, none⟩ (.slice W0 (laid L).length f0)).setCell ⟨mb, 1, none⟩ (.slice W1 (laid L).length f1)).cell? ⟨mb, 2, none⟩ = some (.slice V2 nn d2) := (blk_cell y2 2).trans rfl; have k2 := blk_frozen y2 2; have hk1 := blk_frozen hmb 1; have hk2 := blk_frozen hmb 2; have hmb' := Aside0.mk hmb; clear c0_ c1_ c2_ hO hbb y1 y2 HBa HIa HRa hmb))
              obtain ⟨hch, hrow, hpair, hbc, hblk⟩ := sp_step HSRC.out HROW.out HPAIR.out HBX.out HMX.out HLE.out HLE2.out HBb.out HIb.out HRb.out HOb.out hmb'.out HLS.out HLL.out HL4.out HLW.out
              clear hmb' o0 o1 o2 k0 k1 k2 hk1 hk2 HIb HRb HOb HBb ecell
              generalize ((wb.setCell ⟨mb, 0, none⟩ (.slice W0 (laid L).length f0)).setCell ⟨mb, 1, none⟩ (.slice W1 (laid L).length f1)).setCell ⟨mb, 2, none⟩ (.slice W2 (laid L).length f2) = wc at hch hrow hpair hbc hblk ⊢
              refine (hrow.is hch.src off n).mono ?_
              rintro e wd ⟨rfl, hbd⟩
              have HCH := Aside0.mk (hch.keep hbd)
              have HRW := Aside0.mk (hrow.below hbd)
              have HPR := Aside0.mk (blk_below hpair hbd)
              have HBD := Aside0.mk (below_step hbc hbd)
              have hblk2 := blk_below hblk hbd
              have c0_ : wd.cell? ⟨mb, 0, none⟩ = some (.slice W0 (laid L).length f0) := (blk_cell hblk2 0).trans rfl
              have c1_ : wd.cell? ⟨mb, 1, none⟩ = some (.slice W1 (laid L).length f1) := (blk_cell hblk2 1).trans rfl
              have c2_ : wd.cell? ⟨mb, 2, none⟩ = some (.slice W2 (laid L).length f2) := (blk_cell hblk2 2).trans rfl
              have HBK := Aside0.mk hblk2
              clear hch hrow hpair hbc hblk hbd hblk2
              go_wp2_with (first
                | (go_at_call 11; refine (HRW.out.is HCH.out.src 0 ((laid L).length : Int)).mono ?_; rintro e we ⟨rfl, hbe⟩; have HCH2 := Aside0.mk (HCH.out.keep hbe); have HRW2 := Aside0.mk (HRW.out.below hbe); have HPR2 := Aside0.mk (blk_below HPR.out hbe); have HBD2 := Aside0.mk (below_step HBD.out hbe); have HBK2 := Aside0.mk (blk_below HBK.out hbe); clear hbe c0_ c1_ c2_))
              go_roundw
              case rel => exact ⟨i + 1, _, _, _, _, _, _, _, _, _, _, _, _, _, _, _, _, by omega, by go_num, rfl, HCH2, HRW2, HBK2, HPR2, HBD2⟩
              case measure => simp [intOf]; omega
            · have hz2 : (pe == 0) = false := by simpa using hz
              have HPN := Aside0.mk (show pcsErr nn L ≠ 0 by rw [← hpe]; exact hz)
              replace hpe := Aside0.mk hpe
              clear hkp hCL hLc hsrc
              go_wp2_with (first
                | (go_at_call 17; refine (pcs_calls _ T x fR fO fS fP bb ff gg HSS.out (by rw [HROW.out.e0]; exact HROW.out.le) AL cL L HCL.out HLc.out).mono ?_; rintro e w7 ⟨_, h2_⟩; rw [HROW.out.e0, ← hpe.out] at h2_; obtain ⟨rfl, hb7⟩ := h2_ hz; have HB7 := Aside0.mk hb7; clear h2_ hb7))
              refine ((HSS.out.ans _ HB7.out).size).mono ?_
              rintro e w8 ⟨rfl, hb8⟩
              rw [HROW.out.e0]
              have HB8 := Aside0.mk (below_step HB7.out hb8)
              clear hb8 HB7
              go_wp2_with (first
                | (go_at_call 18; refine (wracklaw1_piecesErr.calls kp AL cL L (nn : Int) pe _ (Kd.C_below HCL.out HB8.out) HLc.out HKP.out).mono ?_; rintro e wa ⟨rfl, hba⟩; have HBa := Aside0.mk (below_step HBX.out (below_step HB8.out hba)); clear hba HB8))
              go_ret
              exact ⟨rfl, HBa.out⟩
          · obtain rfl : i = 2 := by omega
            go_wp2
            go_ret
            exact ⟨rfl, HBX.out⟩
      · have t1 := decide_eq_false d1
        by_cases d2 : (p.length : Int) < off
        · have t2 := decide_eq_true d2
          clear d0 d1 d2
          go_wp2
          have hba := below_alloc (Below.refl w6.heap.size w6) (.cells #[.slice A2 l.length c2, .slice A3 k.length c3] 23)
          have hX := blk_new w6 (.cells #[.slice A2 l.length c2, .slice A3 k.length c3] 23)
          have HSRC := Aside0.mk (PSrc.base hS1.out (below_step HD9.out hba))
          replace HBX := Aside0.mk (below_step HBX.out hba)
          replace HBLK := Aside0.mk (blk_below HBLK.out hba)
          replace HROW := Aside0.mk (HROW.out.below hba)
          have HMX := Aside0.mk (show mb ≠ w6.heap.size from by have := blk_lt hBL.out; omega)
          generalize w6.alloc (.cells #[.slice A2 l.length c2, .slice A3 k.length c3] 23) = wx at hX HSRC HBX HBLK HROW ⊢
          generalize w6.heap.size = X at hX HMX ⊢
          have HPAIR := Aside0.mk hX
          clear hba hX HD9 hS1 hBL
          go_loopw [107, 13] (fun vi vs wr => SPRel w w1 mb X #[.slice A2 l.length c2, .slice A3 k.length c3] wr vi vs) (fun vi _ _ => 2 - (intOf vi).toNat)
          case atStart => exact ⟨0, _, _, _, _, _, _, _, _, _, _, _, _, _, _, _, _, by omega, rfl, rfl, HSRC, HROW, HBLK, HPAIR, HBX⟩
          case round =>
            clear HSRC HROW HBLK HPAIR HBX
            obtain ⟨i, T, x, fR, fO, fS, fP, bb, ff, gg, nn, V0, d0, V1, d1, V2, d2, hi, rfl, rfl, HSRC, HROW, HBLK, HPAIR, HBX⟩ := hrel
            by_cases hlt : i < 2
            · have hlti : (i : Int) < 2 := by omega
              have hnx : IntKind.i64.wrap ((i : Int) + 1) = (i : Int) + 1 := by rw [i64_w]; unfold wrap64; omega
              obtain ⟨AL, cL, L, ecell, hCL, hLc⟩ : ∃ (AL : Option Addr) (cL : Nat) (L : List S41), wr.cell? ⟨X, i, none⟩ = some (.slice AL L.length cL) ∧ Kd.C k41 w AL L.length L ∧ L.length ≤ cL := by
                match i, hlt with
                | 0, _ => exact ⟨A2, c2, l, (blk_cell HPAIR.out 0).trans rfl, HR2.out, HC2.out⟩
                | 1, _ => exact ⟨A3, c3, k, (blk_cell HPAIR.out 1).trans rfl, HR3.out, HC3.out⟩
              have HCL := Aside0.mk (Kd.C_below hCL HBX.out)
              have HLc := Aside0.mk hLc
              have hsrc := HSRC.out.src
              have hSr := hsrc.mS.run
              have hSe := hsrc.mS.ent
              have hSa := hsrc.mS.ahead
              have HSS := Aside0.mk hsrc
              obtain ⟨pe, hpe⟩ : ∃ pe, pe = pcsErr nn L := ⟨_, rfl⟩
              obtain ⟨kp, hkp⟩ := HPE.out nn HROW.out.le L
              rw [← hpe] at hkp
              have HKP := Aside0.mk hkp
              by_cases hz : pe = 0
              · subst hz
                have HPZ := Aside0.mk hpe.symm
                have hpin := pcsErr_in HPZ.out
                obtain ⟨hls1, hls2⟩ := laid_sum nn HROW.out.le L hpin.2.1
                have HL4 := Aside0.mk hpin.1
                have HLL := Aside0.mk (show (laid L).length ≤ 65536 by have := hpin.2.2; omega)
                have HLS := Aside0.mk (show (L.map S41.f1).sum.toNat = (laid L).length by omega)
                have HLW := Aside0.mk hls2
                clear hpe hkp hCL hLc hsrc hpin hls1 hls2
                go_wp2_with (first
                  | (go_at_call 17; refine (pcs_calls _ T x fR fO fS fP bb ff gg HSS.out (by rw [HROW.out.e0]; exact HROW.out.le) AL cL L HCL.out HLc.out).mono ?_; rintro e w7 ⟨h1_, _⟩; rw [HROW.out.e0] at h1_; obtain ⟨gq, Aq, cq, rfl, hIq, hRq, hgq, hb7⟩ := h1_ HPZ.out; have HIq := Aside0.mk hIq; have HRq := Aside0.mk hRq; have HB7 := Aside0.mk hb7; clear h1_ hIq hRq hgq hb7))
                refine ((HSS.out.ans _ HB7.out).size).mono ?_
                rintro e w8 ⟨rfl, hb8⟩
                rw [HROW.out.e0]
                have HB8 := Aside0.mk (below_step HB7.out hb8)
                replace HIq := Aside0.mk (HIq.out.below hb8)
                replace HRq := Aside0.mk (Kd.R_below HRq.out hb8)
                clear hb8 HB7
                go_wp2_with (first
                  | (go_at_call 18; refine (wracklaw1_piecesErr.calls kp AL cL L (nn : Int) 0 _ (Kd.C_below HCL.out HB8.out) HLc.out HKP.out).mono ?_; rintro e wa ⟨rfl, hba⟩; have HBa := Aside0.mk (below_step HB8.out hba); have HIa := Aside0.mk (HIq.out.below hba); have HRa := Aside0.mk (Kd.R_below HRq.out hba); have hma := blk_below HBLK.out HBa.out; have c0_ : wa.cell? ⟨mb, 0, none⟩ = some (.slice V0 nn d0) := (blk_cell hma 0).trans rfl; have c1_ : wa.cell? ⟨mb, 1, none⟩ = some (.slice V1 nn d1) := (blk_cell hma 1).trans rfl; have c2_ : wa.cell? ⟨mb, 2, none⟩ = some (.slice V2 nn d2) := (blk_cell hma 2).trans rfl; clear hba HB8 HIq HRq hma)
                  | (go_at_call 16; refine ((HROW.out.below HBa.out).pieces AL cL L (Kd.C_below HCL.out HBa.out) HLc.out HL4.out HLL.out HLW.out).mono ?_; rintro e wb ⟨W0, f0, W1, f1, W2, f2, rfl, hO, hbb⟩; have HBb := Aside0.mk (below_step HBa.out hbb); have HIb := Aside0.mk (HIa.out.below hbb); have HRb := Aside0.mk (Kd.R_below HRa.out hbb); have HOb := Aside0.mk hO; have hmb := blk_below HBLK.out HBb.out; have o0 : wb.cell? ⟨mb, 0, none⟩ = some (.slice V0 nn d0) := (blk_cell hmb 0).trans rfl; have k0 := blk_frozen hmb 0; have y1 := blk_put hmb 0 (.slice W0 (laid L).length f0) rfl; have o1 : (wb.setCell ⟨mb, 0, none⟩ (.slice W0 (laid L).length f0)).cell? ⟨mb, 1, none⟩ = some (.slice V1 nn d1) := (blk_cell y1 1).trans rfl; have k1 := blk_frozen y1 1; have y2 := blk_put y1 1 (.slice W1 (laid L).length f1) rfl; have o2 : ((wb.setCell ⟨mb, 0, none⟩ (.slice W0 (laid L).length f0)).setCell ⟨mb, 1, none⟩ (.slice W1 (laid L).length f1)).cell? ⟨mb, 2, none⟩ = some (.slice V2 nn d2) := (blk_cell y2 2).trans rfl; have k2 := blk_frozen y2 2; have hk1 := blk_frozen hmb 1; have hk2 := blk_frozen hmb 2; have hmb' := Aside0.mk hmb; clear c0_ c1_ c2_ hO hbb y1 y2 HBa HIa HRa hmb))
                obtain ⟨hch, hrow, hpair, hbc, hblk⟩ := sp_step HSRC.out HROW.out HPAIR.out HBX.out HMX.out HLE.out HLE2.out HBb.out HIb.out HRb.out HOb.out hmb'.out HLS.out HLL.out HL4.out HLW.out
                clear hmb' o0 o1 o2 k0 k1 k2 hk1 hk2 HIb HRb HOb HBb ecell
                generalize ((wb.setCell ⟨mb, 0, none⟩ (.slice W0 (laid L).length f0)).setCell ⟨mb, 1, none⟩ (.slice W1 (laid L).length f1)).setCell ⟨mb, 2, none⟩ (.slice W2 (laid L).length f2) = wc at hch hrow hpair hbc hblk ⊢
                refine (hrow.is hch.src off n).mono ?_
                rintro e wd ⟨rfl, hbd⟩
                have HCH := Aside0.mk (hch.keep hbd)
                have HRW := Aside0.mk (hrow.below hbd)
                have HPR := Aside0.mk (blk_below hpair hbd)
                have HBD := Aside0.mk (below_step hbc hbd)
                have hblk2 := blk_below hblk hbd
                have c0_ : wd.cell? ⟨mb, 0, none⟩ = some (.slice W0 (laid L).length f0) := (blk_cell hblk2 0).trans rfl
                have c1_ : wd.cell? ⟨mb, 1, none⟩ = some (.slice W1 (laid L).length f1) := (blk_cell hblk2 1).trans rfl
                have c2_ : wd.cell? ⟨mb, 2, none⟩ = some (.slice W2 (laid L).length f2) := (blk_cell hblk2 2).trans rfl
                have HBK := Aside0.mk hblk2
                clear hch hrow hpair hbc hblk hbd hblk2
                go_wp2_with (first
                  | (go_at_call 11; refine (HRW.out.is HCH.out.src 0 ((laid L).length : Int)).mono ?_; rintro e we ⟨rfl, hbe⟩; have HCH2 := Aside0.mk (HCH.out.keep hbe); have HRW2 := Aside0.mk (HRW.out.below hbe); have HPR2 := Aside0.mk (blk_below HPR.out hbe); have HBD2 := Aside0.mk (below_step HBD.out hbe); have HBK2 := Aside0.mk (blk_below HBK.out hbe); clear hbe c0_ c1_ c2_))
                go_roundw
                case rel => exact ⟨i + 1, _, _, _, _, _, _, _, _, _, _, _, _, _, _, _, _, by omega, by go_num, rfl, HCH2, HRW2, HBK2, HPR2, HBD2⟩
                case measure => simp [intOf]; omega
              · have hz2 : (pe == 0) = false := by simpa using hz
                have HPN := Aside0.mk (show pcsErr nn L ≠ 0 by rw [← hpe]; exact hz)
                replace hpe := Aside0.mk hpe
                clear hkp hCL hLc hsrc
                go_wp2_with (first
                  | (go_at_call 17; refine (pcs_calls _ T x fR fO fS fP bb ff gg HSS.out (by rw [HROW.out.e0]; exact HROW.out.le) AL cL L HCL.out HLc.out).mono ?_; rintro e w7 ⟨_, h2_⟩; rw [HROW.out.e0, ← hpe.out] at h2_; obtain ⟨rfl, hb7⟩ := h2_ hz; have HB7 := Aside0.mk hb7; clear h2_ hb7))
                refine ((HSS.out.ans _ HB7.out).size).mono ?_
                rintro e w8 ⟨rfl, hb8⟩
                rw [HROW.out.e0]
                have HB8 := Aside0.mk (below_step HB7.out hb8)
                clear hb8 HB7
                go_wp2_with (first
                  | (go_at_call 18; refine (wracklaw1_piecesErr.calls kp AL cL L (nn : Int) pe _ (Kd.C_below HCL.out HB8.out) HLc.out HKP.out).mono ?_; rintro e wa ⟨rfl, hba⟩; have HBa := Aside0.mk (below_step HBX.out (below_step HB8.out hba)); clear hba HB8))
                go_ret
                exact ⟨rfl, HBa.out⟩
            · obtain rfl : i = 2 := by omega
              go_wp2
              go_ret
              exact ⟨rfl, HBX.out⟩
        · have t2 := decide_eq_false d2
          have hsb : IntKind.i64.wrap ((p.length : Int) - off) = (p.length : Int) - off := by have := HPM.out; rw [i64_w]; unfold wrap64; omega
          have t3 : decide ((p.length : Int) - off < n) = true := decide_eq_true (by have h := HR.out; unfold inR at h; omega)
          clear d0 d1 d2
          go_wp2
          have hba := below_alloc (Below.refl w6.heap.size w6) (.cells #[.slice A2 l.length c2, .slice A3 k.length c3] 23)
          have hX := blk_new w6 (.cells #[.slice A2 l.length c2, .slice A3 k.length c3] 23)
          have HSRC := Aside0.mk (PSrc.base hS1.out (below_step HD9.out hba))
          replace HBX := Aside0.mk (below_step HBX.out hba)
          replace HBLK := Aside0.mk (blk_below HBLK.out hba)
          replace HROW := Aside0.mk (HROW.out.below hba)
          have HMX := Aside0.mk (show mb ≠ w6.heap.size from by have := blk_lt hBL.out; omega)
          generalize w6.alloc (.cells #[.slice A2 l.length c2, .slice A3 k.length c3] 23) = wx at hX HSRC HBX HBLK HROW ⊢
          generalize w6.heap.size = X at hX HMX ⊢
          have HPAIR := Aside0.mk hX
          clear hba hX HD9 hS1 hBL
          go_loopw [107, 13] (fun vi vs wr => SPRel w w1 mb X #[.slice A2 l.length c2, .slice A3 k.length c3] wr vi vs) (fun vi _ _ => 2 - (intOf vi).toNat)
          case atStart => exact ⟨0, _, _, _, _, _, _, _, _, _, _, _, _, _, _, _, _, by omega, rfl, rfl, HSRC, HROW, HBLK, HPAIR, HBX⟩
          case round =>
            clear HSRC HROW HBLK HPAIR HBX
            obtain ⟨i, T, x, fR, fO, fS, fP, bb, ff, gg, nn, V0, d0, V1, d1, V2, d2, hi, rfl, rfl, HSRC, HROW, HBLK, HPAIR, HBX⟩ := hrel
            by_cases hlt : i < 2
            · have hlti : (i : Int) < 2 := by omega
              have hnx : IntKind.i64.wrap ((i : Int) + 1) = (i : Int) + 1 := by rw [i64_w]; unfold wrap64; omega
              obtain ⟨AL, cL, L, ecell, hCL, hLc⟩ : ∃ (AL : Option Addr) (cL : Nat) (L : List S41), wr.cell? ⟨X, i, none⟩ = some (.slice AL L.length cL) ∧ Kd.C k41 w AL L.length L ∧ L.length ≤ cL := by
                match i, hlt with
                | 0, _ => exact ⟨A2, c2, l, (blk_cell HPAIR.out 0).trans rfl, HR2.out, HC2.out⟩
                | 1, _ => exact ⟨A3, c3, k, (blk_cell HPAIR.out 1).trans rfl, HR3.out, HC3.out⟩
              have HCL := Aside0.mk (Kd.C_below hCL HBX.out)
              have HLc := Aside0.mk hLc
              have hsrc := HSRC.out.src
              have hSr := hsrc.mS.run
              have hSe := hsrc.mS.ent
              have hSa := hsrc.mS.ahead
              have HSS := Aside0.mk hsrc
              obtain ⟨pe, hpe⟩ : ∃ pe, pe = pcsErr nn L := ⟨_, rfl⟩
              obtain ⟨kp, hkp⟩ := HPE.out nn HROW.out.le L
              rw [← hpe] at hkp
              have HKP := Aside0.mk hkp
              by_cases hz : pe = 0
              · subst hz
                have HPZ := Aside0.mk hpe.symm
                have hpin := pcsErr_in HPZ.out
                obtain ⟨hls1, hls2⟩ := laid_sum nn HROW.out.le L hpin.2.1
                have HL4 := Aside0.mk hpin.1
                have HLL := Aside0.mk (show (laid L).length ≤ 65536 by have := hpin.2.2; omega)
                have HLS := Aside0.mk (show (L.map S41.f1).sum.toNat = (laid L).length by omega)
                have HLW := Aside0.mk hls2
                clear hpe hkp hCL hLc hsrc hpin hls1 hls2
                go_wp2_with (first
                  | (go_at_call 17; refine (pcs_calls _ T x fR fO fS fP bb ff gg HSS.out (by rw [HROW.out.e0]; exact HROW.out.le) AL cL L HCL.out HLc.out).mono ?_; rintro e w7 ⟨h1_, _⟩; rw [HROW.out.e0] at h1_; obtain ⟨gq, Aq, cq, rfl, hIq, hRq, hgq, hb7⟩ := h1_ HPZ.out; have HIq := Aside0.mk hIq; have HRq := Aside0.mk hRq; have HB7 := Aside0.mk hb7; clear h1_ hIq hRq hgq hb7))
                refine ((HSS.out.ans _ HB7.out).size).mono ?_
                rintro e w8 ⟨rfl, hb8⟩
                rw [HROW.out.e0]
                have HB8 := Aside0.mk (below_step HB7.out hb8)
                replace HIq := Aside0.mk (HIq.out.below hb8)
                replace HRq := Aside0.mk (Kd.R_below HRq.out hb8)
                clear hb8 HB7
                go_wp2_with (first
                  | (go_at_call 18; refine (wracklaw1_piecesErr.calls kp AL cL L (nn : Int) 0 _ (Kd.C_below HCL.out HB8.out) HLc.out HKP.out).mono ?_; rintro e wa ⟨rfl, hba⟩; have HBa := Aside0.mk (below_step HB8.out hba); have HIa := Aside0.mk (HIq.out.below hba); have HRa := Aside0.mk (Kd.R_below HRq.out hba); have hma := blk_below HBLK.out HBa.out; have c0_ : wa.cell? ⟨mb, 0, none⟩ = some (.slice V0 nn d0) := (blk_cell hma 0).trans rfl; have c1_ : wa.cell? ⟨mb, 1, none⟩ = some (.slice V1 nn d1) := (blk_cell hma 1).trans rfl; have c2_ : wa.cell? ⟨mb, 2, none⟩ = some (.slice V2 nn d2) := (blk_cell hma 2).trans rfl; clear hba HB8 HIq HRq hma)
                  | (go_at_call 16; refine ((HROW.out.below HBa.out).pieces AL cL L (Kd.C_below HCL.out HBa.out) HLc.out HL4.out HLL.out HLW.out).mono ?_; rintro e wb ⟨W0, f0, W1, f1, W2, f2, rfl, hO, hbb⟩; have HBb := Aside0.mk (below_step HBa.out hbb); have HIb := Aside0.mk (HIa.out.below hbb); have HRb := Aside0.mk (Kd.R_below HRa.out hbb); have HOb := Aside0.mk hO; have hmb := blk_below HBLK.out HBb.out; have o0 : wb.cell? ⟨mb, 0, none⟩ = some (.slice V0 nn d0) := (blk_cell hmb 0).trans rfl; have k0 := blk_frozen hmb 0; have y1 := blk_put hmb 0 (.slice W0 (laid L).length f0) rfl; have o1 : (wb.setCell ⟨mb, 0, none⟩ (.slice W0 (laid L).length f0)).cell? ⟨mb, 1, none⟩ = some (.slice V1 nn d1) := (blk_cell y1 1).trans rfl; have k1 := blk_frozen y1 1; have y2 := blk_put y1 1 (.slice W1 (laid L).length f1) rfl; have o2 : ((wb.setCell ⟨mb, 0, none⟩ (.slice W0 (laid L).length f0)).setCell ⟨mb, 1, none⟩ (.slice W1 (laid L).length f1)).cell? ⟨mb, 2, none⟩ = some (.slice V2 nn d2) := (blk_cell y2 2).trans rfl; have k2 := blk_frozen y2 2; have hk1 := blk_frozen hmb 1; have hk2 := blk_frozen hmb 2; have hmb' := Aside0.mk hmb; clear c0_ c1_ c2_ hO hbb y1 y2 HBa HIa HRa hmb))
                obtain ⟨hch, hrow, hpair, hbc, hblk⟩ := sp_step HSRC.out HROW.out HPAIR.out HBX.out HMX.out HLE.out HLE2.out HBb.out HIb.out HRb.out HOb.out hmb'.out HLS.out HLL.out HL4.out HLW.out
                clear hmb' o0 o1 o2 k0 k1 k2 hk1 hk2 HIb HRb HOb HBb ecell
                generalize ((wb.setCell ⟨mb, 0, none⟩ (.slice W0 (laid L).length f0)).setCell ⟨mb, 1, none⟩ (.slice W1 (laid L).length f1)).setCell ⟨mb, 2, none⟩ (.slice W2 (laid L).length f2) = wc at hch hrow hpair hbc hblk ⊢
                refine (hrow.is hch.src off n).mono ?_
                rintro e wd ⟨rfl, hbd⟩
                have HCH := Aside0.mk (hch.keep hbd)
                have HRW := Aside0.mk (hrow.below hbd)
                have HPR := Aside0.mk (blk_below hpair hbd)
                have HBD := Aside0.mk (below_step hbc hbd)
                have hblk2 := blk_below hblk hbd
                have c0_ : wd.cell? ⟨mb, 0, none⟩ = some (.slice W0 (laid L).length f0) := (blk_cell hblk2 0).trans rfl
                have c1_ : wd.cell? ⟨mb, 1, none⟩ = some (.slice W1 (laid L).length f1) := (blk_cell hblk2 1).trans rfl
                have c2_ : wd.cell? ⟨mb, 2, none⟩ = some (.slice W2 (laid L).length f2) := (blk_cell hblk2 2).trans rfl
                have HBK := Aside0.mk hblk2
                clear hch hrow hpair hbc hblk hbd hblk2
                go_wp2_with (first
                  | (go_at_call 11; refine (HRW.out.is HCH.out.src 0 ((laid L).length : Int)).mono ?_; rintro e we ⟨rfl, hbe⟩; have HCH2 := Aside0.mk (HCH.out.keep hbe); have HRW2 := Aside0.mk (HRW.out.below hbe); have HPR2 := Aside0.mk (blk_below HPR.out hbe); have HBD2 := Aside0.mk (below_step HBD.out hbe); have HBK2 := Aside0.mk (blk_below HBK.out hbe); clear hbe c0_ c1_ c2_))
                go_roundw
                case rel => exact ⟨i + 1, _, _, _, _, _, _, _, _, _, _, _, _, _, _, _, _, by omega, by go_num, rfl, HCH2, HRW2, HBK2, HPR2, HBD2⟩
                case measure => simp [intOf]; omega
              · have hz2 : (pe == 0) = false := by simpa using hz
                have HPN := Aside0.mk (show pcsErr nn L ≠ 0 by rw [← hpe]; exact hz)
                replace hpe := Aside0.mk hpe
                clear hkp hCL hLc hsrc
                go_wp2_with (first
                  | (go_at_call 17; refine (pcs_calls _ T x fR fO fS fP bb ff gg HSS.out (by rw [HROW.out.e0]; exact HROW.out.le) AL cL L HCL.out HLc.out).mono ?_; rintro e w7 ⟨_, h2_⟩; rw [HROW.out.e0, ← hpe.out] at h2_; obtain ⟨rfl, hb7⟩ := h2_ hz; have HB7 := Aside0.mk hb7; clear h2_ hb7))
                refine ((HSS.out.ans _ HB7.out).size).mono ?_
                rintro e w8 ⟨rfl, hb8⟩
                rw [HROW.out.e0]
                have HB8 := Aside0.mk (below_step HB7.out hb8)
                clear hb8 HB7
                go_wp2_with (first
                  | (go_at_call 18; refine (wracklaw1_piecesErr.calls kp AL cL L (nn : Int) pe _ (Kd.C_below HCL.out HB8.out) HLc.out HKP.out).mono ?_; rintro e wa ⟨rfl, hba⟩; have HBa := Aside0.mk (below_step HBX.out (below_step HB8.out hba)); clear hba HB8))
                go_ret
                exact ⟨rfl, HBa.out⟩
            · obtain rfl : i = 2 := by omega
              go_wp2
              go_ret
              exact ⟨rfl, HBX.out⟩
/-- all bytes, spans and ranges -/
theorem sp_main (A0 : Option Addr) (c0 : Nat) (b : List Int) (A1 : Option Addr) (c1 : Nat) (bad : List S41) (A2 : Option Addr) (c2 : Nat) (l : List S41) (A3 : Option Addr) (c3 : Nat) (k : List S41) (off n : Int) (w : World) (hrb : Kd.C (Kd.int .u8) w A0 b.length b) (hcb : b.length ≤ c0) (hrl : Kd.C k41 w A1 bad.length bad) (hcl : bad.length ≤ c1) (hr2 : Kd.C k41 w A2 l.length l) (hc2 : l.length ≤ c2) (hr3 : Kd.C k41 w A3 k.length k) (hc3 : k.length ≤ c3) (hl : bad.length * 16 ≤ 140737488351232) :
    Calls Try.prog 4 #[.slice A0 b.length c0, .slice A1 bad.length c1, .slice A2 l.length c2, .slice A3 k.length c3, .int .i64 off, .int .i64 n] w fun e w' => e = .returned (.bool true) ∧ Below w.heap.size w w' := by
  by_cases hE : srcErr (min b.length 65536) bad = 0
  · exact sp_good A0 c0 b A1 c1 bad A2 c2 l A3 c3 k off n w hrb hcb hrl hcl (by omega) hr2 hc2 hr3 hc3 hE
  · exact sp_wrong A0 c0 b A1 c1 bad _ _ off n w hrb hcb hrl hcl (by omega) hE
end Go.Proofs.Ytlnikhijfamakaa.Pure
