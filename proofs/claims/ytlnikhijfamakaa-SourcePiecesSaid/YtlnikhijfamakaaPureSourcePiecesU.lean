/- Pieces of sources: the reference's model of them. No condition. -/
import Derived.Test.YtlnikhijfamakaaPureSourcePiecesT
namespace Go.Proofs.Ytlnikhijfamakaa.Pure
open Go Go.RowKit Go.Maps Go.Proofs.Ytlnikhijfamakaa.QSourceImages Go.Proofs.YtlnikhijfamakaaW.PrintWords Go.Proofs.YtlnikhijfamakaaW.PrintLast Go.Proofs.YtlnikhijfamakaaW.PrintMore
set_option linter.unusedVariables false
set_option linter.unusedSimpArgs false

theorem laid_l1 (l : List S41) (i : Nat) (x : S41) (m : Nat) (hm : x.f1 = (m : Int)) (h0 : 0 ≤ x.f0) (h1 : x.f0 + x.f1 ≤ 65536) (acc : List Int) (r : List Int) (ha : acc.length + m ≤ 200000) (hi : i < l.length) (hn : l.length ≤ 4611686018427387904)
    (he : Ev (fun k => wrackref1_Laid.l0 k (acc ++ bytesS x) l (l.length : Int) ((i + 1 : Nat) : Int)) r) : ∀ (d j : Nat), j + d = m →
    Ev (fun k => wrackref1_Laid.l1 k (acc ++ bytesS ⟨x.f0, (j : Int)⟩) l (l.length : Int) (i : Int) x.f1 (j : Int) x.f0 x.f1) r
  | 0, j, hj => by
    refine Ev.step (fun k => ?_) he
    simp only [wrackref1_Laid.l1]
    rw [if_neg (by omega), up i l.length hi hn]
    have : x = ⟨x.f0, (j : Int)⟩ := by cases x; simp only [S41.mk.injEq, true_and]; simp only at hm; omega
    rw [← this]
  | d + 1, j, hj => by
    refine Ev.step (fun k => ?_) (laid_l1 l i x m hm h0 h1 acc r ha hi hn he d (j + 1) (by omega))
    simp only [wrackref1_Laid.l1]
    have hw : wrap64 (x.f0 + (j : Int)) = x.f0 + (j : Int) := by unfold wrap64; omega
    rw [if_pos (by omega), if_pos (by rw [List.length_append, bytes_len]; simp only; omega), hw, up j (m + 1) (by omega) (by omega), range_bytes, List.append_assoc]
theorem laid_l0 (l : List S41) (hn : l.length ≤ 4611686018427387904) : ∀ (d i : Nat) (acc : List Int), i + d = l.length → acc.length + (laid (l.drop i)).length ≤ 200000 →
    Ev (fun k => wrackref1_Laid.l0 k acc l (l.length : Int) (i : Int)) (acc ++ laid (l.drop i))
  | 0, i, acc, hi, ha => by
    refine Ev.step (f := fun _ => some _) (fun k => ?_) (Ev.now _)
    simp only [wrackref1_Laid.l0]
    rw [if_neg (by omega), List.drop_of_length_le (by omega), laid_nil, List.append_nil]
  | d + 1, i, acc, hi, ha => by
    rw [drop_span l i (by omega)] at ha ⊢
    generalize hx : rd_T41 l (i : Int) = x at ha ⊢
    by_cases hr : 0 ≤ x.f0 ∧ 0 ≤ x.f1 ∧ x.f0 + x.f1 ≤ 65536
    · have hl : laid (x :: l.drop (i + 1)) = bytesS x ++ laid (l.drop (i + 1)) := by
        by_cases hk : okS x
        · rw [laid_ok _ _ hk]
        · have : x.f1.toNat = 0 := by unfold okS at hk; omega
          rw [laid_no _ _ hk]; simp [bytesS, this]
      rw [hl] at ha ⊢
      have hb := bytes_len x
      rw [List.length_append] at ha
      have e := laid_l0 l hn d (i + 1) (acc ++ bytesS x) (by omega) (by rw [List.length_append]; omega)
      rw [List.append_assoc] at e
      have e2 := laid_l1 l i x x.f1.toNat (by omega) hr.1 hr.2.2 acc _ (by omega) (by omega) hn e x.f1.toNat 0 (by omega)
      refine Ev.step (fun k => ?_) e2
      simp only [wrackref1_Laid.l0]
      rw [if_pos (by omega), if_pos (by omega), if_pos (by omega), hx, right_val, Option.bind_some, decide_eq_true hr, if_pos rfl]
      simp [bytesS]
    · rw [laid_no _ _ (by unfold okS; omega)] at ha ⊢
      refine Ev.step (fun k => ?_) (laid_l0 l hn d (i + 1) acc (by omega) ha)
      simp only [wrackref1_Laid.l0]
      rw [if_pos (by omega), if_pos (by omega), if_pos (by omega), hx, right_val, Option.bind_some, decide_eq_false hr, if_neg (by decide), up i l.length (by omega) hn]
theorem laid_ev (l : List S41) (hn : l.length ≤ 4611686018427387904) (h : (laid l).length ≤ 200000) : Ev (fun k => wrackref1_Laid.f k l) (laid l) := by
  refine Ev.congr (fun k => ?_) (laid_l0 l hn l.length 0 [] (by omega) (by simpa using h))
  unfold wrackref1_Laid.f
  rfl
/-- the model of pieces while it is made -/
structure PM (w0 w : World) (nb rb mb ob : Nat) (M O : Array Value) (vQ v0 v1 v2 : Value) (Q l0 l1 : List Int) (l2 : List Bool) : Prop where
  b : Below w0.heap.size w0 w
  sz : nb ≤ w.heap.size
  r : w.heap[rb]? = some (.cells #[.slice none 0 0, .slice none 0 0, .slice none 0 0] 34 (0, 0))
  m : w.heap[mb]? = some (.cells M 34 (0, 0))
  o : w.heap[ob]? = some (.cells O 34 (0, 0))
  q : (Kd.int .i64).R 3 w w0.heap.size (fun k => k < nb) vQ Q
  r0 : (Kd.int .u8).R 5 w nb (fun _ => True) v0 l0
  r1 : (Kd.int .i64).R 3 w nb (fun _ => True) v1 l1
  r2 : Kd.bool.R 4 w nb (fun _ => True) v2 l2
  le : w0.heap.size ≤ rb ∧ w0.heap.size ≤ mb ∧ w0.heap.size ≤ ob ∧ rb < nb ∧ mb < nb ∧ ob < nb ∧ rb ≠ ob ∧ mb ≠ ob ∧ w0.heap.size ≤ nb
section
variable {w0 w W : World} {nb rb mb ob : Nat} {M O : Array Value} {vQ v0 v1 v2 : Value} {Q l0 l1 : List Int} {l2 : List Bool}
theorem PM.below (h : PM w0 w nb rb mb ob M O vQ v0 v1 v2 Q l0 l1 l2) (hb : Below w.heap.size w W) : PM w0 W nb rb mb ob M O vQ v0 v1 v2 Q l0 l1 l2 :=
  ⟨below_step h.b hb, Nat.le_trans h.sz hb.size, blk_below h.r hb, blk_below h.m hb, blk_below h.o hb, Kd.R_below h.q hb, Kd.R_below h.r0 hb, Kd.R_below h.r1 hb, Kd.R_below h.r2 hb, h.le⟩
theorem PM.blocks (h : PM w0 w nb rb mb ob M O vQ v0 v1 v2 Q l0 l1 l2) {row : Option Nat} (hg : w.grownBy W row) (hr : ∀ k, row = some k → nb ≤ k) : Below w0.heap.size w0 W ∧ nb ≤ W.heap.size ∧ W.heap[rb]? = w.heap[rb]? ∧ W.heap[mb]? = w.heap[mb]? ∧ W.heap[ob]? = w.heap[ob]? ∧ (Kd.int .i64).R 3 W w0.heap.size (fun k => k < nb) vQ Q := by
  obtain ⟨_, _, _, hrb, hmb, hob, _, _, hle⟩ := h.le
  have hne : ∀ g, g < nb → some g ≠ row := fun g hg' he => by have := hr g he.symm; omega
  exact ⟨pw_below_grown h.b row h.b.size hg (fun k hk => Nat.le_trans hle (hr k hk)), Nat.le_trans h.sz hg.size, hg.block _ (blk_lt h.r) (hne _ hrb), hg.block _ (blk_lt h.m) (hne _ hmb), hg.block _ (blk_lt h.o) (hne _ hob), Kd.R_grown h.q hg (fun k hk => hne k hk)⟩
theorem PM.app0 (h : PM w0 w nb rb mb ob M O vQ v0 v1 v2 Q l0 l1 l2) {v : Value} {l : List Int} (hR : (Kd.int .u8).R 5 W nb (fun _ => True) v l) (hg : w.grownBy W v0.ownBlock) : PM w0 W nb rb mb ob M O vQ v v1 v2 Q l l1 l2 := by
  obtain ⟨b, sz, r, m, o, q⟩ := h.blocks hg (fun k hk => Kd.R_base h.r0 k hk)
  have ht := fun k hk => Kd.R_typed h.r0 k hk
  exact ⟨b, sz, r.trans h.r, m.trans h.m, o.trans h.o, q, hR, Kd.R_over' h.r1 ht (by decide) hg, Kd.R_over' h.r2 ht (by decide) hg, h.le⟩
theorem PM.app1 (h : PM w0 w nb rb mb ob M O vQ v0 v1 v2 Q l0 l1 l2) {v : Value} {l : List Int} (hR : (Kd.int .i64).R 3 W nb (fun _ => True) v l) (hg : w.grownBy W v1.ownBlock) : PM w0 W nb rb mb ob M O vQ v0 v v2 Q l0 l l2 := by
  obtain ⟨b, sz, r, m, o, q⟩ := h.blocks hg (fun k hk => Kd.R_base h.r1 k hk)
  have ht := fun k hk => Kd.R_typed h.r1 k hk
  exact ⟨b, sz, r.trans h.r, m.trans h.m, o.trans h.o, q, Kd.R_over' h.r0 ht (by decide) hg, hR, Kd.R_over' h.r2 ht (by decide) hg, h.le⟩
theorem PM.app2 (h : PM w0 w nb rb mb ob M O vQ v0 v1 v2 Q l0 l1 l2) {v : Value} {l : List Bool} (hR : Kd.bool.R 4 W nb (fun _ => True) v l) (hg : w.grownBy W v2.ownBlock) : PM w0 W nb rb mb ob M O vQ v0 v1 v Q l0 l1 l := by
  obtain ⟨b, sz, r, m, o, q⟩ := h.blocks hg (fun k hk => Kd.R_base h.r2 k hk)
  have ht := fun k hk => Kd.R_typed h.r2 k hk
  exact ⟨b, sz, r.trans h.r, m.trans h.m, o.trans h.o, q, Kd.R_over' h.r0 ht (by decide) hg, Kd.R_over' h.r1 ht (by decide) hg, hR, h.le⟩
theorem PM.facts {m0 m1 m2 o0 o1 o2 : Value} (h : PM w0 w nb rb mb ob #[m0, m1, m2] #[o0, o1, o2] vQ v0 v1 v2 Q l0 l1 l2) {a0 a1 a2 : Addr} {x0 x1 x2 : Value} (E0 : w0.cell? a0 = some x0) (E1 : w0.cell? a1 = some x1) (E2 : w0.cell? a2 = some x2) :
    w.cell? ⟨ob, 0, none⟩ = some o0 ∧ w.cell? ⟨ob, 1, none⟩ = some o1 ∧ w.cell? ⟨ob, 2, none⟩ = some o2 ∧ w.cell? ⟨mb, 0, none⟩ = some m0 ∧ w.cell? ⟨mb, 1, none⟩ = some m1 ∧ w.cell? ⟨mb, 2, none⟩ = some m2 ∧ w.cell? a0 = some x0 ∧ w.cell? a1 = some x1 ∧ w.cell? a2 = some x2 :=
  ⟨(blk_cell h.o 0).trans rfl, (blk_cell h.o 1).trans rfl, (blk_cell h.o 2).trans rfl, (blk_cell h.m 0).trans rfl, (blk_cell h.m 1).trans rfl, (blk_cell h.m 2).trans rfl, pw_cell_below h.b E0, pw_cell_below h.b E1, pw_cell_below h.b E2⟩
theorem PM.put (h : PM w0 w nb rb mb ob M O vQ v0 v1 v2 Q l0 l1 l2) (j : Nat) (u : Value) {O' : Array Value} (hO : O.setIfInBounds j u = O') : PM w0 (w.setCell ⟨ob, j, none⟩ u) nb rb mb ob M O' vQ v0 v1 v2 Q l0 l1 l2 := by
  obtain ⟨_, _, h3, _, _, _, h1, h2, _⟩ := h.le
  refine ⟨h.b.setCell (p := ⟨ob, j, none⟩) h3 u, by simpa [World.setCell] using h.sz, blk_far h.r (p := ⟨ob, j, none⟩) h1 u, blk_far h.m (p := ⟨ob, j, none⟩) h2 u, blk_put h.o j u hO, ?_, ?_, ?_, ?_, h.le⟩
  · exact Kd.R_mono (Kd.R_far (p := ⟨ob, j, none⟩) (Kd.R_types h.q h.o (by decide)) (fun k hk => hk.2) u) (fun _ hk => hk.1)
  · exact Kd.R_mono (Kd.R_far (p := ⟨ob, j, none⟩) (Kd.R_types h.r0 h.o (by decide)) (fun k hk => hk.2) u) (fun _ hk => hk.1)
  · exact Kd.R_mono (Kd.R_far (p := ⟨ob, j, none⟩) (Kd.R_types h.r1 h.o (by decide)) (fun k hk => hk.2) u) (fun _ hk => hk.1)
  · exact Kd.R_mono (Kd.R_far (p := ⟨ob, j, none⟩) (Kd.R_types h.r2 h.o (by decide)) (fun k hk => hk.2) u) (fun _ hk => hk.1)
end
/-- three stores into a block of another type -/
theorem far3 {α : Type} {d : Kd α} {e base : Nat} {ok : Nat → Prop} {w : World} {v : Value} {xs : List α} {g t : Nat} {c : Array Value} (h : d.R e w base ok v xs) (hb : w.heap[g]? = some (.cells c t (0, 0))) (ht : ∀ q, q ∈ e :: d.E → q ≠ t) (u0 u1 u2 : Value) : d.R e (((w.setCell ⟨g, 0, none⟩ u0).setCell ⟨g, 1, none⟩ u1).setCell ⟨g, 2, none⟩ u2) base ok v xs :=
  Kd.R_mono (Kd.R_far (p := ⟨g, 2, none⟩) (Kd.R_far (p := ⟨g, 1, none⟩) (Kd.R_far (p := ⟨g, 0, none⟩) (Kd.R_types h hb ht) (fun k hk => hk.2) u0) (fun k hk => hk.2) u1) (fun k hk => hk.2) u2) (fun _ hk => hk.1)
/-- a row of one -/
theorem one_row {α : Type} {enc : α → Value} {h1 : ∀ x, (enc x).oneCell' = true} {w : World} {g : Nat} {x : α} {t : TypeId} (h : w.heap[g]? = some (.cells #[enc x] t (0, 0))) : (Kd.scalar enc h1).C w (some ⟨g, 0, none⟩) 1 [x] := by
  refine ⟨rfl, by decide, fun _ => ⟨_, rfl, fun j p hp => ?_⟩⟩
  obtain ⟨rfl, rfl⟩ : j = 0 ∧ p = x := by
    cases j with
    | zero => exact ⟨rfl, by simpa using hp.symm⟩
    | succ j => simp at hp
  refine ⟨[enc p], rfl, rfl, fun i u hu => ?_⟩
  obtain ⟨rfl, rfl⟩ : i = 0 ∧ u = enc p := by
    cases i with
    | zero => exact ⟨rfl, by simpa using hu.symm⟩
    | succ i => simp at hu
  exact (blk_cell h 0).trans rfl
theorem take_up (Q : List Int) (i : Nat) (h : i < Q.length) : Q.take (i + 1) = Q.take i ++ [rd Q (i : Int)] := by
  rw [List.take_add_one]
  simp [rd, List.getD_eq_getElem?_getD, h]
theorem pickI_up (b Q : List Int) (i : Nat) (h : i < Q.length) : pickI b (Q.take (i + 1)) = pickI b (Q.take i) ++ [rd b (rd Q (i : Int))] := by
  rw [take_up Q i h, pickI_app]
  rfl
theorem pickB_up (b : List Bool) (Q : List Int) (i : Nat) (h : i < Q.length) : pickB b (Q.take (i + 1)) = pickB b (Q.take i) ++ [rdOf false b (rd Q (i : Int))] := by
  rw [take_up Q i h, pickB_app]
  rfl
/-- the three blocks of the model's pieces -/
theorem pm_blocks (w : World) (M : Array Value) : Below w.heap.size w (((w.alloc (.cells M 34)).alloc (.cells #[.slice none 0 0, .slice none 0 0, .slice none 0 0] 34)).alloc (.cells #[.slice none 0 0, .slice none 0 0, .slice none 0 0] 34)) ∧ (((w.alloc (.cells M 34)).alloc (.cells #[.slice none 0 0, .slice none 0 0, .slice none 0 0] 34)).alloc (.cells #[.slice none 0 0, .slice none 0 0, .slice none 0 0] 34)).heap[w.heap.size]? = some (.cells M 34 (0, 0)) ∧
    (((w.alloc (.cells M 34)).alloc (.cells #[.slice none 0 0, .slice none 0 0, .slice none 0 0] 34)).alloc (.cells #[.slice none 0 0, .slice none 0 0, .slice none 0 0] 34)).heap[w.heap.size + 1]? = some (.cells #[.slice none 0 0, .slice none 0 0, .slice none 0 0] 34 (0, 0)) ∧ (((w.alloc (.cells M 34)).alloc (.cells #[.slice none 0 0, .slice none 0 0, .slice none 0 0] 34)).alloc (.cells #[.slice none 0 0, .slice none 0 0, .slice none 0 0] 34)).heap[w.heap.size + 1 + 1]? = some (.cells #[.slice none 0 0, .slice none 0 0, .slice none 0 0] 34 (0, 0)) := by
  have s1 : (w.alloc (.cells M 34)).heap.size = w.heap.size + 1 := by simp
  have b1 := below_alloc (Below.refl w.heap.size w) (.cells M 34)
  have n1 := blk_new w (.cells M 34)
  generalize w.alloc (.cells M 34) = w1 at s1 b1 n1 ⊢
  have s2 : (w1.alloc (.cells #[.slice none 0 0, .slice none 0 0, .slice none 0 0] 34)).heap.size = w1.heap.size + 1 := by simp
  have b2 := below_alloc (Below.refl w1.heap.size w1) (.cells #[.slice none 0 0, .slice none 0 0, .slice none 0 0] 34)
  have n2 := blk_new w1 (.cells #[.slice none 0 0, .slice none 0 0, .slice none 0 0] 34)
  generalize w1.alloc (.cells #[.slice none 0 0, .slice none 0 0, .slice none 0 0] 34) = w2 at s2 b2 n2 ⊢
  have b3 := below_alloc (Below.refl w2.heap.size w2) (.cells #[.slice none 0 0, .slice none 0 0, .slice none 0 0] 34)
  have n3 := blk_new w2 (.cells #[.slice none 0 0, .slice none 0 0, .slice none 0 0] 34)
  rw [s2, s1] at n3
  rw [s1] at n2
  exact ⟨below_step b1 (below_step b2 b3), blk_below (blk_below n1 b2) b3, blk_below n2 b3, n3⟩
theorem pm_start {w w3 w5 : World} {rb mb ob : Nat} {M : Array Value} {vQ : Value} {Q : List Int} (hb : Below w.heap.size w w3) (hm : w3.heap[mb]? = some (.cells M 34 (0, 0))) (hr : w3.heap[rb]? = some (.cells #[.slice none 0 0, .slice none 0 0, .slice none 0 0] 34 (0, 0))) (ho : w3.heap[ob]? = some (.cells #[.slice none 0 0, .slice none 0 0, .slice none 0 0] 34 (0, 0))) (h0 : w.heap.size ≤ mb) (h1 : mb < rb) (h2 : rb < ob)
    (hb5 : Below w3.heap.size w3 w5) (hv : (Kd.int .i64).R 3 w5 w3.heap.size (fun _ => True) vQ Q) : PM w w5 w5.heap.size rb mb ob M #[.slice none 0 0, .slice none 0 0, .slice none 0 0] vQ (.slice none 0 0) (.slice none 0 0) (.slice none 0 0) Q [] [] [] := by
  have l3 := blk_lt ho
  have l5 := hb5.size
  have l0 := hb.size
  exact ⟨below_step hb hb5, Nat.le_refl _, blk_below hr hb5, blk_below hm hb5, blk_below ho hb5, Kd.R_mono (Kd.R_bound (Kd.R_lower hv l0)) (fun k hk => hk.2.2.1), Kd.R_nil _ _ _ _ _, Kd.R_nil _ _ _ _ _, Kd.R_nil _ _ _ _ _, ⟨by omega, by omega, by omega, by omega, by omega, by omega, by omega, by omega, by omega⟩⟩
theorem rd_of (Q : List Int) (i : Nat) (h : i < Q.length) : rd Q (i : Int) ∈ Q := by
  unfold rd
  rw [Int.toNat_natCast, List.getD_eq_getElem?_getD, List.getElem?_eq_getElem h]
  exact List.getElem_mem h
theorem qsI : type_of% @List.setIfInBounds_toArray := @List.setIfInBounds_toArray
theorem qs0 : type_of% @List.set_cons_zero := @List.set_cons_zero
theorem qsS : type_of% @List.set_cons_succ := @List.set_cons_succ
theorem qbA : type_of% @below_alloc := @below_alloc
theorem qkB : type_of% @blk_below := @blk_below
set_option maxHeartbeats 16000000 in
set_option maxRecDepth 100000 in
/-- the reference's model of pieces of a model -/
theorem mp_calls (A0 : Option Addr) (c0 : Nat) (b : List Int) (A1 : Option Addr) (c1 : Nat) (fr : List Int) (A2 : Option Addr) (c2 : Nat) (bad : List Bool) (A : Option Addr) (c : Nat) (l : List S41) (w : World) (hr0 : Kd.C (Kd.int .u8) w A0 b.length b) (hr1 : Kd.C (Kd.int .i64) w A1 fr.length fr) (hr2 : Kd.C Kd.bool w A2 bad.length bad)
  (hfl : fr.length = b.length) (hbd : bad.length = b.length) (hrl : Kd.C k41 w A l.length l) (hcl : l.length ≤ c) (hl : l.length ≤ 4096) (hll : (laid l).length ≤ 65536) (hwl : ∀ q ∈ laid l, 0 ≤ q ∧ q < (b.length : Int)) :
  Calls Try.prog 16 #[.agg #[.slice A0 b.length c0, .slice A1 fr.length c1, .slice A2 bad.length c2], .slice A l.length c] w fun e w' => ∃ V0 d0 V1 d1 V2 d2, e = .returned (.agg #[.slice V0 (laid l).length d0, .slice V1 (laid l).length d1, .slice V2 (laid l).length d2]) ∧
   (Kd.int .u8).R 5 w' w.heap.size (fun _ => True) (.slice V0 (laid l).length d0) (pickI b (laid l)) ∧ (Kd.int .i64).R 3 w' w.heap.size (fun _ => True) (.slice V1 (laid l).length d1) (pickI fr (laid l)) ∧ Kd.bool.R 4 w' w.heap.size (fun _ => True) (.slice V2 (laid l).length d2) (pickB bad (laid l)) ∧ Below w.heap.size w w' := by
 obtain ⟨kl, hkl⟩ := (laid_ev l (by omega) (by omega)).rounds
 obtain ⟨Q, hQ⟩ : ∃ Q, Q = laid l := ⟨_, rfl⟩
 rw [← hQ] at hkl hll hwl ⊢
 have HKL := Aside0.mk hkl
 have HLL := Aside0.mk hll
 have HWL := Aside0.mk hwl
 have HR0 := Aside0.mk hr0
 have HR1 := Aside0.mk hr1
 have HR2 := Aside0.mk hr2
 have HRL := Aside0.mk hrl
 have HCL := Aside0.mk hcl
 have HFL := Aside0.mk hfl
 have HBD := Aside0.mk hbd
 have hu34 := Try.underlying34
 clear hkl hll hwl hr0 hr1 hr2 hrl hcl hQ hl hfl hbd
 go_enter Try.func16, Try.ntmps16
 go_wp2_with (first
  | (go_at_call 34; obtain ⟨hb3, hm3, hr3, ho3⟩ := pm_blocks w #[.slice A0 b.length c0, .slice A1 fr.length c1, .slice A2 bad.length c2]; have h01 : w.heap.size < w.heap.size + 1 := Nat.lt_succ_self _; have h12 : w.heap.size + 1 < w.heap.size + 1 + 1 := Nat.lt_succ_self _; generalize ((w.alloc (.cells #[.slice A0 b.length c0, .slice A1 fr.length c1, .slice A2 bad.length c2] 34)).alloc (.cells #[.slice none 0 0, .slice none 0 0, .slice none 0 0] 34)).alloc (.cells #[.slice none 0 0, .slice none 0 0, .slice none 0 0] 34) = w3 at hb3 hm3 hr3 ho3 ⊢; generalize w.heap.size + 1 + 1 = ob at ho3 h12 ⊢; generalize w.heap.size + 1 = rb at hr3 h01 h12 ⊢; refine (wrackref1_Laid.calls kl A c l Q _ (Kd.C_below HRL.out hb3) HCL.out HKL.out).mono ?_; rintro e w5 ⟨vQ, rfl, hv, hb5⟩; have HP := Aside0.mk (pm_start hb3 hm3 hr3 ho3 (Nat.le_refl _) h01 h12 hb5 hv); obtain ⟨AQ, cQ, eQ⟩ := Kd.R_slice hv; subst eQ; clear hv hb5 hb3 hm3 hr3 ho3 h01 h12))
 go_loopw [11] (fun vi wr => ∃ (i : Nat) (v0 v1 v2 : Value), i ≤ Q.length ∧ vi = .int .i64 (i : Int) ∧ Aside0 (PM w wr w5.heap.size rb w.heap.size ob #[.slice A0 b.length c0, .slice A1 fr.length c1, .slice A2 bad.length c2] #[v0, v1, v2] (.slice AQ Q.length cQ) v0 v1 v2 Q (pickI b (Q.take i)) (pickI fr (Q.take i)) (pickB bad (Q.take i)))) (fun vi _ => Q.length - (intOf vi).toNat)
 case atStart => exact ⟨0, _, _, _, Nat.zero_le _, rfl, by rw [List.take_zero]; exact HP⟩
 case round =>
  clear HP
  obtain ⟨i, v0, v1, v2, hi, rfl, HP⟩ := hrel
  by_cases hlt : i < Q.length
  ·
   have hlti : (i : Int) < (Q.length : Int) := by omega
   have hnx : IntKind.i64.wrap ((i : Int) + 1) = (i : Int) + 1 := by have := HLL.out; rw [i64_w]; unfold wrap64; omega
   obtain ⟨adq, eq_, cq⟩ := Kd.at_int (Kd.R_reads' HP.out.q).2.2 (i : Int) (by omega) hlti
   subst eq_
   rw [Int.toNat_natCast] at cq
   have hqq := HWL.out _ (rd_of Q i hlt)
   have hup0 := pickI_up b Q i hlt
   have hup1 := pickI_up fr Q i hlt
   have hup2 := pickB_up bad Q i hlt
   obtain ⟨q, hq⟩ : ∃ q, q = rd Q (i : Int) := ⟨_, rfl⟩
   rw [← hq] at cq hqq hup0 hup1 hup2
   obtain ⟨ad0, ea0, E0⟩ := Kd.at_int HR0.out q hqq.1 hqq.2
   obtain ⟨ad1, ea1, E1⟩ := Kd.at_int HR1.out q hqq.1 (by rw [HFL.out]; exact hqq.2)
   obtain ⟨ad2, ea2, E2⟩ := Kd.at_bool HR2.out q hqq.1 (by rw [HBD.out]; exact hqq.2)
   subst ea0 ea1 ea2
   obtain ⟨x0, hx0⟩ : ∃ x, x = rd b q := ⟨_, rfl⟩
   obtain ⟨x1, hx1⟩ : ∃ x, x = rd fr q := ⟨_, rfl⟩
   obtain ⟨x2, hx2⟩ : ∃ x, x = rdOf false bad q := ⟨_, rfl⟩
   rw [← hx0] at E0 hup0
   rw [← hx1] at E1 hup1
   rw [← hx2] at E2 hup2
   have hl0 : (pickI b (Q.take i)).length + 1 ≤ 65537 := by have := HLL.out; rw [pickI_len, List.length_take]; omega
   have hl1 : (pickI fr (Q.take i)).length + 1 ≤ 65537 := by have := HLL.out; rw [pickI_len, List.length_take]; omega
   have hl2 : (pickB bad (Q.take i)).length + 1 ≤ 65537 := by have := HLL.out; rw [pickB_len, List.length_take]; omega
   obtain ⟨L0, hL0⟩ : ∃ L, L = pickI b (Q.take i) := ⟨_, rfl⟩
   obtain ⟨L1, hL1⟩ : ∃ L, L = pickI fr (Q.take i) := ⟨_, rfl⟩
   obtain ⟨L2, hL2⟩ : ∃ L, L = pickB bad (Q.take i) := ⟨_, rfl⟩
   rw [← hL0] at hup0 hl0 HP
   rw [← hL1] at hup1 hl1 HP
   rw [← hL2] at hup2 hl2 HP
   have HU := Aside0.mk (And.intro hup0 (And.intro hup1 hup2))
   have HL0 := Aside0.mk hl0
   have HL1 := Aside0.mk hl1
   have HL2 := Aside0.mk hl2
   have hq0 := hqq.1
   have hq1 := hqq.2
   have hqf : q < (fr.length : Int) := by rw [HFL.out]; exact hqq.2
   have hqb : q < (bad.length : Int) := by rw [HBD.out]; exact hqq.2
   clear hq hqq hx0 hx1 hx2 hL0 hL1 hL2 hup0 hup1 hup2 hl0 hl1 hl2
   replace E0 := Aside0.mk E0
   replace E1 := Aside0.mk E1
   replace E2 := Aside0.mk E2
   go_wp2
   have hP0 := HP.out.below (below_drew (Below.refl wr.heap.size wr))
   have r0 : wr.drew.cell? ⟨ob, 0, none⟩ = some v0 := (blk_cell hP0.o 0).trans rfl
   have r1 : wr.drew.cell? ⟨ob, 1, none⟩ = some v1 := (blk_cell hP0.o 1).trans rfl
   have r2 : wr.drew.cell? ⟨ob, 2, none⟩ = some v2 := (blk_cell hP0.o 2).trans rfl
   have r3 : wr.drew.cell? ⟨w.heap.size, 0, none⟩ = some (.slice (some ad0) b.length c0) := (blk_cell hP0.m 0).trans rfl
   have r4 : wr.drew.cell? ⟨w.heap.size, 1, none⟩ = some (.slice (some ad1) fr.length c1) := (blk_cell hP0.m 1).trans rfl
   have r5 : wr.drew.cell? ⟨w.heap.size, 2, none⟩ = some (.slice (some ad2) bad.length c2) := (blk_cell hP0.m 2).trans rfl
   have r6 : wr.drew.cell? (ad0.add q.toNat) = some (.int .u8 x0) := pw_cell_below hP0.b E0.out
   have r7 : wr.drew.cell? (ad1.add q.toNat) = some (.int .i64 x1) := pw_cell_below hP0.b E1.out
   have r8 : wr.drew.cell? (ad2.add q.toNat) = some (.bool x2) := pw_cell_below hP0.b E2.out
   refine start_ (n := 33) (S := fun w' => w'.cell? ⟨ob, 0, none⟩ = some v0 ∧ w'.cell? ⟨ob, 1, none⟩ = some v1 ∧ w'.cell? ⟨ob, 2, none⟩ = some v2 ∧ w'.cell? ⟨w.heap.size, 0, none⟩ = some (.slice (some ad0) b.length c0) ∧ w'.cell? ⟨w.heap.size, 1, none⟩ = some (.slice (some ad1) fr.length c1) ∧ w'.cell? ⟨w.heap.size, 2, none⟩ = some (.slice (some ad2) bad.length c2) ∧ w'.cell? (ad0.add q.toNat) = some (.int .u8 x0) ∧ w'.cell? (ad1.add q.toNat) = some (.int .i64 x1) ∧ w'.cell? (ad2.add q.toNat) = some (.bool x2)) (ds := [28, 30, 32]) #[false, false, false, false, false, false, false, false, false, false, false, false, false, false, false, false, false, false, false, false, false, false, false, false, false, false, false, false, false, false, false, false, false] (by kernel_rfl) rfl rfl ⟨r0, r1, r2, r3, r4, r5, r6, r7, r8⟩ (fun hHeld => ?_)
   generalize wr.drew = wD at hP0 r0 r1 r2 r3 r4 r5 r6 r7 r8 hHeld ⊢
   refine pure_ (i := 0) (N := some 15) (v := ?_) (a' := ?_) #[true, false, false, false, false, false, false, false, false, false, false, false, false, false, false, false, false, false, false, false, false, false, false, false, false, false, false, false, false, false, false, false, false] rfl rfl (by kernel_rfl) (fun _ _ _ h => h) (Or.inl ⟨by rfl, ?_⟩) ?_ ?_
   rotate_left
   ·
    intro w'
    go_simp
    with_reducible rfl
   rotate_left
   ·
    simp only [Act.put, qsI, qs0, qsS, i64_w, i32_w]
    rfl
   refine pure_ (i := 2) (N := some 17) (v := ?_) (a' := ?_) #[true, false, true, false, false, false, false, false, false, false, false, false, false, false, false, false, false, false, false, false, false, false, false, false, false, false, false, false, false, false, false, false, false] rfl rfl (by kernel_rfl) (fun _ _ _ h => h) (Or.inl ⟨by rfl, ?_⟩) ?_ ?_
   rotate_left
   ·
    intro w'
    go_simp
    with_reducible rfl
   rotate_left
   ·
    simp only [Act.put, qsI, qs0, qsS, i64_w, i32_w]
    rfl
   refine pure_ (i := 4) (N := some 19) (v := ?_) (a' := ?_) #[true, false, true, false, true, false, false, false, false, false, false, false, false, false, false, false, false, false, false, false, false, false, false, false, false, false, false, false, false, false, false, false, false] rfl rfl (by kernel_rfl) (fun _ _ _ h => h) (Or.inl ⟨by rfl, ?_⟩) ?_ ?_
   rotate_left
   ·
    intro w'
    go_simp
    with_reducible rfl
   rotate_left
   ·
    simp only [Act.put, qsI, qs0, qsS, i64_w, i32_w]
    rfl
   refine pure_ (i := 9) (N := some 24) (v := ?_) (a' := ?_) #[true, false, true, false, true, false, false, false, false, true, false, false, false, false, false, false, false, false, false, false, false, false, false, false, false, false, false, false, false, false, false, false, false] rfl rfl (by kernel_rfl) (fun _ _ _ h => h) (Or.inl ⟨by rfl, ?_⟩) ?_ ?_
   rotate_left
   ·
    intro w'
    go_simp
    with_reducible rfl
   rotate_left
   ·
    simp only [Act.put, qsI, qs0, qsS, i64_w, i32_w]
    rfl
   refine pure_ (i := 11) (N := some 26) (v := ?_) (a' := ?_) #[true, false, true, false, true, false, false, false, false, true, false, true, false, false, false, false, false, false, false, false, false, false, false, false, false, false, false, false, false, false, false, false, false] rfl rfl (by kernel_rfl) (fun _ _ _ h => h) (Or.inl ⟨by rfl, ?_⟩) ?_ ?_
   rotate_left
   ·
    intro w'
    go_simp
    with_reducible rfl
   rotate_left
   ·
    simp only [Act.put, qsI, qs0, qsS, i64_w, i32_w]
    rfl
   refine pure_ (i := 13) (N := some 28) (v := ?_) (a' := ?_) #[true, false, true, false, true, false, false, false, false, true, false, true, false, true, false, false, false, false, false, false, false, false, false, false, false, false, false, false, false, false, false, false, false] rfl rfl (by kernel_rfl) (fun _ _ _ h => h) (Or.inl ⟨by rfl, ?_⟩) ?_ ?_
   rotate_left
   ·
    intro w'
    go_simp
    with_reducible rfl
   rotate_left
   ·
    simp only [Act.put, qsI, qs0, qsS, i64_w, i32_w]
    rfl
   refine pure_ (i := 18) (N := some 33) (v := ?_) (a' := ?_) #[true, false, true, false, true, false, false, false, false, true, false, true, false, true, false, false, false, false, true, false, false, false, false, false, false, false, false, false, false, false, false, false, false] rfl rfl (by kernel_rfl) (fun _ _ _ h => h) (Or.inl ⟨by rfl, ?_⟩) ?_ ?_
   rotate_left
   ·
    intro w'
    go_simp
    with_reducible rfl
   rotate_left
   ·
    simp only [Act.put, qsI, qs0, qsS, i64_w, i32_w]
    rfl
   refine pure_ (i := 20) (N := some 35) (v := ?_) (a' := ?_) #[true, false, true, false, true, false, false, false, false, true, false, true, false, true, false, false, false, false, true, false, true, false, false, false, false, false, false, false, false, false, false, false, false] rfl rfl (by kernel_rfl) (fun _ _ _ h => h) (Or.inl ⟨by rfl, ?_⟩) ?_ ?_
   rotate_left
   ·
    intro w'
    go_simp
    with_reducible rfl
   rotate_left
   ·
    simp only [Act.put, qsI, qs0, qsS, i64_w, i32_w]
    rfl
   refine pure_ (i := 22) (N := some 37) (v := ?_) (a' := ?_) #[true, false, true, false, true, false, false, false, false, true, false, true, false, true, false, false, false, false, true, false, true, false, true, false, false, false, false, false, false, false, false, false, false] rfl rfl (by kernel_rfl) (fun _ _ _ h => h) (Or.inl ⟨by rfl, ?_⟩) ?_ ?_
   rotate_left
   ·
    intro w'
    go_simp
    with_reducible rfl
   rotate_left
   ·
    simp only [Act.put, qsI, qs0, qsS, i64_w, i32_w]
    rfl
   refine take_ (i := 1) (N := some 16) (v := ?_) (a' := ?_) #[true,true,true, false, true, false, false, false, false, true, false, true, false, true, false, false, false, false, true, false, true, false, true, false, false, false, false, false, false, false, false, false, false] rfl rfl (by kernel_rfl) (fun _ _ _ h => h) (Or.inl ⟨by rfl, ?_⟩) hHeld ?_ ?_
   rotate_left
   ·
    rintro w' ⟨s0, s1, s2, s3, s4, s5, s6, s7, s8⟩
    go_simp
    with_reducible rfl
   rotate_left
   ·
    simp only [Act.put, qsI, qs0, qsS, i64_w, i32_w]
    rfl
   refine take_ (i := 3) (N := some 18) (v := ?_) (a' := ?_) #[true,true,true,true,true, false, false, false, false, true, false, true, false, true, false, false, false, false, true, false, true, false, true, false, false, false, false, false, false, false, false, false, false] rfl rfl (by kernel_rfl) (fun _ _ _ h => h) (Or.inl ⟨by rfl, ?_⟩) hHeld ?_ ?_
   rotate_left
   ·
    rintro w' ⟨s0, s1, s2, s3, s4, s5, s6, s7, s8⟩
    go_simp
    with_reducible rfl
   rotate_left
   ·
    simp only [Act.put, qsI, qs0, qsS, i64_w, i32_w]
    rfl
   refine pure_ (i := 5) (N := some 20) (v := ?_) (a' := ?_) #[true,true,true,true,true,true, false, false, false, true, false, true, false, true, false, false, false, false, true, false, true, false, true, false, false, false, false, false, false, false, false, false, false] rfl rfl (by kernel_rfl) (fun _ _ _ h => h) (Or.inl ⟨by rfl, ?_⟩) ?_ ?_
   rotate_left
   ·
    intro w'
    go_simp
    with_reducible rfl
   rotate_left
   ·
    simp only [Act.put, qsI, qs0, qsS, i64_w, i32_w]
    rfl
   refine take_ (i := 6) (N := some 21) (v := ?_) (a' := ?_) #[true,true,true,true,true,true,true, false, false, true, false, true, false, true, false, false, false, false, true, false, true, false, true, false, false, false, false, false, false, false, false, false, false] rfl rfl (by kernel_rfl) (fun _ _ _ h => h) (Or.inl ⟨by rfl, ?_⟩) hHeld ?_ ?_
   rotate_left
   ·
    rintro w' ⟨s0, s1, s2, s3, s4, s5, s6, s7, s8⟩
    go_simp
    with_reducible rfl
   rotate_left
   ·
    simp only [Act.put, qsI, qs0, qsS, i64_w, i32_w]
    rfl
   refine take_ (i := 10) (N := some 25) (v := ?_) (a' := ?_) #[true,true,true,true,true,true,true, false, false, true,true,true, false, true, false, false, false, false, true, false, true, false, true, false, false, false, false, false, false, false, false, false, false] rfl rfl (by kernel_rfl) (fun _ _ _ h => h) (Or.inl ⟨by rfl, ?_⟩) hHeld ?_ ?_
   rotate_left
   ·
    rintro w' ⟨s0, s1, s2, s3, s4, s5, s6, s7, s8⟩
    go_simp
    with_reducible rfl
   rotate_left
   ·
    simp only [Act.put, qsI, qs0, qsS, i64_w, i32_w]
    rfl
   refine take_ (i := 12) (N := some 27) (v := ?_) (a' := ?_) #[true,true,true,true,true,true,true, false, false, true,true,true,true,true, false, false, false, false, true, false, true, false, true, false, false, false, false, false, false, false, false, false, false] rfl rfl (by kernel_rfl) (fun _ _ _ h => h) (Or.inl ⟨by rfl, ?_⟩) hHeld ?_ ?_
   rotate_left
   ·
    rintro w' ⟨s0, s1, s2, s3, s4, s5, s6, s7, s8⟩
    go_simp
    with_reducible rfl
   rotate_left
   ·
    simp only [Act.put, qsI, qs0, qsS, i64_w, i32_w]
    rfl
   refine pure_ (i := 14) (N := some 29) (v := ?_) (a' := ?_) #[true,true,true,true,true,true,true, false, false, true,true,true,true,true,true, false, false, false, true, false, true, false, true, false, false, false, false, false, false, false, false, false, false] rfl rfl (by kernel_rfl) (fun _ _ _ h => h) (Or.inl ⟨by rfl, ?_⟩) ?_ ?_
   rotate_left
   ·
    intro w'
    go_simp
    with_reducible rfl
   rotate_left
   ·
    simp only [Act.put, qsI, qs0, qsS, i64_w, i32_w]
    rfl
   refine take_ (i := 15) (N := some 30) (v := ?_) (a' := ?_) #[true,true,true,true,true,true,true, false, false, true,true,true,true,true,true,true, false, false, true, false, true, false, true, false, false, false, false, false, false, false, false, false, false] rfl rfl (by kernel_rfl) (fun _ _ _ h => h) (Or.inl ⟨by rfl, ?_⟩) hHeld ?_ ?_
   rotate_left
   ·
    rintro w' ⟨s0, s1, s2, s3, s4, s5, s6, s7, s8⟩
    go_simp
    with_reducible rfl
   rotate_left
   ·
    simp only [Act.put, qsI, qs0, qsS, i64_w, i32_w]
    rfl
   refine take_ (i := 19) (N := some 34) (v := ?_) (a' := ?_) #[true,true,true,true,true,true,true, false, false, true,true,true,true,true,true,true, false, false, true,true,true, false, true, false, false, false, false, false, false, false, false, false, false] rfl rfl (by kernel_rfl) (fun _ _ _ h => h) (Or.inl ⟨by rfl, ?_⟩) hHeld ?_ ?_
   rotate_left
   ·
    rintro w' ⟨s0, s1, s2, s3, s4, s5, s6, s7, s8⟩
    go_simp
    with_reducible rfl
   rotate_left
   ·
    simp only [Act.put, qsI, qs0, qsS, i64_w, i32_w]
    rfl
   refine take_ (i := 21) (N := some 36) (v := ?_) (a' := ?_) #[true,true,true,true,true,true,true, false, false, true,true,true,true,true,true,true, false, false, true,true,true,true,true, false, false, false, false, false, false, false, false, false, false] rfl rfl (by kernel_rfl) (fun _ _ _ h => h) (Or.inl ⟨by rfl, ?_⟩) hHeld ?_ ?_
   rotate_left
   ·
    rintro w' ⟨s0, s1, s2, s3, s4, s5, s6, s7, s8⟩
    go_simp
    with_reducible rfl
   rotate_left
   ·
    simp only [Act.put, qsI, qs0, qsS, i64_w, i32_w]
    rfl
   refine pure_ (i := 23) (N := some 38) (v := ?_) (a' := ?_) #[true,true,true,true,true,true,true, false, false, true,true,true,true,true,true,true, false, false, true,true,true,true,true,true, false, false, false, false, false, false, false, false, false] rfl rfl (by kernel_rfl) (fun _ _ _ h => h) (Or.inl ⟨by rfl, ?_⟩) ?_ ?_
   rotate_left
   ·
    intro w'
    go_simp
    with_reducible rfl
   rotate_left
   ·
    simp only [Act.put, qsI, qs0, qsS, i64_w, i32_w]
    rfl
   refine take_ (i := 24) (N := some 39) (v := ?_) (a' := ?_) #[true,true,true,true,true,true,true, false, false, true,true,true,true,true,true,true, false, false, true,true,true,true,true,true,true, false, false, false, false, false, false, false, false] rfl rfl (by kernel_rfl) (fun _ _ _ h => h) (Or.inl ⟨by rfl, ?_⟩) hHeld ?_ ?_
   rotate_left
   ·
    rintro w' ⟨s0, s1, s2, s3, s4, s5, s6, s7, s8⟩
    go_simp
    with_reducible rfl
   rotate_left
   ·
    simp only [Act.put, qsI, qs0, qsS, i64_w, i32_w]
    rfl
   refine join_ (σ := (Nat × Nat × Nat) × (Value × Value)) 6 #[true,true,true,true,true,true,true,true,true,true,true,true,true,true,true,true,true,true,true,true,true,true,true,true,true,true, false, true, false, false, false, false, false] (fun s_ => [(22, .slice (some ⟨s_.1.1, 0, none⟩) 1 1), (23, s_.2.1), (31, .slice (some ⟨s_.1.2.1, 0, none⟩) 1 1), (32, s_.2.2), (40, .slice (some ⟨s_.1.2.2, 0, none⟩) 1 1), (42, .pointer (some ⟨ob, 0, none⟩))]) (fun s_ w' => PM w w' w5.heap.size rb w.heap.size ob #[.slice (some ad0) b.length c0, .slice (some ad1) fr.length c1, .slice (some ad2) bad.length c2] #[v0, v1, v2] (.slice (some adq) Q.length cQ) s_.2.1 s_.2.2 v2 Q (L0 ++ [x0]) (L1 ++ [x1]) L2 ∧ w'.heap[s_.1.2.2]? = some (.cells #[.bool x2] 4 (0, 0))) ?_ ?_
   rotate_left
   ·
    intro hCont
    refine three_ (i := 7) (j := 16) (k := 25) (Ni := some 22) (Nj := some 31) (Nk := some 40) #[true,true,true,true,true,true,true,true, false, true,true,true,true,true,true,true, false, false, true,true,true,true,true,true,true, false, false, false, false, false, false, false, false] #[true,true,true,true,true,true,true, false, false, true,true,true,true,true,true,true,true, false, true,true,true,true,true,true,true, false, false, false, false, false, false, false, false] #[true,true,true,true,true,true,true, false, false, true,true,true,true,true,true,true, false, false, true,true,true,true,true,true,true,true, false, false, false, false, false, false, false] rfl rfl rfl rfl rfl rfl (by kernel_rfl) (by decide) (by decide) (by decide) (fun K hK => ?_) (fun K hK => ?_) (fun K hK => ?_)
    ·
     skip
     refine value_ (w1 := ?_) (v := ?_) (by rfl) rfl ?_ ?_
     rotate_left 2
     ·
      go_simp
      constructor
      · rfl
      · rfl
     have hP1 := hP0.below (qbA (Below.refl wD.heap.size wD) (.cells #[.int .u8 x0] 5))
     have hk0_1 := blk_new wD (.cells #[.int .u8 x0] 5)
     generalize wD.alloc (.cells #[.int .u8 x0] 5) = wk1 at hP1 hk0_1 ⊢
     refine hK.out _ _ (hP1.facts E0.out E1.out E2.out) (fun hHeld => ?_)
     clear hK K
     refine norm_ (a' := ?_) ?_ ?_
     rotate_left
     ·
      show Act.put _ (some 22) _ = _
      simp only [Act.put, qsI, qs0, qsS, i64_w, i32_w]
      rfl
     refine three_ (i := 8) (j := 16) (k := 25) (Ni := some 23) (Nj := some 31) (Nk := some 40) #[true,true,true,true,true,true,true,true,true,true,true,true,true,true,true,true, false, false, true,true,true,true,true,true,true, false, false, false, false, false, false, false, false] #[true,true,true,true,true,true,true,true, false, true,true,true,true,true,true,true,true, false, true,true,true,true,true,true,true, false, false, false, false, false, false, false, false] #[true,true,true,true,true,true,true,true, false, true,true,true,true,true,true,true, false, false, true,true,true,true,true,true,true,true, false, false, false, false, false, false, false] rfl rfl rfl rfl rfl rfl (by kernel_rfl) (by decide) (by decide) (by decide) (fun K hK => ?_) (fun K hK => ?_) (fun K hK => ?_)
     ·
      skip
      refine Kd.R_append_rows_step (Kd.int .u8) (Rr := (Kd.int .u8).K wk1) (w0 := wk1) w5.heap.size (by rfl) (.tmp 16) (.tmp 22) 22 5 (.int .u8 0) 1 rfl Try.underlying22 info5 rfl (by decide) (by decide) v0 L0 [x0] (some ⟨wD.heap.size, 0, none⟩) 1 1 (fun _ => True) (fun _ => False) rfl rfl hP1.r0 (one_row hk0_1) (fun _ _ h => h) (fun _ h => h.elim) (fun _ _ => trivial) (Below.refl _ _) hP1.sz (Nat.le_trans (Nat.mul_le_mul_right 1 HL0.out) (by decide)) ?_
      intro n0 wk2 hR0 hB0 hG0 hat0
      have hP2 := hP1.app0 hR0 hG0
      refine hK.out _ _ (hP2.facts E0.out E1.out E2.out) (fun hHeld => ?_)
      clear hK K
      refine norm_ (a' := ?_) ?_ ?_
      rotate_left
      ·
       show Act.put _ (some 23) _ = _
       simp only [Act.put, qsI, qs0, qsS, i64_w, i32_w]
       rfl
      refine pure_ (i := 27) (N := some 42) (v := ?_) (a' := ?_) #[true,true,true,true,true,true,true,true,true,true,true,true,true,true,true,true, false, false, true,true,true,true,true,true,true, false, false, true, false, false, false, false, false] rfl rfl (by kernel_rfl) (fun _ _ _ h => h) (Or.inl ⟨by rfl, ?_⟩) ?_ ?_
      rotate_left
      ·
       intro w'
       go_simp
       with_reducible rfl
      rotate_left
      ·
       simp only [Act.put, qsI, qs0, qsS, i64_w, i32_w]
       rfl
      refine two_ (i := 16) (j := 25) (Ni := some 31) (Nj := some 40) #[true,true,true,true,true,true,true,true,true,true,true,true,true,true,true,true,true, false, true,true,true,true,true,true,true, false, false, true, false, false, false, false, false] #[true,true,true,true,true,true,true,true,true,true,true,true,true,true,true,true, false, false, true,true,true,true,true,true,true,true, false, true, false, false, false, false, false] rfl rfl rfl rfl (by kernel_rfl) (by decide) (by decide) (fun K hK => ?_) (fun K hK => ?_)
      ·
       skip
       refine value_ (w1 := ?_) (v := ?_) (by rfl) rfl ?_ ?_
       rotate_left 2
       ·
        go_simp
        constructor
        · rfl
        · rfl
       have hP3 := hP2.below (qbA (Below.refl wk2.heap.size wk2) (.cells #[.int .i64 x1] 3))
       have hk1_3 := blk_new wk2 (.cells #[.int .i64 x1] 3)
       generalize wk2.alloc (.cells #[.int .i64 x1] 3) = wk3 at hP3 hk1_3 ⊢
       refine hK.out _ _ (hP3.facts E0.out E1.out E2.out) (fun hHeld => ?_)
       clear hK K
       refine norm_ (a' := ?_) ?_ ?_
       rotate_left
       ·
        show Act.put _ (some 31) _ = _
        simp only [Act.put, qsI, qs0, qsS, i64_w, i32_w]
        rfl
       refine two_ (i := 17) (j := 25) (Ni := some 32) (Nj := some 40) #[true,true,true,true,true,true,true,true,true,true,true,true,true,true,true,true,true,true,true,true,true,true,true,true,true, false, false, true, false, false, false, false, false] #[true,true,true,true,true,true,true,true,true,true,true,true,true,true,true,true,true, false, true,true,true,true,true,true,true,true, false, true, false, false, false, false, false] rfl rfl rfl rfl (by kernel_rfl) (by decide) (by decide) (fun K hK => ?_) (fun K hK => ?_)
       ·
        skip
        refine Kd.R_append_rows_step (Kd.int .i64) (Rr := (Kd.int .i64).K wk3) (w0 := wk3) w5.heap.size (by rfl) (.tmp 25) (.tmp 31) 31 3 (.int .i64 0) 8 rfl Try.underlying31 info3 rfl (by decide) (by decide) v1 L1 [x1] (some ⟨wk2.heap.size, 0, none⟩) 1 1 (fun _ => True) (fun _ => False) rfl rfl hP3.r1 (one_row hk1_3) (fun _ _ h => h) (fun _ h => h.elim) (fun _ _ => trivial) (Below.refl _ _) hP3.sz (Nat.le_trans (Nat.mul_le_mul_right 8 HL1.out) (by decide)) ?_
        intro n1 wk4 hR1 hB1 hG1 hat1
        have hP4 := hP3.app1 hR1 hG1
        refine hK.out _ _ (hP4.facts E0.out E1.out E2.out) (fun hHeld => ?_)
        clear hK K
        refine norm_ (a' := ?_) ?_ ?_
        rotate_left
        ·
         show Act.put _ (some 32) _ = _
         simp only [Act.put, qsI, qs0, qsS, i64_w, i32_w]
         rfl
        refine one_ (i := 25) (N := some 40) #[true,true,true,true,true,true,true,true,true,true,true,true,true,true,true,true,true,true,true,true,true,true,true,true,true,true, false, true, false, false, false, false, false] rfl rfl (by kernel_rfl) (by decide) (fun K hK => ?_)
        refine value_ (w1 := ?_) (v := ?_) (by rfl) rfl ?_ ?_
        rotate_left 2
        ·
         go_simp
         constructor
         · rfl
         · rfl
        have hP5 := hP4.below (qbA (Below.refl wk4.heap.size wk4) (.cells #[.bool x2] 4))
        have hk2_5 := blk_new wk4 (.cells #[.bool x2] 4)
        generalize wk4.alloc (.cells #[.bool x2] 4) = wk5 at hP5 hk2_5 ⊢
        refine hK.out _ _ (hP5.facts E0.out E1.out E2.out) (fun hHeld => ?_)
        clear hK K
        refine norm_ (a' := ?_) ?_ ?_
        rotate_left
        ·
         show Act.put _ (some 40) _ = _
         simp only [Act.put, qsI, qs0, qsS, i64_w, i32_w]
         rfl
        exact norm_ (by simp only [putAll, Act.put, qsI, qs0, qsS]) (hCont ((wD.heap.size, wk2.heap.size, wk4.heap.size), (n0, n1)) _ ⟨hP5, hk2_5⟩)
       ·
        skip
        refine value_ (w1 := ?_) (v := ?_) (by rfl) rfl ?_ ?_
        rotate_left 2
        ·
         go_simp
         constructor
         · rfl
         · rfl
        have hP4 := hP3.below (qbA (Below.refl wk3.heap.size wk3) (.cells #[.bool x2] 4))
        have hk2_4 := blk_new wk3 (.cells #[.bool x2] 4)
        have hk1_4 := qkB hk1_3 (qbA (Below.refl wk3.heap.size wk3) (.cells #[.bool x2] 4))
        generalize wk3.alloc (.cells #[.bool x2] 4) = wk4 at hP4 hk1_4 hk2_4 ⊢
        refine hK.out _ _ (hP4.facts E0.out E1.out E2.out) (fun hHeld => ?_)
        clear hK K
        refine norm_ (a' := ?_) ?_ ?_
        rotate_left
        ·
         show Act.put _ (some 40) _ = _
         simp only [Act.put, qsI, qs0, qsS, i64_w, i32_w]
         rfl
        refine one_ (i := 17) (N := some 32) #[true,true,true,true,true,true,true,true,true,true,true,true,true,true,true,true,true,true,true,true,true,true,true,true,true,true, false, true, false, false, false, false, false] rfl rfl (by kernel_rfl) (by decide) (fun K hK => ?_)
        refine Kd.R_append_rows_step (Kd.int .i64) (Rr := (Kd.int .i64).K wk4) (w0 := wk4) w5.heap.size (by rfl) (.tmp 25) (.tmp 31) 31 3 (.int .i64 0) 8 rfl Try.underlying31 info3 rfl (by decide) (by decide) v1 L1 [x1] (some ⟨wk2.heap.size, 0, none⟩) 1 1 (fun _ => True) (fun _ => False) rfl rfl hP4.r1 (one_row hk1_4) (fun _ _ h => h) (fun _ h => h.elim) (fun _ _ => trivial) (Below.refl _ _) hP4.sz (Nat.le_trans (Nat.mul_le_mul_right 8 HL1.out) (by decide)) ?_
        intro n1 wk5 hR1 hB1 hG1 hat1
        have hP5 := hP4.app1 hR1 hG1
        have hk2_5 := blk_grown hk2_4 hG1 (fun he => (typed_ne ⟨_, hk2_4⟩ (Kd.R_typed hP4.r1 _ he.symm) (by decide)) rfl)
        refine hK.out _ _ (hP5.facts E0.out E1.out E2.out) (fun hHeld => ?_)
        clear hK K
        refine norm_ (a' := ?_) ?_ ?_
        rotate_left
        ·
         show Act.put _ (some 32) _ = _
         simp only [Act.put, qsI, qs0, qsS, i64_w, i32_w]
         rfl
        exact norm_ (by simp only [putAll, Act.put, qsI, qs0, qsS]) (hCont ((wD.heap.size, wk2.heap.size, wk3.heap.size), (n0, n1)) _ ⟨hP5, hk2_5⟩)
      ·
       skip
       refine value_ (w1 := ?_) (v := ?_) (by rfl) rfl ?_ ?_
       rotate_left 2
       ·
        go_simp
        constructor
        · rfl
        · rfl
       have hP3 := hP2.below (qbA (Below.refl wk2.heap.size wk2) (.cells #[.bool x2] 4))
       have hk2_3 := blk_new wk2 (.cells #[.bool x2] 4)
       generalize wk2.alloc (.cells #[.bool x2] 4) = wk3 at hP3 hk2_3 ⊢
       refine hK.out _ _ (hP3.facts E0.out E1.out E2.out) (fun hHeld => ?_)
       clear hK K
       refine norm_ (a' := ?_) ?_ ?_
       rotate_left
       ·
        show Act.put _ (some 40) _ = _
        simp only [Act.put, qsI, qs0, qsS, i64_w, i32_w]
        rfl
       refine one_ (i := 16) (N := some 31) #[true,true,true,true,true,true,true,true,true,true,true,true,true,true,true,true,true, false, true,true,true,true,true,true,true,true, false, true, false, false, false, false, false] rfl rfl (by kernel_rfl) (by decide) (fun K hK => ?_)
       refine value_ (w1 := ?_) (v := ?_) (by rfl) rfl ?_ ?_
       rotate_left 2
       ·
        go_simp
        constructor
        · rfl
        · rfl
       have hP4 := hP3.below (qbA (Below.refl wk3.heap.size wk3) (.cells #[.int .i64 x1] 3))
       have hk1_4 := blk_new wk3 (.cells #[.int .i64 x1] 3)
       have hk2_4 := qkB hk2_3 (qbA (Below.refl wk3.heap.size wk3) (.cells #[.int .i64 x1] 3))
       generalize wk3.alloc (.cells #[.int .i64 x1] 3) = wk4 at hP4 hk2_4 hk1_4 ⊢
       refine hK.out _ _ (hP4.facts E0.out E1.out E2.out) (fun hHeld => ?_)
       clear hK K
       refine norm_ (a' := ?_) ?_ ?_
       rotate_left
       ·
        show Act.put _ (some 31) _ = _
        simp only [Act.put, qsI, qs0, qsS, i64_w, i32_w]
        rfl
       refine one_ (i := 17) (N := some 32) #[true,true,true,true,true,true,true,true,true,true,true,true,true,true,true,true,true,true,true,true,true,true,true,true,true,true, false, true, false, false, false, false, false] rfl rfl (by kernel_rfl) (by decide) (fun K hK => ?_)
       refine Kd.R_append_rows_step (Kd.int .i64) (Rr := (Kd.int .i64).K wk4) (w0 := wk4) w5.heap.size (by rfl) (.tmp 25) (.tmp 31) 31 3 (.int .i64 0) 8 rfl Try.underlying31 info3 rfl (by decide) (by decide) v1 L1 [x1] (some ⟨wk3.heap.size, 0, none⟩) 1 1 (fun _ => True) (fun _ => False) rfl rfl hP4.r1 (one_row hk1_4) (fun _ _ h => h) (fun _ h => h.elim) (fun _ _ => trivial) (Below.refl _ _) hP4.sz (Nat.le_trans (Nat.mul_le_mul_right 8 HL1.out) (by decide)) ?_
       intro n1 wk5 hR1 hB1 hG1 hat1
       have hP5 := hP4.app1 hR1 hG1
       have hk2_5 := blk_grown hk2_4 hG1 (fun he => (typed_ne ⟨_, hk2_4⟩ (Kd.R_typed hP4.r1 _ he.symm) (by decide)) rfl)
       refine hK.out _ _ (hP5.facts E0.out E1.out E2.out) (fun hHeld => ?_)
       clear hK K
       refine norm_ (a' := ?_) ?_ ?_
       rotate_left
       ·
        show Act.put _ (some 32) _ = _
        simp only [Act.put, qsI, qs0, qsS, i64_w, i32_w]
        rfl
       exact norm_ (by simp only [putAll, Act.put, qsI, qs0, qsS]) (hCont ((wD.heap.size, wk3.heap.size, wk2.heap.size), (n0, n1)) _ ⟨hP5, hk2_5⟩)
     ·
      skip
      refine value_ (w1 := ?_) (v := ?_) (by rfl) rfl ?_ ?_
      rotate_left 2
      ·
       go_simp
       constructor
       · rfl
       · rfl
      have hP2 := hP1.below (qbA (Below.refl wk1.heap.size wk1) (.cells #[.int .i64 x1] 3))
      have hk1_2 := blk_new wk1 (.cells #[.int .i64 x1] 3)
      have hk0_2 := qkB hk0_1 (qbA (Below.refl wk1.heap.size wk1) (.cells #[.int .i64 x1] 3))
      generalize wk1.alloc (.cells #[.int .i64 x1] 3) = wk2 at hP2 hk0_2 hk1_2 ⊢
      refine hK.out _ _ (hP2.facts E0.out E1.out E2.out) (fun hHeld => ?_)
      clear hK K
      refine norm_ (a' := ?_) ?_ ?_
      rotate_left
      ·
       show Act.put _ (some 31) _ = _
       simp only [Act.put, qsI, qs0, qsS, i64_w, i32_w]
       rfl
      refine two_ (i := 8) (j := 25) (Ni := some 23) (Nj := some 40) #[true,true,true,true,true,true,true,true,true,true,true,true,true,true,true,true,true, false, true,true,true,true,true,true,true, false, false, false, false, false, false, false, false] #[true,true,true,true,true,true,true,true, false, true,true,true,true,true,true,true,true, false, true,true,true,true,true,true,true,true, false, false, false, false, false, false, false] rfl rfl rfl rfl (by kernel_rfl) (by decide) (by decide) (fun K hK => ?_) (fun K hK => ?_)
      ·
       skip
       refine Kd.R_append_rows_step (Kd.int .u8) (Rr := (Kd.int .u8).K wk2) (w0 := wk2) w5.heap.size (by rfl) (.tmp 16) (.tmp 22) 22 5 (.int .u8 0) 1 rfl Try.underlying22 info5 rfl (by decide) (by decide) v0 L0 [x0] (some ⟨wD.heap.size, 0, none⟩) 1 1 (fun _ => True) (fun _ => False) rfl rfl hP2.r0 (one_row hk0_2) (fun _ _ h => h) (fun _ h => h.elim) (fun _ _ => trivial) (Below.refl _ _) hP2.sz (Nat.le_trans (Nat.mul_le_mul_right 1 HL0.out) (by decide)) ?_
       intro n0 wk3 hR0 hB0 hG0 hat0
       have hP3 := hP2.app0 hR0 hG0
       have hk1_3 := blk_grown hk1_2 hG0 (fun he => (typed_ne ⟨_, hk1_2⟩ (Kd.R_typed hP2.r0 _ he.symm) (by decide)) rfl)
       refine hK.out _ _ (hP3.facts E0.out E1.out E2.out) (fun hHeld => ?_)
       clear hK K
       refine norm_ (a' := ?_) ?_ ?_
       rotate_left
       ·
        show Act.put _ (some 23) _ = _
        simp only [Act.put, qsI, qs0, qsS, i64_w, i32_w]
        rfl
       refine pure_ (i := 27) (N := some 42) (v := ?_) (a' := ?_) #[true,true,true,true,true,true,true,true,true,true,true,true,true,true,true,true,true, false, true,true,true,true,true,true,true, false, false, true, false, false, false, false, false] rfl rfl (by kernel_rfl) (fun _ _ _ h => h) (Or.inl ⟨by rfl, ?_⟩) ?_ ?_
       rotate_left
       ·
        intro w'
        go_simp
        with_reducible rfl
       rotate_left
       ·
        simp only [Act.put, qsI, qs0, qsS, i64_w, i32_w]
        rfl
       refine two_ (i := 17) (j := 25) (Ni := some 32) (Nj := some 40) #[true,true,true,true,true,true,true,true,true,true,true,true,true,true,true,true,true,true,true,true,true,true,true,true,true, false, false, true, false, false, false, false, false] #[true,true,true,true,true,true,true,true,true,true,true,true,true,true,true,true,true, false, true,true,true,true,true,true,true,true, false, true, false, false, false, false, false] rfl rfl rfl rfl (by kernel_rfl) (by decide) (by decide) (fun K hK => ?_) (fun K hK => ?_)
       ·
        skip
        refine Kd.R_append_rows_step (Kd.int .i64) (Rr := (Kd.int .i64).K wk3) (w0 := wk3) w5.heap.size (by rfl) (.tmp 25) (.tmp 31) 31 3 (.int .i64 0) 8 rfl Try.underlying31 info3 rfl (by decide) (by decide) v1 L1 [x1] (some ⟨wk1.heap.size, 0, none⟩) 1 1 (fun _ => True) (fun _ => False) rfl rfl hP3.r1 (one_row hk1_3) (fun _ _ h => h) (fun _ h => h.elim) (fun _ _ => trivial) (Below.refl _ _) hP3.sz (Nat.le_trans (Nat.mul_le_mul_right 8 HL1.out) (by decide)) ?_
        intro n1 wk4 hR1 hB1 hG1 hat1
        have hP4 := hP3.app1 hR1 hG1
        refine hK.out _ _ (hP4.facts E0.out E1.out E2.out) (fun hHeld => ?_)
        clear hK K
        refine norm_ (a' := ?_) ?_ ?_
        rotate_left
        ·
         show Act.put _ (some 32) _ = _
         simp only [Act.put, qsI, qs0, qsS, i64_w, i32_w]
         rfl
        refine one_ (i := 25) (N := some 40) #[true,true,true,true,true,true,true,true,true,true,true,true,true,true,true,true,true,true,true,true,true,true,true,true,true,true, false, true, false, false, false, false, false] rfl rfl (by kernel_rfl) (by decide) (fun K hK => ?_)
        refine value_ (w1 := ?_) (v := ?_) (by rfl) rfl ?_ ?_
        rotate_left 2
        ·
         go_simp
         constructor
         · rfl
         · rfl
        have hP5 := hP4.below (qbA (Below.refl wk4.heap.size wk4) (.cells #[.bool x2] 4))
        have hk2_5 := blk_new wk4 (.cells #[.bool x2] 4)
        generalize wk4.alloc (.cells #[.bool x2] 4) = wk5 at hP5 hk2_5 ⊢
        refine hK.out _ _ (hP5.facts E0.out E1.out E2.out) (fun hHeld => ?_)
        clear hK K
        refine norm_ (a' := ?_) ?_ ?_
        rotate_left
        ·
         show Act.put _ (some 40) _ = _
         simp only [Act.put, qsI, qs0, qsS, i64_w, i32_w]
         rfl
        exact norm_ (by simp only [putAll, Act.put, qsI, qs0, qsS]) (hCont ((wD.heap.size, wk1.heap.size, wk4.heap.size), (n0, n1)) _ ⟨hP5, hk2_5⟩)
       ·
        skip
        refine value_ (w1 := ?_) (v := ?_) (by rfl) rfl ?_ ?_
        rotate_left 2
        ·
         go_simp
         constructor
         · rfl
         · rfl
        have hP4 := hP3.below (qbA (Below.refl wk3.heap.size wk3) (.cells #[.bool x2] 4))
        have hk2_4 := blk_new wk3 (.cells #[.bool x2] 4)
        have hk1_4 := qkB hk1_3 (qbA (Below.refl wk3.heap.size wk3) (.cells #[.bool x2] 4))
        generalize wk3.alloc (.cells #[.bool x2] 4) = wk4 at hP4 hk1_4 hk2_4 ⊢
        refine hK.out _ _ (hP4.facts E0.out E1.out E2.out) (fun hHeld => ?_)
        clear hK K
        refine norm_ (a' := ?_) ?_ ?_
        rotate_left
        ·
         show Act.put _ (some 40) _ = _
         simp only [Act.put, qsI, qs0, qsS, i64_w, i32_w]
         rfl
        refine one_ (i := 17) (N := some 32) #[true,true,true,true,true,true,true,true,true,true,true,true,true,true,true,true,true,true,true,true,true,true,true,true,true,true, false, true, false, false, false, false, false] rfl rfl (by kernel_rfl) (by decide) (fun K hK => ?_)
        refine Kd.R_append_rows_step (Kd.int .i64) (Rr := (Kd.int .i64).K wk4) (w0 := wk4) w5.heap.size (by rfl) (.tmp 25) (.tmp 31) 31 3 (.int .i64 0) 8 rfl Try.underlying31 info3 rfl (by decide) (by decide) v1 L1 [x1] (some ⟨wk1.heap.size, 0, none⟩) 1 1 (fun _ => True) (fun _ => False) rfl rfl hP4.r1 (one_row hk1_4) (fun _ _ h => h) (fun _ h => h.elim) (fun _ _ => trivial) (Below.refl _ _) hP4.sz (Nat.le_trans (Nat.mul_le_mul_right 8 HL1.out) (by decide)) ?_
        intro n1 wk5 hR1 hB1 hG1 hat1
        have hP5 := hP4.app1 hR1 hG1
        have hk2_5 := blk_grown hk2_4 hG1 (fun he => (typed_ne ⟨_, hk2_4⟩ (Kd.R_typed hP4.r1 _ he.symm) (by decide)) rfl)
        refine hK.out _ _ (hP5.facts E0.out E1.out E2.out) (fun hHeld => ?_)
        clear hK K
        refine norm_ (a' := ?_) ?_ ?_
        rotate_left
        ·
         show Act.put _ (some 32) _ = _
         simp only [Act.put, qsI, qs0, qsS, i64_w, i32_w]
         rfl
        exact norm_ (by simp only [putAll, Act.put, qsI, qs0, qsS]) (hCont ((wD.heap.size, wk1.heap.size, wk3.heap.size), (n0, n1)) _ ⟨hP5, hk2_5⟩)
      ·
       skip
       refine value_ (w1 := ?_) (v := ?_) (by rfl) rfl ?_ ?_
       rotate_left 2
       ·
        go_simp
        constructor
        · rfl
        · rfl
       have hP3 := hP2.below (qbA (Below.refl wk2.heap.size wk2) (.cells #[.bool x2] 4))
       have hk2_3 := blk_new wk2 (.cells #[.bool x2] 4)
       have hk0_3 := qkB hk0_2 (qbA (Below.refl wk2.heap.size wk2) (.cells #[.bool x2] 4))
       have hk1_3 := qkB hk1_2 (qbA (Below.refl wk2.heap.size wk2) (.cells #[.bool x2] 4))
       generalize wk2.alloc (.cells #[.bool x2] 4) = wk3 at hP3 hk0_3 hk1_3 hk2_3 ⊢
       refine hK.out _ _ (hP3.facts E0.out E1.out E2.out) (fun hHeld => ?_)
       clear hK K
       refine norm_ (a' := ?_) ?_ ?_
       rotate_left
       ·
        show Act.put _ (some 40) _ = _
        simp only [Act.put, qsI, qs0, qsS, i64_w, i32_w]
        rfl
       refine one_ (i := 8) (N := some 23) #[true,true,true,true,true,true,true,true,true,true,true,true,true,true,true,true,true, false, true,true,true,true,true,true,true,true, false, false, false, false, false, false, false] rfl rfl (by kernel_rfl) (by decide) (fun K hK => ?_)
       refine Kd.R_append_rows_step (Kd.int .u8) (Rr := (Kd.int .u8).K wk3) (w0 := wk3) w5.heap.size (by rfl) (.tmp 16) (.tmp 22) 22 5 (.int .u8 0) 1 rfl Try.underlying22 info5 rfl (by decide) (by decide) v0 L0 [x0] (some ⟨wD.heap.size, 0, none⟩) 1 1 (fun _ => True) (fun _ => False) rfl rfl hP3.r0 (one_row hk0_3) (fun _ _ h => h) (fun _ h => h.elim) (fun _ _ => trivial) (Below.refl _ _) hP3.sz (Nat.le_trans (Nat.mul_le_mul_right 1 HL0.out) (by decide)) ?_
       intro n0 wk4 hR0 hB0 hG0 hat0
       have hP4 := hP3.app0 hR0 hG0
       have hk1_4 := blk_grown hk1_3 hG0 (fun he => (typed_ne ⟨_, hk1_3⟩ (Kd.R_typed hP3.r0 _ he.symm) (by decide)) rfl)
       have hk2_4 := blk_grown hk2_3 hG0 (fun he => (typed_ne ⟨_, hk2_3⟩ (Kd.R_typed hP3.r0 _ he.symm) (by decide)) rfl)
       refine hK.out _ _ (hP4.facts E0.out E1.out E2.out) (fun hHeld => ?_)
       clear hK K
       refine norm_ (a' := ?_) ?_ ?_
       rotate_left
       ·
        show Act.put _ (some 23) _ = _
        simp only [Act.put, qsI, qs0, qsS, i64_w, i32_w]
        rfl
       refine pure_ (i := 27) (N := some 42) (v := ?_) (a' := ?_) #[true,true,true,true,true,true,true,true,true,true,true,true,true,true,true,true,true, false, true,true,true,true,true,true,true,true, false, true, false, false, false, false, false] rfl rfl (by kernel_rfl) (fun _ _ _ h => h) (Or.inl ⟨by rfl, ?_⟩) ?_ ?_
       rotate_left
       ·
        intro w'
        go_simp
        with_reducible rfl
       rotate_left
       ·
        simp only [Act.put, qsI, qs0, qsS, i64_w, i32_w]
        rfl
       refine one_ (i := 17) (N := some 32) #[true,true,true,true,true,true,true,true,true,true,true,true,true,true,true,true,true,true,true,true,true,true,true,true,true,true, false, true, false, false, false, false, false] rfl rfl (by kernel_rfl) (by decide) (fun K hK => ?_)
       refine Kd.R_append_rows_step (Kd.int .i64) (Rr := (Kd.int .i64).K wk4) (w0 := wk4) w5.heap.size (by rfl) (.tmp 25) (.tmp 31) 31 3 (.int .i64 0) 8 rfl Try.underlying31 info3 rfl (by decide) (by decide) v1 L1 [x1] (some ⟨wk1.heap.size, 0, none⟩) 1 1 (fun _ => True) (fun _ => False) rfl rfl hP4.r1 (one_row hk1_4) (fun _ _ h => h) (fun _ h => h.elim) (fun _ _ => trivial) (Below.refl _ _) hP4.sz (Nat.le_trans (Nat.mul_le_mul_right 8 HL1.out) (by decide)) ?_
       intro n1 wk5 hR1 hB1 hG1 hat1
       have hP5 := hP4.app1 hR1 hG1
       have hk2_5 := blk_grown hk2_4 hG1 (fun he => (typed_ne ⟨_, hk2_4⟩ (Kd.R_typed hP4.r1 _ he.symm) (by decide)) rfl)
       refine hK.out _ _ (hP5.facts E0.out E1.out E2.out) (fun hHeld => ?_)
       clear hK K
       refine norm_ (a' := ?_) ?_ ?_
       rotate_left
       ·
        show Act.put _ (some 32) _ = _
        simp only [Act.put, qsI, qs0, qsS, i64_w, i32_w]
        rfl
       exact norm_ (by simp only [putAll, Act.put, qsI, qs0, qsS]) (hCont ((wD.heap.size, wk1.heap.size, wk2.heap.size), (n0, n1)) _ ⟨hP5, hk2_5⟩)
     ·
      skip
      refine value_ (w1 := ?_) (v := ?_) (by rfl) rfl ?_ ?_
      rotate_left 2
      ·
       go_simp
       constructor
       · rfl
       · rfl
      have hP2 := hP1.below (qbA (Below.refl wk1.heap.size wk1) (.cells #[.bool x2] 4))
      have hk2_2 := blk_new wk1 (.cells #[.bool x2] 4)
      have hk0_2 := qkB hk0_1 (qbA (Below.refl wk1.heap.size wk1) (.cells #[.bool x2] 4))
      generalize wk1.alloc (.cells #[.bool x2] 4) = wk2 at hP2 hk0_2 hk2_2 ⊢
      refine hK.out _ _ (hP2.facts E0.out E1.out E2.out) (fun hHeld => ?_)
      clear hK K
      refine norm_ (a' := ?_) ?_ ?_
      rotate_left
      ·
       show Act.put _ (some 40) _ = _
       simp only [Act.put, qsI, qs0, qsS, i64_w, i32_w]
       rfl
      refine two_ (i := 8) (j := 16) (Ni := some 23) (Nj := some 31) #[true,true,true,true,true,true,true,true,true,true,true,true,true,true,true,true, false, false, true,true,true,true,true,true,true,true, false, false, false, false, false, false, false] #[true,true,true,true,true,true,true,true, false, true,true,true,true,true,true,true,true, false, true,true,true,true,true,true,true,true, false, false, false, false, false, false, false] rfl rfl rfl rfl (by kernel_rfl) (by decide) (by decide) (fun K hK => ?_) (fun K hK => ?_)
      ·
       skip
       refine Kd.R_append_rows_step (Kd.int .u8) (Rr := (Kd.int .u8).K wk2) (w0 := wk2) w5.heap.size (by rfl) (.tmp 16) (.tmp 22) 22 5 (.int .u8 0) 1 rfl Try.underlying22 info5 rfl (by decide) (by decide) v0 L0 [x0] (some ⟨wD.heap.size, 0, none⟩) 1 1 (fun _ => True) (fun _ => False) rfl rfl hP2.r0 (one_row hk0_2) (fun _ _ h => h) (fun _ h => h.elim) (fun _ _ => trivial) (Below.refl _ _) hP2.sz (Nat.le_trans (Nat.mul_le_mul_right 1 HL0.out) (by decide)) ?_
       intro n0 wk3 hR0 hB0 hG0 hat0
       have hP3 := hP2.app0 hR0 hG0
       have hk2_3 := blk_grown hk2_2 hG0 (fun he => (typed_ne ⟨_, hk2_2⟩ (Kd.R_typed hP2.r0 _ he.symm) (by decide)) rfl)
       refine hK.out _ _ (hP3.facts E0.out E1.out E2.out) (fun hHeld => ?_)
       clear hK K
       refine norm_ (a' := ?_) ?_ ?_
       rotate_left
       ·
        show Act.put _ (some 23) _ = _
        simp only [Act.put, qsI, qs0, qsS, i64_w, i32_w]
        rfl
       refine pure_ (i := 27) (N := some 42) (v := ?_) (a' := ?_) #[true,true,true,true,true,true,true,true,true,true,true,true,true,true,true,true, false, false, true,true,true,true,true,true,true,true, false, true, false, false, false, false, false] rfl rfl (by kernel_rfl) (fun _ _ _ h => h) (Or.inl ⟨by rfl, ?_⟩) ?_ ?_
       rotate_left
       ·
        intro w'
        go_simp
        with_reducible rfl
       rotate_left
       ·
        simp only [Act.put, qsI, qs0, qsS, i64_w, i32_w]
        rfl
       refine one_ (i := 16) (N := some 31) #[true,true,true,true,true,true,true,true,true,true,true,true,true,true,true,true,true, false, true,true,true,true,true,true,true,true, false, true, false, false, false, false, false] rfl rfl (by kernel_rfl) (by decide) (fun K hK => ?_)
       refine value_ (w1 := ?_) (v := ?_) (by rfl) rfl ?_ ?_
       rotate_left 2
       ·
        go_simp
        constructor
        · rfl
        · rfl
       have hP4 := hP3.below (qbA (Below.refl wk3.heap.size wk3) (.cells #[.int .i64 x1] 3))
       have hk1_4 := blk_new wk3 (.cells #[.int .i64 x1] 3)
       have hk2_4 := qkB hk2_3 (qbA (Below.refl wk3.heap.size wk3) (.cells #[.int .i64 x1] 3))
       generalize wk3.alloc (.cells #[.int .i64 x1] 3) = wk4 at hP4 hk2_4 hk1_4 ⊢
       refine hK.out _ _ (hP4.facts E0.out E1.out E2.out) (fun hHeld => ?_)
       clear hK K
       refine norm_ (a' := ?_) ?_ ?_
       rotate_left
       ·
        show Act.put _ (some 31) _ = _
        simp only [Act.put, qsI, qs0, qsS, i64_w, i32_w]
        rfl
       refine one_ (i := 17) (N := some 32) #[true,true,true,true,true,true,true,true,true,true,true,true,true,true,true,true,true,true,true,true,true,true,true,true,true,true, false, true, false, false, false, false, false] rfl rfl (by kernel_rfl) (by decide) (fun K hK => ?_)
       refine Kd.R_append_rows_step (Kd.int .i64) (Rr := (Kd.int .i64).K wk4) (w0 := wk4) w5.heap.size (by rfl) (.tmp 25) (.tmp 31) 31 3 (.int .i64 0) 8 rfl Try.underlying31 info3 rfl (by decide) (by decide) v1 L1 [x1] (some ⟨wk3.heap.size, 0, none⟩) 1 1 (fun _ => True) (fun _ => False) rfl rfl hP4.r1 (one_row hk1_4) (fun _ _ h => h) (fun _ h => h.elim) (fun _ _ => trivial) (Below.refl _ _) hP4.sz (Nat.le_trans (Nat.mul_le_mul_right 8 HL1.out) (by decide)) ?_
       intro n1 wk5 hR1 hB1 hG1 hat1
       have hP5 := hP4.app1 hR1 hG1
       have hk2_5 := blk_grown hk2_4 hG1 (fun he => (typed_ne ⟨_, hk2_4⟩ (Kd.R_typed hP4.r1 _ he.symm) (by decide)) rfl)
       refine hK.out _ _ (hP5.facts E0.out E1.out E2.out) (fun hHeld => ?_)
       clear hK K
       refine norm_ (a' := ?_) ?_ ?_
       rotate_left
       ·
        show Act.put _ (some 32) _ = _
        simp only [Act.put, qsI, qs0, qsS, i64_w, i32_w]
        rfl
       exact norm_ (by simp only [putAll, Act.put, qsI, qs0, qsS]) (hCont ((wD.heap.size, wk3.heap.size, wk1.heap.size), (n0, n1)) _ ⟨hP5, hk2_5⟩)
      ·
       skip
       refine value_ (w1 := ?_) (v := ?_) (by rfl) rfl ?_ ?_
       rotate_left 2
       ·
        go_simp
        constructor
        · rfl
        · rfl
       have hP3 := hP2.below (qbA (Below.refl wk2.heap.size wk2) (.cells #[.int .i64 x1] 3))
       have hk1_3 := blk_new wk2 (.cells #[.int .i64 x1] 3)
       have hk0_3 := qkB hk0_2 (qbA (Below.refl wk2.heap.size wk2) (.cells #[.int .i64 x1] 3))
       have hk2_3 := qkB hk2_2 (qbA (Below.refl wk2.heap.size wk2) (.cells #[.int .i64 x1] 3))
       generalize wk2.alloc (.cells #[.int .i64 x1] 3) = wk3 at hP3 hk0_3 hk2_3 hk1_3 ⊢
       refine hK.out _ _ (hP3.facts E0.out E1.out E2.out) (fun hHeld => ?_)
       clear hK K
       refine norm_ (a' := ?_) ?_ ?_
       rotate_left
       ·
        show Act.put _ (some 31) _ = _
        simp only [Act.put, qsI, qs0, qsS, i64_w, i32_w]
        rfl
       refine one_ (i := 8) (N := some 23) #[true,true,true,true,true,true,true,true,true,true,true,true,true,true,true,true,true, false, true,true,true,true,true,true,true,true, false, false, false, false, false, false, false] rfl rfl (by kernel_rfl) (by decide) (fun K hK => ?_)
       refine Kd.R_append_rows_step (Kd.int .u8) (Rr := (Kd.int .u8).K wk3) (w0 := wk3) w5.heap.size (by rfl) (.tmp 16) (.tmp 22) 22 5 (.int .u8 0) 1 rfl Try.underlying22 info5 rfl (by decide) (by decide) v0 L0 [x0] (some ⟨wD.heap.size, 0, none⟩) 1 1 (fun _ => True) (fun _ => False) rfl rfl hP3.r0 (one_row hk0_3) (fun _ _ h => h) (fun _ h => h.elim) (fun _ _ => trivial) (Below.refl _ _) hP3.sz (Nat.le_trans (Nat.mul_le_mul_right 1 HL0.out) (by decide)) ?_
       intro n0 wk4 hR0 hB0 hG0 hat0
       have hP4 := hP3.app0 hR0 hG0
       have hk2_4 := blk_grown hk2_3 hG0 (fun he => (typed_ne ⟨_, hk2_3⟩ (Kd.R_typed hP3.r0 _ he.symm) (by decide)) rfl)
       have hk1_4 := blk_grown hk1_3 hG0 (fun he => (typed_ne ⟨_, hk1_3⟩ (Kd.R_typed hP3.r0 _ he.symm) (by decide)) rfl)
       refine hK.out _ _ (hP4.facts E0.out E1.out E2.out) (fun hHeld => ?_)
       clear hK K
       refine norm_ (a' := ?_) ?_ ?_
       rotate_left
       ·
        show Act.put _ (some 23) _ = _
        simp only [Act.put, qsI, qs0, qsS, i64_w, i32_w]
        rfl
       refine pure_ (i := 27) (N := some 42) (v := ?_) (a' := ?_) #[true,true,true,true,true,true,true,true,true,true,true,true,true,true,true,true,true, false, true,true,true,true,true,true,true,true, false, true, false, false, false, false, false] rfl rfl (by kernel_rfl) (fun _ _ _ h => h) (Or.inl ⟨by rfl, ?_⟩) ?_ ?_
       rotate_left
       ·
        intro w'
        go_simp
        with_reducible rfl
       rotate_left
       ·
        simp only [Act.put, qsI, qs0, qsS, i64_w, i32_w]
        rfl
       refine one_ (i := 17) (N := some 32) #[true,true,true,true,true,true,true,true,true,true,true,true,true,true,true,true,true,true,true,true,true,true,true,true,true,true, false, true, false, false, false, false, false] rfl rfl (by kernel_rfl) (by decide) (fun K hK => ?_)
       refine Kd.R_append_rows_step (Kd.int .i64) (Rr := (Kd.int .i64).K wk4) (w0 := wk4) w5.heap.size (by rfl) (.tmp 25) (.tmp 31) 31 3 (.int .i64 0) 8 rfl Try.underlying31 info3 rfl (by decide) (by decide) v1 L1 [x1] (some ⟨wk2.heap.size, 0, none⟩) 1 1 (fun _ => True) (fun _ => False) rfl rfl hP4.r1 (one_row hk1_4) (fun _ _ h => h) (fun _ h => h.elim) (fun _ _ => trivial) (Below.refl _ _) hP4.sz (Nat.le_trans (Nat.mul_le_mul_right 8 HL1.out) (by decide)) ?_
       intro n1 wk5 hR1 hB1 hG1 hat1
       have hP5 := hP4.app1 hR1 hG1
       have hk2_5 := blk_grown hk2_4 hG1 (fun he => (typed_ne ⟨_, hk2_4⟩ (Kd.R_typed hP4.r1 _ he.symm) (by decide)) rfl)
       refine hK.out _ _ (hP5.facts E0.out E1.out E2.out) (fun hHeld => ?_)
       clear hK K
       refine norm_ (a' := ?_) ?_ ?_
       rotate_left
       ·
        show Act.put _ (some 32) _ = _
        simp only [Act.put, qsI, qs0, qsS, i64_w, i32_w]
        rfl
       exact norm_ (by simp only [putAll, Act.put, qsI, qs0, qsS]) (hCont ((wD.heap.size, wk2.heap.size, wk1.heap.size), (n0, n1)) _ ⟨hP5, hk2_5⟩)
    ·
     skip
     refine value_ (w1 := ?_) (v := ?_) (by rfl) rfl ?_ ?_
     rotate_left 2
     ·
      go_simp
      constructor
      · rfl
      · rfl
     have hP1 := hP0.below (qbA (Below.refl wD.heap.size wD) (.cells #[.int .i64 x1] 3))
     have hk1_1 := blk_new wD (.cells #[.int .i64 x1] 3)
     generalize wD.alloc (.cells #[.int .i64 x1] 3) = wk1 at hP1 hk1_1 ⊢
     refine hK.out _ _ (hP1.facts E0.out E1.out E2.out) (fun hHeld => ?_)
     clear hK K
     refine norm_ (a' := ?_) ?_ ?_
     rotate_left
     ·
      show Act.put _ (some 31) _ = _
      simp only [Act.put, qsI, qs0, qsS, i64_w, i32_w]
      rfl
     refine two_ (i := 7) (j := 25) (Ni := some 22) (Nj := some 40) #[true,true,true,true,true,true,true,true, false, true,true,true,true,true,true,true,true, false, true,true,true,true,true,true,true, false, false, false, false, false, false, false, false] #[true,true,true,true,true,true,true, false, false, true,true,true,true,true,true,true,true, false, true,true,true,true,true,true,true,true, false, false, false, false, false, false, false] rfl rfl rfl rfl (by kernel_rfl) (by decide) (by decide) (fun K hK => ?_) (fun K hK => ?_)
     ·
      skip
      refine value_ (w1 := ?_) (v := ?_) (by rfl) rfl ?_ ?_
      rotate_left 2
      ·
       go_simp
       constructor
       · rfl
       · rfl
      have hP2 := hP1.below (qbA (Below.refl wk1.heap.size wk1) (.cells #[.int .u8 x0] 5))
      have hk0_2 := blk_new wk1 (.cells #[.int .u8 x0] 5)
      have hk1_2 := qkB hk1_1 (qbA (Below.refl wk1.heap.size wk1) (.cells #[.int .u8 x0] 5))
      generalize wk1.alloc (.cells #[.int .u8 x0] 5) = wk2 at hP2 hk1_2 hk0_2 ⊢
      refine hK.out _ _ (hP2.facts E0.out E1.out E2.out) (fun hHeld => ?_)
      clear hK K
      refine norm_ (a' := ?_) ?_ ?_
      rotate_left
      ·
       show Act.put _ (some 22) _ = _
       simp only [Act.put, qsI, qs0, qsS, i64_w, i32_w]
       rfl
      refine two_ (i := 8) (j := 25) (Ni := some 23) (Nj := some 40) #[true,true,true,true,true,true,true,true,true,true,true,true,true,true,true,true,true, false, true,true,true,true,true,true,true, false, false, false, false, false, false, false, false] #[true,true,true,true,true,true,true,true, false, true,true,true,true,true,true,true,true, false, true,true,true,true,true,true,true,true, false, false, false, false, false, false, false] rfl rfl rfl rfl (by kernel_rfl) (by decide) (by decide) (fun K hK => ?_) (fun K hK => ?_)
      ·
       skip
       refine Kd.R_append_rows_step (Kd.int .u8) (Rr := (Kd.int .u8).K wk2) (w0 := wk2) w5.heap.size (by rfl) (.tmp 16) (.tmp 22) 22 5 (.int .u8 0) 1 rfl Try.underlying22 info5 rfl (by decide) (by decide) v0 L0 [x0] (some ⟨wk1.heap.size, 0, none⟩) 1 1 (fun _ => True) (fun _ => False) rfl rfl hP2.r0 (one_row hk0_2) (fun _ _ h => h) (fun _ h => h.elim) (fun _ _ => trivial) (Below.refl _ _) hP2.sz (Nat.le_trans (Nat.mul_le_mul_right 1 HL0.out) (by decide)) ?_
       intro n0 wk3 hR0 hB0 hG0 hat0
       have hP3 := hP2.app0 hR0 hG0
       have hk1_3 := blk_grown hk1_2 hG0 (fun he => (typed_ne ⟨_, hk1_2⟩ (Kd.R_typed hP2.r0 _ he.symm) (by decide)) rfl)
       refine hK.out _ _ (hP3.facts E0.out E1.out E2.out) (fun hHeld => ?_)
       clear hK K
       refine norm_ (a' := ?_) ?_ ?_
       rotate_left
       ·
        show Act.put _ (some 23) _ = _
        simp only [Act.put, qsI, qs0, qsS, i64_w, i32_w]
        rfl
       refine pure_ (i := 27) (N := some 42) (v := ?_) (a' := ?_) #[true,true,true,true,true,true,true,true,true,true,true,true,true,true,true,true,true, false, true,true,true,true,true,true,true, false, false, true, false, false, false, false, false] rfl rfl (by kernel_rfl) (fun _ _ _ h => h) (Or.inl ⟨by rfl, ?_⟩) ?_ ?_
       rotate_left
       ·
        intro w'
        go_simp
        with_reducible rfl
       rotate_left
       ·
        simp only [Act.put, qsI, qs0, qsS, i64_w, i32_w]
        rfl
       refine two_ (i := 17) (j := 25) (Ni := some 32) (Nj := some 40) #[true,true,true,true,true,true,true,true,true,true,true,true,true,true,true,true,true,true,true,true,true,true,true,true,true, false, false, true, false, false, false, false, false] #[true,true,true,true,true,true,true,true,true,true,true,true,true,true,true,true,true, false, true,true,true,true,true,true,true,true, false, true, false, false, false, false, false] rfl rfl rfl rfl (by kernel_rfl) (by decide) (by decide) (fun K hK => ?_) (fun K hK => ?_)
       ·
        skip
        refine Kd.R_append_rows_step (Kd.int .i64) (Rr := (Kd.int .i64).K wk3) (w0 := wk3) w5.heap.size (by rfl) (.tmp 25) (.tmp 31) 31 3 (.int .i64 0) 8 rfl Try.underlying31 info3 rfl (by decide) (by decide) v1 L1 [x1] (some ⟨wD.heap.size, 0, none⟩) 1 1 (fun _ => True) (fun _ => False) rfl rfl hP3.r1 (one_row hk1_3) (fun _ _ h => h) (fun _ h => h.elim) (fun _ _ => trivial) (Below.refl _ _) hP3.sz (Nat.le_trans (Nat.mul_le_mul_right 8 HL1.out) (by decide)) ?_
        intro n1 wk4 hR1 hB1 hG1 hat1
        have hP4 := hP3.app1 hR1 hG1
        refine hK.out _ _ (hP4.facts E0.out E1.out E2.out) (fun hHeld => ?_)
        clear hK K
        refine norm_ (a' := ?_) ?_ ?_
        rotate_left
        ·
         show Act.put _ (some 32) _ = _
         simp only [Act.put, qsI, qs0, qsS, i64_w, i32_w]
         rfl
        refine one_ (i := 25) (N := some 40) #[true,true,true,true,true,true,true,true,true,true,true,true,true,true,true,true,true,true,true,true,true,true,true,true,true,true, false, true, false, false, false, false, false] rfl rfl (by kernel_rfl) (by decide) (fun K hK => ?_)
        refine value_ (w1 := ?_) (v := ?_) (by rfl) rfl ?_ ?_
        rotate_left 2
        ·
         go_simp
         constructor
         · rfl
         · rfl
        have hP5 := hP4.below (qbA (Below.refl wk4.heap.size wk4) (.cells #[.bool x2] 4))
        have hk2_5 := blk_new wk4 (.cells #[.bool x2] 4)
        generalize wk4.alloc (.cells #[.bool x2] 4) = wk5 at hP5 hk2_5 ⊢
        refine hK.out _ _ (hP5.facts E0.out E1.out E2.out) (fun hHeld => ?_)
        clear hK K
        refine norm_ (a' := ?_) ?_ ?_
        rotate_left
        ·
         show Act.put _ (some 40) _ = _
         simp only [Act.put, qsI, qs0, qsS, i64_w, i32_w]
         rfl
        exact norm_ (by simp only [putAll, Act.put, qsI, qs0, qsS]) (hCont ((wk1.heap.size, wD.heap.size, wk4.heap.size), (n0, n1)) _ ⟨hP5, hk2_5⟩)
       ·
        skip
        refine value_ (w1 := ?_) (v := ?_) (by rfl) rfl ?_ ?_
        rotate_left 2
        ·
         go_simp
         constructor
         · rfl
         · rfl
        have hP4 := hP3.below (qbA (Below.refl wk3.heap.size wk3) (.cells #[.bool x2] 4))
        have hk2_4 := blk_new wk3 (.cells #[.bool x2] 4)
        have hk1_4 := qkB hk1_3 (qbA (Below.refl wk3.heap.size wk3) (.cells #[.bool x2] 4))
        generalize wk3.alloc (.cells #[.bool x2] 4) = wk4 at hP4 hk1_4 hk2_4 ⊢
        refine hK.out _ _ (hP4.facts E0.out E1.out E2.out) (fun hHeld => ?_)
        clear hK K
        refine norm_ (a' := ?_) ?_ ?_
        rotate_left
        ·
         show Act.put _ (some 40) _ = _
         simp only [Act.put, qsI, qs0, qsS, i64_w, i32_w]
         rfl
        refine one_ (i := 17) (N := some 32) #[true,true,true,true,true,true,true,true,true,true,true,true,true,true,true,true,true,true,true,true,true,true,true,true,true,true, false, true, false, false, false, false, false] rfl rfl (by kernel_rfl) (by decide) (fun K hK => ?_)
        refine Kd.R_append_rows_step (Kd.int .i64) (Rr := (Kd.int .i64).K wk4) (w0 := wk4) w5.heap.size (by rfl) (.tmp 25) (.tmp 31) 31 3 (.int .i64 0) 8 rfl Try.underlying31 info3 rfl (by decide) (by decide) v1 L1 [x1] (some ⟨wD.heap.size, 0, none⟩) 1 1 (fun _ => True) (fun _ => False) rfl rfl hP4.r1 (one_row hk1_4) (fun _ _ h => h) (fun _ h => h.elim) (fun _ _ => trivial) (Below.refl _ _) hP4.sz (Nat.le_trans (Nat.mul_le_mul_right 8 HL1.out) (by decide)) ?_
        intro n1 wk5 hR1 hB1 hG1 hat1
        have hP5 := hP4.app1 hR1 hG1
        have hk2_5 := blk_grown hk2_4 hG1 (fun he => (typed_ne ⟨_, hk2_4⟩ (Kd.R_typed hP4.r1 _ he.symm) (by decide)) rfl)
        refine hK.out _ _ (hP5.facts E0.out E1.out E2.out) (fun hHeld => ?_)
        clear hK K
        refine norm_ (a' := ?_) ?_ ?_
        rotate_left
        ·
         show Act.put _ (some 32) _ = _
         simp only [Act.put, qsI, qs0, qsS, i64_w, i32_w]
         rfl
        exact norm_ (by simp only [putAll, Act.put, qsI, qs0, qsS]) (hCont ((wk1.heap.size, wD.heap.size, wk3.heap.size), (n0, n1)) _ ⟨hP5, hk2_5⟩)
      ·
       skip
       refine value_ (w1 := ?_) (v := ?_) (by rfl) rfl ?_ ?_
       rotate_left 2
       ·
        go_simp
        constructor
        · rfl
        · rfl
       have hP3 := hP2.below (qbA (Below.refl wk2.heap.size wk2) (.cells #[.bool x2] 4))
       have hk2_3 := blk_new wk2 (.cells #[.bool x2] 4)
       have hk1_3 := qkB hk1_2 (qbA (Below.refl wk2.heap.size wk2) (.cells #[.bool x2] 4))
       have hk0_3 := qkB hk0_2 (qbA (Below.refl wk2.heap.size wk2) (.cells #[.bool x2] 4))
       generalize wk2.alloc (.cells #[.bool x2] 4) = wk3 at hP3 hk1_3 hk0_3 hk2_3 ⊢
       refine hK.out _ _ (hP3.facts E0.out E1.out E2.out) (fun hHeld => ?_)
       clear hK K
       refine norm_ (a' := ?_) ?_ ?_
       rotate_left
       ·
        show Act.put _ (some 40) _ = _
        simp only [Act.put, qsI, qs0, qsS, i64_w, i32_w]
        rfl
       refine one_ (i := 8) (N := some 23) #[true,true,true,true,true,true,true,true,true,true,true,true,true,true,true,true,true, false, true,true,true,true,true,true,true,true, false, false, false, false, false, false, false] rfl rfl (by kernel_rfl) (by decide) (fun K hK => ?_)
       refine Kd.R_append_rows_step (Kd.int .u8) (Rr := (Kd.int .u8).K wk3) (w0 := wk3) w5.heap.size (by rfl) (.tmp 16) (.tmp 22) 22 5 (.int .u8 0) 1 rfl Try.underlying22 info5 rfl (by decide) (by decide) v0 L0 [x0] (some ⟨wk1.heap.size, 0, none⟩) 1 1 (fun _ => True) (fun _ => False) rfl rfl hP3.r0 (one_row hk0_3) (fun _ _ h => h) (fun _ h => h.elim) (fun _ _ => trivial) (Below.refl _ _) hP3.sz (Nat.le_trans (Nat.mul_le_mul_right 1 HL0.out) (by decide)) ?_
       intro n0 wk4 hR0 hB0 hG0 hat0
       have hP4 := hP3.app0 hR0 hG0
       have hk1_4 := blk_grown hk1_3 hG0 (fun he => (typed_ne ⟨_, hk1_3⟩ (Kd.R_typed hP3.r0 _ he.symm) (by decide)) rfl)
       have hk2_4 := blk_grown hk2_3 hG0 (fun he => (typed_ne ⟨_, hk2_3⟩ (Kd.R_typed hP3.r0 _ he.symm) (by decide)) rfl)
       refine hK.out _ _ (hP4.facts E0.out E1.out E2.out) (fun hHeld => ?_)
       clear hK K
       refine norm_ (a' := ?_) ?_ ?_
       rotate_left
       ·
        show Act.put _ (some 23) _ = _
        simp only [Act.put, qsI, qs0, qsS, i64_w, i32_w]
        rfl
       refine pure_ (i := 27) (N := some 42) (v := ?_) (a' := ?_) #[true,true,true,true,true,true,true,true,true,true,true,true,true,true,true,true,true, false, true,true,true,true,true,true,true,true, false, true, false, false, false, false, false] rfl rfl (by kernel_rfl) (fun _ _ _ h => h) (Or.inl ⟨by rfl, ?_⟩) ?_ ?_
       rotate_left
       ·
        intro w'
        go_simp
        with_reducible rfl
       rotate_left
       ·
        simp only [Act.put, qsI, qs0, qsS, i64_w, i32_w]
        rfl
       refine one_ (i := 17) (N := some 32) #[true,true,true,true,true,true,true,true,true,true,true,true,true,true,true,true,true,true,true,true,true,true,true,true,true,true, false, true, false, false, false, false, false] rfl rfl (by kernel_rfl) (by decide) (fun K hK => ?_)
       refine Kd.R_append_rows_step (Kd.int .i64) (Rr := (Kd.int .i64).K wk4) (w0 := wk4) w5.heap.size (by rfl) (.tmp 25) (.tmp 31) 31 3 (.int .i64 0) 8 rfl Try.underlying31 info3 rfl (by decide) (by decide) v1 L1 [x1] (some ⟨wD.heap.size, 0, none⟩) 1 1 (fun _ => True) (fun _ => False) rfl rfl hP4.r1 (one_row hk1_4) (fun _ _ h => h) (fun _ h => h.elim) (fun _ _ => trivial) (Below.refl _ _) hP4.sz (Nat.le_trans (Nat.mul_le_mul_right 8 HL1.out) (by decide)) ?_
       intro n1 wk5 hR1 hB1 hG1 hat1
       have hP5 := hP4.app1 hR1 hG1
       have hk2_5 := blk_grown hk2_4 hG1 (fun he => (typed_ne ⟨_, hk2_4⟩ (Kd.R_typed hP4.r1 _ he.symm) (by decide)) rfl)
       refine hK.out _ _ (hP5.facts E0.out E1.out E2.out) (fun hHeld => ?_)
       clear hK K
       refine norm_ (a' := ?_) ?_ ?_
       rotate_left
       ·
        show Act.put _ (some 32) _ = _
        simp only [Act.put, qsI, qs0, qsS, i64_w, i32_w]
        rfl
       exact norm_ (by simp only [putAll, Act.put, qsI, qs0, qsS]) (hCont ((wk1.heap.size, wD.heap.size, wk2.heap.size), (n0, n1)) _ ⟨hP5, hk2_5⟩)
     ·
      skip
      refine value_ (w1 := ?_) (v := ?_) (by rfl) rfl ?_ ?_
      rotate_left 2
      ·
       go_simp
       constructor
       · rfl
       · rfl
      have hP2 := hP1.below (qbA (Below.refl wk1.heap.size wk1) (.cells #[.bool x2] 4))
      have hk2_2 := blk_new wk1 (.cells #[.bool x2] 4)
      have hk1_2 := qkB hk1_1 (qbA (Below.refl wk1.heap.size wk1) (.cells #[.bool x2] 4))
      generalize wk1.alloc (.cells #[.bool x2] 4) = wk2 at hP2 hk1_2 hk2_2 ⊢
      refine hK.out _ _ (hP2.facts E0.out E1.out E2.out) (fun hHeld => ?_)
      clear hK K
      refine norm_ (a' := ?_) ?_ ?_
      rotate_left
      ·
       show Act.put _ (some 40) _ = _
       simp only [Act.put, qsI, qs0, qsS, i64_w, i32_w]
       rfl
      refine one_ (i := 7) (N := some 22) #[true,true,true,true,true,true,true,true, false, true,true,true,true,true,true,true,true, false, true,true,true,true,true,true,true,true, false, false, false, false, false, false, false] rfl rfl (by kernel_rfl) (by decide) (fun K hK => ?_)
      refine value_ (w1 := ?_) (v := ?_) (by rfl) rfl ?_ ?_
      rotate_left 2
      ·
       go_simp
       constructor
       · rfl
       · rfl
      have hP3 := hP2.below (qbA (Below.refl wk2.heap.size wk2) (.cells #[.int .u8 x0] 5))
      have hk0_3 := blk_new wk2 (.cells #[.int .u8 x0] 5)
      have hk1_3 := qkB hk1_2 (qbA (Below.refl wk2.heap.size wk2) (.cells #[.int .u8 x0] 5))
      have hk2_3 := qkB hk2_2 (qbA (Below.refl wk2.heap.size wk2) (.cells #[.int .u8 x0] 5))
      generalize wk2.alloc (.cells #[.int .u8 x0] 5) = wk3 at hP3 hk1_3 hk2_3 hk0_3 ⊢
      refine hK.out _ _ (hP3.facts E0.out E1.out E2.out) (fun hHeld => ?_)
      clear hK K
      refine norm_ (a' := ?_) ?_ ?_
      rotate_left
      ·
       show Act.put _ (some 22) _ = _
       simp only [Act.put, qsI, qs0, qsS, i64_w, i32_w]
       rfl
      refine one_ (i := 8) (N := some 23) #[true,true,true,true,true,true,true,true,true,true,true,true,true,true,true,true,true, false, true,true,true,true,true,true,true,true, false, false, false, false, false, false, false] rfl rfl (by kernel_rfl) (by decide) (fun K hK => ?_)
      refine Kd.R_append_rows_step (Kd.int .u8) (Rr := (Kd.int .u8).K wk3) (w0 := wk3) w5.heap.size (by rfl) (.tmp 16) (.tmp 22) 22 5 (.int .u8 0) 1 rfl Try.underlying22 info5 rfl (by decide) (by decide) v0 L0 [x0] (some ⟨wk2.heap.size, 0, none⟩) 1 1 (fun _ => True) (fun _ => False) rfl rfl hP3.r0 (one_row hk0_3) (fun _ _ h => h) (fun _ h => h.elim) (fun _ _ => trivial) (Below.refl _ _) hP3.sz (Nat.le_trans (Nat.mul_le_mul_right 1 HL0.out) (by decide)) ?_
      intro n0 wk4 hR0 hB0 hG0 hat0
      have hP4 := hP3.app0 hR0 hG0
      have hk1_4 := blk_grown hk1_3 hG0 (fun he => (typed_ne ⟨_, hk1_3⟩ (Kd.R_typed hP3.r0 _ he.symm) (by decide)) rfl)
      have hk2_4 := blk_grown hk2_3 hG0 (fun he => (typed_ne ⟨_, hk2_3⟩ (Kd.R_typed hP3.r0 _ he.symm) (by decide)) rfl)
      refine hK.out _ _ (hP4.facts E0.out E1.out E2.out) (fun hHeld => ?_)
      clear hK K
      refine norm_ (a' := ?_) ?_ ?_
      rotate_left
      ·
       show Act.put _ (some 23) _ = _
       simp only [Act.put, qsI, qs0, qsS, i64_w, i32_w]
       rfl
      refine pure_ (i := 27) (N := some 42) (v := ?_) (a' := ?_) #[true,true,true,true,true,true,true,true,true,true,true,true,true,true,true,true,true, false, true,true,true,true,true,true,true,true, false, true, false, false, false, false, false] rfl rfl (by kernel_rfl) (fun _ _ _ h => h) (Or.inl ⟨by rfl, ?_⟩) ?_ ?_
      rotate_left
      ·
       intro w'
       go_simp
       with_reducible rfl
      rotate_left
      ·
       simp only [Act.put, qsI, qs0, qsS, i64_w, i32_w]
       rfl
      refine one_ (i := 17) (N := some 32) #[true,true,true,true,true,true,true,true,true,true,true,true,true,true,true,true,true,true,true,true,true,true,true,true,true,true, false, true, false, false, false, false, false] rfl rfl (by kernel_rfl) (by decide) (fun K hK => ?_)
      refine Kd.R_append_rows_step (Kd.int .i64) (Rr := (Kd.int .i64).K wk4) (w0 := wk4) w5.heap.size (by rfl) (.tmp 25) (.tmp 31) 31 3 (.int .i64 0) 8 rfl Try.underlying31 info3 rfl (by decide) (by decide) v1 L1 [x1] (some ⟨wD.heap.size, 0, none⟩) 1 1 (fun _ => True) (fun _ => False) rfl rfl hP4.r1 (one_row hk1_4) (fun _ _ h => h) (fun _ h => h.elim) (fun _ _ => trivial) (Below.refl _ _) hP4.sz (Nat.le_trans (Nat.mul_le_mul_right 8 HL1.out) (by decide)) ?_
      intro n1 wk5 hR1 hB1 hG1 hat1
      have hP5 := hP4.app1 hR1 hG1
      have hk2_5 := blk_grown hk2_4 hG1 (fun he => (typed_ne ⟨_, hk2_4⟩ (Kd.R_typed hP4.r1 _ he.symm) (by decide)) rfl)
      refine hK.out _ _ (hP5.facts E0.out E1.out E2.out) (fun hHeld => ?_)
      clear hK K
      refine norm_ (a' := ?_) ?_ ?_
      rotate_left
      ·
       show Act.put _ (some 32) _ = _
       simp only [Act.put, qsI, qs0, qsS, i64_w, i32_w]
       rfl
      exact norm_ (by simp only [putAll, Act.put, qsI, qs0, qsS]) (hCont ((wk2.heap.size, wD.heap.size, wk1.heap.size), (n0, n1)) _ ⟨hP5, hk2_5⟩)
    ·
     skip
     refine value_ (w1 := ?_) (v := ?_) (by rfl) rfl ?_ ?_
     rotate_left 2
     ·
      go_simp
      constructor
      · rfl
      · rfl
     have hP1 := hP0.below (qbA (Below.refl wD.heap.size wD) (.cells #[.bool x2] 4))
     have hk2_1 := blk_new wD (.cells #[.bool x2] 4)
     generalize wD.alloc (.cells #[.bool x2] 4) = wk1 at hP1 hk2_1 ⊢
     refine hK.out _ _ (hP1.facts E0.out E1.out E2.out) (fun hHeld => ?_)
     clear hK K
     refine norm_ (a' := ?_) ?_ ?_
     rotate_left
     ·
      show Act.put _ (some 40) _ = _
      simp only [Act.put, qsI, qs0, qsS, i64_w, i32_w]
      rfl
     refine two_ (i := 7) (j := 16) (Ni := some 22) (Nj := some 31) #[true,true,true,true,true,true,true,true, false, true,true,true,true,true,true,true, false, false, true,true,true,true,true,true,true,true, false, false, false, false, false, false, false] #[true,true,true,true,true,true,true, false, false, true,true,true,true,true,true,true,true, false, true,true,true,true,true,true,true,true, false, false, false, false, false, false, false] rfl rfl rfl rfl (by kernel_rfl) (by decide) (by decide) (fun K hK => ?_) (fun K hK => ?_)
     ·
      skip
      refine value_ (w1 := ?_) (v := ?_) (by rfl) rfl ?_ ?_
      rotate_left 2
      ·
       go_simp
       constructor
       · rfl
       · rfl
      have hP2 := hP1.below (qbA (Below.refl wk1.heap.size wk1) (.cells #[.int .u8 x0] 5))
      have hk0_2 := blk_new wk1 (.cells #[.int .u8 x0] 5)
      have hk2_2 := qkB hk2_1 (qbA (Below.refl wk1.heap.size wk1) (.cells #[.int .u8 x0] 5))
      generalize wk1.alloc (.cells #[.int .u8 x0] 5) = wk2 at hP2 hk2_2 hk0_2 ⊢
      refine hK.out _ _ (hP2.facts E0.out E1.out E2.out) (fun hHeld => ?_)
      clear hK K
      refine norm_ (a' := ?_) ?_ ?_
      rotate_left
      ·
       show Act.put _ (some 22) _ = _
       simp only [Act.put, qsI, qs0, qsS, i64_w, i32_w]
       rfl
      refine two_ (i := 8) (j := 16) (Ni := some 23) (Nj := some 31) #[true,true,true,true,true,true,true,true,true,true,true,true,true,true,true,true, false, false, true,true,true,true,true,true,true,true, false, false, false, false, false, false, false] #[true,true,true,true,true,true,true,true, false, true,true,true,true,true,true,true,true, false, true,true,true,true,true,true,true,true, false, false, false, false, false, false, false] rfl rfl rfl rfl (by kernel_rfl) (by decide) (by decide) (fun K hK => ?_) (fun K hK => ?_)
      ·
       skip
       refine Kd.R_append_rows_step (Kd.int .u8) (Rr := (Kd.int .u8).K wk2) (w0 := wk2) w5.heap.size (by rfl) (.tmp 16) (.tmp 22) 22 5 (.int .u8 0) 1 rfl Try.underlying22 info5 rfl (by decide) (by decide) v0 L0 [x0] (some ⟨wk1.heap.size, 0, none⟩) 1 1 (fun _ => True) (fun _ => False) rfl rfl hP2.r0 (one_row hk0_2) (fun _ _ h => h) (fun _ h => h.elim) (fun _ _ => trivial) (Below.refl _ _) hP2.sz (Nat.le_trans (Nat.mul_le_mul_right 1 HL0.out) (by decide)) ?_
       intro n0 wk3 hR0 hB0 hG0 hat0
       have hP3 := hP2.app0 hR0 hG0
       have hk2_3 := blk_grown hk2_2 hG0 (fun he => (typed_ne ⟨_, hk2_2⟩ (Kd.R_typed hP2.r0 _ he.symm) (by decide)) rfl)
       refine hK.out _ _ (hP3.facts E0.out E1.out E2.out) (fun hHeld => ?_)
       clear hK K
       refine norm_ (a' := ?_) ?_ ?_
       rotate_left
       ·
        show Act.put _ (some 23) _ = _
        simp only [Act.put, qsI, qs0, qsS, i64_w, i32_w]
        rfl
       refine pure_ (i := 27) (N := some 42) (v := ?_) (a' := ?_) #[true,true,true,true,true,true,true,true,true,true,true,true,true,true,true,true, false, false, true,true,true,true,true,true,true,true, false, true, false, false, false, false, false] rfl rfl (by kernel_rfl) (fun _ _ _ h => h) (Or.inl ⟨by rfl, ?_⟩) ?_ ?_
       rotate_left
       ·
        intro w'
        go_simp
        with_reducible rfl
       rotate_left
       ·
        simp only [Act.put, qsI, qs0, qsS, i64_w, i32_w]
        rfl
       refine one_ (i := 16) (N := some 31) #[true,true,true,true,true,true,true,true,true,true,true,true,true,true,true,true,true, false, true,true,true,true,true,true,true,true, false, true, false, false, false, false, false] rfl rfl (by kernel_rfl) (by decide) (fun K hK => ?_)
       refine value_ (w1 := ?_) (v := ?_) (by rfl) rfl ?_ ?_
       rotate_left 2
       ·
        go_simp
        constructor
        · rfl
        · rfl
       have hP4 := hP3.below (qbA (Below.refl wk3.heap.size wk3) (.cells #[.int .i64 x1] 3))
       have hk1_4 := blk_new wk3 (.cells #[.int .i64 x1] 3)
       have hk2_4 := qkB hk2_3 (qbA (Below.refl wk3.heap.size wk3) (.cells #[.int .i64 x1] 3))
       generalize wk3.alloc (.cells #[.int .i64 x1] 3) = wk4 at hP4 hk2_4 hk1_4 ⊢
       refine hK.out _ _ (hP4.facts E0.out E1.out E2.out) (fun hHeld => ?_)
       clear hK K
       refine norm_ (a' := ?_) ?_ ?_
       rotate_left
       ·
        show Act.put _ (some 31) _ = _
        simp only [Act.put, qsI, qs0, qsS, i64_w, i32_w]
        rfl
       refine one_ (i := 17) (N := some 32) #[true,true,true,true,true,true,true,true,true,true,true,true,true,true,true,true,true,true,true,true,true,true,true,true,true,true, false, true, false, false, false, false, false] rfl rfl (by kernel_rfl) (by decide) (fun K hK => ?_)
       refine Kd.R_append_rows_step (Kd.int .i64) (Rr := (Kd.int .i64).K wk4) (w0 := wk4) w5.heap.size (by rfl) (.tmp 25) (.tmp 31) 31 3 (.int .i64 0) 8 rfl Try.underlying31 info3 rfl (by decide) (by decide) v1 L1 [x1] (some ⟨wk3.heap.size, 0, none⟩) 1 1 (fun _ => True) (fun _ => False) rfl rfl hP4.r1 (one_row hk1_4) (fun _ _ h => h) (fun _ h => h.elim) (fun _ _ => trivial) (Below.refl _ _) hP4.sz (Nat.le_trans (Nat.mul_le_mul_right 8 HL1.out) (by decide)) ?_
       intro n1 wk5 hR1 hB1 hG1 hat1
       have hP5 := hP4.app1 hR1 hG1
       have hk2_5 := blk_grown hk2_4 hG1 (fun he => (typed_ne ⟨_, hk2_4⟩ (Kd.R_typed hP4.r1 _ he.symm) (by decide)) rfl)
       refine hK.out _ _ (hP5.facts E0.out E1.out E2.out) (fun hHeld => ?_)
       clear hK K
       refine norm_ (a' := ?_) ?_ ?_
       rotate_left
       ·
        show Act.put _ (some 32) _ = _
        simp only [Act.put, qsI, qs0, qsS, i64_w, i32_w]
        rfl
       exact norm_ (by simp only [putAll, Act.put, qsI, qs0, qsS]) (hCont ((wk1.heap.size, wk3.heap.size, wD.heap.size), (n0, n1)) _ ⟨hP5, hk2_5⟩)
      ·
       skip
       refine value_ (w1 := ?_) (v := ?_) (by rfl) rfl ?_ ?_
       rotate_left 2
       ·
        go_simp
        constructor
        · rfl
        · rfl
       have hP3 := hP2.below (qbA (Below.refl wk2.heap.size wk2) (.cells #[.int .i64 x1] 3))
       have hk1_3 := blk_new wk2 (.cells #[.int .i64 x1] 3)
       have hk2_3 := qkB hk2_2 (qbA (Below.refl wk2.heap.size wk2) (.cells #[.int .i64 x1] 3))
       have hk0_3 := qkB hk0_2 (qbA (Below.refl wk2.heap.size wk2) (.cells #[.int .i64 x1] 3))
       generalize wk2.alloc (.cells #[.int .i64 x1] 3) = wk3 at hP3 hk2_3 hk0_3 hk1_3 ⊢
       refine hK.out _ _ (hP3.facts E0.out E1.out E2.out) (fun hHeld => ?_)
       clear hK K
       refine norm_ (a' := ?_) ?_ ?_
       rotate_left
       ·
        show Act.put _ (some 31) _ = _
        simp only [Act.put, qsI, qs0, qsS, i64_w, i32_w]
        rfl
       refine one_ (i := 8) (N := some 23) #[true,true,true,true,true,true,true,true,true,true,true,true,true,true,true,true,true, false, true,true,true,true,true,true,true,true, false, false, false, false, false, false, false] rfl rfl (by kernel_rfl) (by decide) (fun K hK => ?_)
       refine Kd.R_append_rows_step (Kd.int .u8) (Rr := (Kd.int .u8).K wk3) (w0 := wk3) w5.heap.size (by rfl) (.tmp 16) (.tmp 22) 22 5 (.int .u8 0) 1 rfl Try.underlying22 info5 rfl (by decide) (by decide) v0 L0 [x0] (some ⟨wk1.heap.size, 0, none⟩) 1 1 (fun _ => True) (fun _ => False) rfl rfl hP3.r0 (one_row hk0_3) (fun _ _ h => h) (fun _ h => h.elim) (fun _ _ => trivial) (Below.refl _ _) hP3.sz (Nat.le_trans (Nat.mul_le_mul_right 1 HL0.out) (by decide)) ?_
       intro n0 wk4 hR0 hB0 hG0 hat0
       have hP4 := hP3.app0 hR0 hG0
       have hk2_4 := blk_grown hk2_3 hG0 (fun he => (typed_ne ⟨_, hk2_3⟩ (Kd.R_typed hP3.r0 _ he.symm) (by decide)) rfl)
       have hk1_4 := blk_grown hk1_3 hG0 (fun he => (typed_ne ⟨_, hk1_3⟩ (Kd.R_typed hP3.r0 _ he.symm) (by decide)) rfl)
       refine hK.out _ _ (hP4.facts E0.out E1.out E2.out) (fun hHeld => ?_)
       clear hK K
       refine norm_ (a' := ?_) ?_ ?_
       rotate_left
       ·
        show Act.put _ (some 23) _ = _
        simp only [Act.put, qsI, qs0, qsS, i64_w, i32_w]
        rfl
       refine pure_ (i := 27) (N := some 42) (v := ?_) (a' := ?_) #[true,true,true,true,true,true,true,true,true,true,true,true,true,true,true,true,true, false, true,true,true,true,true,true,true,true, false, true, false, false, false, false, false] rfl rfl (by kernel_rfl) (fun _ _ _ h => h) (Or.inl ⟨by rfl, ?_⟩) ?_ ?_
       rotate_left
       ·
        intro w'
        go_simp
        with_reducible rfl
       rotate_left
       ·
        simp only [Act.put, qsI, qs0, qsS, i64_w, i32_w]
        rfl
       refine one_ (i := 17) (N := some 32) #[true,true,true,true,true,true,true,true,true,true,true,true,true,true,true,true,true,true,true,true,true,true,true,true,true,true, false, true, false, false, false, false, false] rfl rfl (by kernel_rfl) (by decide) (fun K hK => ?_)
       refine Kd.R_append_rows_step (Kd.int .i64) (Rr := (Kd.int .i64).K wk4) (w0 := wk4) w5.heap.size (by rfl) (.tmp 25) (.tmp 31) 31 3 (.int .i64 0) 8 rfl Try.underlying31 info3 rfl (by decide) (by decide) v1 L1 [x1] (some ⟨wk2.heap.size, 0, none⟩) 1 1 (fun _ => True) (fun _ => False) rfl rfl hP4.r1 (one_row hk1_4) (fun _ _ h => h) (fun _ h => h.elim) (fun _ _ => trivial) (Below.refl _ _) hP4.sz (Nat.le_trans (Nat.mul_le_mul_right 8 HL1.out) (by decide)) ?_
       intro n1 wk5 hR1 hB1 hG1 hat1
       have hP5 := hP4.app1 hR1 hG1
       have hk2_5 := blk_grown hk2_4 hG1 (fun he => (typed_ne ⟨_, hk2_4⟩ (Kd.R_typed hP4.r1 _ he.symm) (by decide)) rfl)
       refine hK.out _ _ (hP5.facts E0.out E1.out E2.out) (fun hHeld => ?_)
       clear hK K
       refine norm_ (a' := ?_) ?_ ?_
       rotate_left
       ·
        show Act.put _ (some 32) _ = _
        simp only [Act.put, qsI, qs0, qsS, i64_w, i32_w]
        rfl
       exact norm_ (by simp only [putAll, Act.put, qsI, qs0, qsS]) (hCont ((wk1.heap.size, wk2.heap.size, wD.heap.size), (n0, n1)) _ ⟨hP5, hk2_5⟩)
     ·
      skip
      refine value_ (w1 := ?_) (v := ?_) (by rfl) rfl ?_ ?_
      rotate_left 2
      ·
       go_simp
       constructor
       · rfl
       · rfl
      have hP2 := hP1.below (qbA (Below.refl wk1.heap.size wk1) (.cells #[.int .i64 x1] 3))
      have hk1_2 := blk_new wk1 (.cells #[.int .i64 x1] 3)
      have hk2_2 := qkB hk2_1 (qbA (Below.refl wk1.heap.size wk1) (.cells #[.int .i64 x1] 3))
      generalize wk1.alloc (.cells #[.int .i64 x1] 3) = wk2 at hP2 hk2_2 hk1_2 ⊢
      refine hK.out _ _ (hP2.facts E0.out E1.out E2.out) (fun hHeld => ?_)
      clear hK K
      refine norm_ (a' := ?_) ?_ ?_
      rotate_left
      ·
       show Act.put _ (some 31) _ = _
       simp only [Act.put, qsI, qs0, qsS, i64_w, i32_w]
       rfl
      refine one_ (i := 7) (N := some 22) #[true,true,true,true,true,true,true,true, false, true,true,true,true,true,true,true,true, false, true,true,true,true,true,true,true,true, false, false, false, false, false, false, false] rfl rfl (by kernel_rfl) (by decide) (fun K hK => ?_)
      refine value_ (w1 := ?_) (v := ?_) (by rfl) rfl ?_ ?_
      rotate_left 2
      ·
       go_simp
       constructor
       · rfl
       · rfl
      have hP3 := hP2.below (qbA (Below.refl wk2.heap.size wk2) (.cells #[.int .u8 x0] 5))
      have hk0_3 := blk_new wk2 (.cells #[.int .u8 x0] 5)
      have hk2_3 := qkB hk2_2 (qbA (Below.refl wk2.heap.size wk2) (.cells #[.int .u8 x0] 5))
      have hk1_3 := qkB hk1_2 (qbA (Below.refl wk2.heap.size wk2) (.cells #[.int .u8 x0] 5))
      generalize wk2.alloc (.cells #[.int .u8 x0] 5) = wk3 at hP3 hk2_3 hk1_3 hk0_3 ⊢
      refine hK.out _ _ (hP3.facts E0.out E1.out E2.out) (fun hHeld => ?_)
      clear hK K
      refine norm_ (a' := ?_) ?_ ?_
      rotate_left
      ·
       show Act.put _ (some 22) _ = _
       simp only [Act.put, qsI, qs0, qsS, i64_w, i32_w]
       rfl
      refine one_ (i := 8) (N := some 23) #[true,true,true,true,true,true,true,true,true,true,true,true,true,true,true,true,true, false, true,true,true,true,true,true,true,true, false, false, false, false, false, false, false] rfl rfl (by kernel_rfl) (by decide) (fun K hK => ?_)
      refine Kd.R_append_rows_step (Kd.int .u8) (Rr := (Kd.int .u8).K wk3) (w0 := wk3) w5.heap.size (by rfl) (.tmp 16) (.tmp 22) 22 5 (.int .u8 0) 1 rfl Try.underlying22 info5 rfl (by decide) (by decide) v0 L0 [x0] (some ⟨wk2.heap.size, 0, none⟩) 1 1 (fun _ => True) (fun _ => False) rfl rfl hP3.r0 (one_row hk0_3) (fun _ _ h => h) (fun _ h => h.elim) (fun _ _ => trivial) (Below.refl _ _) hP3.sz (Nat.le_trans (Nat.mul_le_mul_right 1 HL0.out) (by decide)) ?_
      intro n0 wk4 hR0 hB0 hG0 hat0
      have hP4 := hP3.app0 hR0 hG0
      have hk2_4 := blk_grown hk2_3 hG0 (fun he => (typed_ne ⟨_, hk2_3⟩ (Kd.R_typed hP3.r0 _ he.symm) (by decide)) rfl)
      have hk1_4 := blk_grown hk1_3 hG0 (fun he => (typed_ne ⟨_, hk1_3⟩ (Kd.R_typed hP3.r0 _ he.symm) (by decide)) rfl)
      refine hK.out _ _ (hP4.facts E0.out E1.out E2.out) (fun hHeld => ?_)
      clear hK K
      refine norm_ (a' := ?_) ?_ ?_
      rotate_left
      ·
       show Act.put _ (some 23) _ = _
       simp only [Act.put, qsI, qs0, qsS, i64_w, i32_w]
       rfl
      refine pure_ (i := 27) (N := some 42) (v := ?_) (a' := ?_) #[true,true,true,true,true,true,true,true,true,true,true,true,true,true,true,true,true, false, true,true,true,true,true,true,true,true, false, true, false, false, false, false, false] rfl rfl (by kernel_rfl) (fun _ _ _ h => h) (Or.inl ⟨by rfl, ?_⟩) ?_ ?_
      rotate_left
      ·
       intro w'
       go_simp
       with_reducible rfl
      rotate_left
      ·
       simp only [Act.put, qsI, qs0, qsS, i64_w, i32_w]
       rfl
      refine one_ (i := 17) (N := some 32) #[true,true,true,true,true,true,true,true,true,true,true,true,true,true,true,true,true,true,true,true,true,true,true,true,true,true, false, true, false, false, false, false, false] rfl rfl (by kernel_rfl) (by decide) (fun K hK => ?_)
      refine Kd.R_append_rows_step (Kd.int .i64) (Rr := (Kd.int .i64).K wk4) (w0 := wk4) w5.heap.size (by rfl) (.tmp 25) (.tmp 31) 31 3 (.int .i64 0) 8 rfl Try.underlying31 info3 rfl (by decide) (by decide) v1 L1 [x1] (some ⟨wk1.heap.size, 0, none⟩) 1 1 (fun _ => True) (fun _ => False) rfl rfl hP4.r1 (one_row hk1_4) (fun _ _ h => h) (fun _ h => h.elim) (fun _ _ => trivial) (Below.refl _ _) hP4.sz (Nat.le_trans (Nat.mul_le_mul_right 8 HL1.out) (by decide)) ?_
      intro n1 wk5 hR1 hB1 hG1 hat1
      have hP5 := hP4.app1 hR1 hG1
      have hk2_5 := blk_grown hk2_4 hG1 (fun he => (typed_ne ⟨_, hk2_4⟩ (Kd.R_typed hP4.r1 _ he.symm) (by decide)) rfl)
      refine hK.out _ _ (hP5.facts E0.out E1.out E2.out) (fun hHeld => ?_)
      clear hK K
      refine norm_ (a' := ?_) ?_ ?_
      rotate_left
      ·
       show Act.put _ (some 32) _ = _
       simp only [Act.put, qsI, qs0, qsS, i64_w, i32_w]
       rfl
      exact norm_ (by simp only [putAll, Act.put, qsI, qs0, qsS]) (hCont ((wk2.heap.size, wk1.heap.size, wD.heap.size), (n0, n1)) _ ⟨hP5, hk2_5⟩)
   rintro ⟨⟨p0, p1, p2⟩, n0, n1⟩ w6 ⟨hP6, hk2_6⟩
   simp only at hP6 hk2_6
   obtain ⟨N0, g0, en0⟩ := Kd.R_slice hP6.r0
   obtain ⟨N1, g1, en1⟩ := Kd.R_slice hP6.r1
   rw [List.length_append, List.length_singleton] at en0 en1
   subst en0 en1
   have hHeld : (w6.cell? ⟨ob, 0, none⟩ = some v0) ∧ (w6.cell? ⟨ob, 1, none⟩ = some v1) ∧ (w6.cell? ⟨ob, 2, none⟩ = some v2) ∧ (w6.cell? ⟨w.heap.size, 0, none⟩ = some (.slice (some ad0) b.length c0)) ∧ (w6.cell? ⟨w.heap.size, 1, none⟩ = some (.slice (some ad1) fr.length c1)) ∧ (w6.cell? ⟨w.heap.size, 2, none⟩ = some (.slice (some ad2) bad.length c2)) ∧ (w6.cell? (ad0.add q.toNat) = some (.int .u8 x0)) ∧ (w6.cell? (ad1.add q.toNat) = some (.int .i64 x1)) ∧ (w6.cell? (ad2.add q.toNat) = some (.bool x2)) := (hP6.facts E0.out E1.out E2.out)
   refine norm_ (a' := ?_) ?_ ?_
   rotate_left
   ·
    simp only [putAll, Act.put, qsI, qs0, qsS]
    rfl
   refine one_ (i := 26) (N := some 41) #[true,true,true,true,true,true,true,true,true,true,true,true,true,true,true,true,true,true,true,true,true,true,true,true,true,true,true,true, false, false, false, false, false] rfl rfl (by kernel_rfl) (by decide) (fun K hK => ?_)
   refine Kd.R_append_rows_step (Kd.bool) (Rr := (Kd.bool).K w6) (w0 := w6) w5.heap.size (by rfl) (.tmp 34) (.tmp 40) 32 4 (.bool false) 1 rfl Try.underlying32 info4 rfl (by decide) (by decide) v2 L2 [x2] (some ⟨p2, 0, none⟩) 1 1 (fun _ => True) (fun _ => False) rfl rfl hP6.r2 (one_row hk2_6) (fun _ _ h => h) (fun _ h => h.elim) (fun _ _ => trivial) (Below.refl _ _) hP6.sz (Nat.le_trans (Nat.mul_le_mul_right 1 HL2.out) (by decide)) ?_
   intro n2 w7 hR2 hB2 hG2 hat2
   obtain ⟨N2, g2, en2⟩ := Kd.R_slice hR2
   rw [List.length_append, List.length_singleton] at en2
   subst en2
   have hP7 := hP6.app2 hR2 hG2
   have o0_ : w7.cell? ⟨ob, 0, none⟩ = some v0 := (blk_cell hP7.o 0).trans rfl
   have k0_ := blk_frozen hP7.o 0
   have y1_ := blk_put hP7.o 0 (.slice N0 (L0.length + 1) g0) rfl
   have o1_ : (w7.setCell ⟨ob, 0, none⟩ (.slice N0 (L0.length + 1) g0)).cell? ⟨ob, 1, none⟩ = some v1 := (blk_cell y1_ 1).trans rfl
   have k1_ := blk_frozen hP7.o 1
   have y2_ := blk_put y1_ 1 (.slice N1 (L1.length + 1) g1) rfl
   have o2_ : ((w7.setCell ⟨ob, 0, none⟩ (.slice N0 (L0.length + 1) g0)).setCell ⟨ob, 1, none⟩ (.slice N1 (L1.length + 1) g1)).cell? ⟨ob, 2, none⟩ = some v2 := (blk_cell y2_ 2).trans rfl
   have k2_ := blk_frozen hP7.o 2
   have hP9 := Aside0.mk (((hP7.put 0 (.slice N0 (L0.length + 1) g0) rfl).put 1 (.slice N1 (L1.length + 1) g1) rfl).put 2 (.slice N2 (L2.length + 1) g2) rfl)
   clear y1_ y2_
   refine hK.out _ _ (hP7.facts E0.out E1.out E2.out) (fun hHeld => ?_)
   clear hK K
   refine norm_ (a' := ?_) ?_ ?_
   rotate_left
   ·
    show Act.put _ (some 41) _ = _
    simp only [Act.put, qsI, qs0, qsS, i64_w, i32_w]
    rfl
   refine last_ (i := 28) (N := none) #[true,true,true,true,true,true,true,true,true,true,true,true,true,true,true,true,true,true,true,true,true,true,true,true,true,true,true,true,true, false, false, false, false] rfl rfl (by kernel_rfl) (by decide) (fun K hK => ?_)
   refine skip_ (w1 := ?_) (by rfl) rfl ?_ ?_
   rotate_left
   ·
    go_simp
    rfl
   refine hK.out _ _ ?_
   clear hK K
   refine pure_ (i := 29) (N := some 43) (v := ?_) (a' := ?_) #[true,true,true,true,true,true,true,true,true,true,true,true,true,true,true,true,true,true,true,true,true,true,true,true,true,true,true,true,true,true, false, false, false] rfl rfl (by kernel_rfl) (fun _ _ _ h => h) (Or.inl ⟨by rfl, ?_⟩) ?_ ?_
   rotate_left
   ·
    intro w'
    go_simp
    with_reducible rfl
   rotate_left
   ·
    simp only [Act.put, qsI, qs0, qsS, i64_w, i32_w]
    rfl
   refine last_ (i := 30) (N := none) #[true,true,true,true,true,true,true,true,true,true,true,true,true,true,true,true,true,true,true,true,true,true,true,true,true,true,true,true,true,true,true, false, false] rfl rfl (by kernel_rfl) (by decide) (fun K hK => ?_)
   refine skip_ (w1 := ?_) (by rfl) rfl ?_ ?_
   rotate_left
   ·
    go_simp
    rfl
   refine hK.out _ _ ?_
   clear hK K
   refine pure_ (i := 31) (N := some 44) (v := ?_) (a' := ?_) #[true,true,true,true,true,true,true,true,true,true,true,true,true,true,true,true,true,true,true,true,true,true,true,true,true,true,true,true,true,true,true,true, false] rfl rfl (by kernel_rfl) (fun _ _ _ h => h) (Or.inl ⟨by rfl, ?_⟩) ?_ ?_
   rotate_left
   ·
    intro w'
    go_simp
    with_reducible rfl
   rotate_left
   ·
    simp only [Act.put, qsI, qs0, qsS, i64_w, i32_w]
    rfl
   refine last_ (i := 32) (N := none) #[true,true,true,true,true,true,true,true,true,true,true,true,true,true,true,true,true,true,true,true,true,true,true,true,true,true,true,true,true,true,true,true,true] rfl rfl (by kernel_rfl) (by decide) (fun K hK => ?_)
   refine skip_ (w1 := ?_) (by rfl) rfl ?_ ?_
   rotate_left
   ·
    go_simp
    rfl
   refine hK.out _ _ ?_
   clear hK K
   refine done_ (by kernel_rfl) ?_
   go_wp2
   go_roundw
   case rel => exact ⟨i + 1, _, _, _, by omega, by go_num, ⟨by rw [HU.out.1, HU.out.2.1, HU.out.2.2]; exact hP9.out⟩⟩
   case measure => simp [intOf]; omega
  ·
   obtain rfl : i = Q.length := by omega
   rw [List.take_length] at HP
   obtain ⟨V0, d0, ev0⟩ := Kd.R_slice HP.out.r0
   obtain ⟨V1, d1, ev1⟩ := Kd.R_slice HP.out.r1
   obtain ⟨V2, d2, ev2⟩ := Kd.R_slice HP.out.r2
   rw [pickI_len] at ev0 ev1
   rw [pickB_len] at ev2
   subst ev0 ev1 ev2
   have c0_ : wr.cell? ⟨ob, 0, none⟩ = some (.slice V0 Q.length d0) := (blk_cell HP.out.o 0).trans rfl
   have c1_ : wr.cell? ⟨ob, 1, none⟩ = some (.slice V1 Q.length d1) := (blk_cell HP.out.o 1).trans rfl
   have c2_ : wr.cell? ⟨ob, 2, none⟩ = some (.slice V2 Q.length d2) := (blk_cell HP.out.o 2).trans rfl
   have o0 : wr.cell? ⟨rb, 0, none⟩ = some (.slice none 0 0) := (blk_cell HP.out.r 0).trans rfl
   have k0 := blk_frozen HP.out.r 0
   have y1 := blk_put HP.out.r 0 (.slice V0 Q.length d0) rfl
   have o1 : (wr.setCell ⟨rb, 0, none⟩ (.slice V0 Q.length d0)).cell? ⟨rb, 1, none⟩ = some (.slice none 0 0) := (blk_cell y1 1).trans rfl
   have k1 := blk_frozen y1 1
   have y2 := blk_put y1 1 (.slice V1 Q.length d1) rfl
   have o2 : ((wr.setCell ⟨rb, 0, none⟩ (.slice V0 Q.length d0)).setCell ⟨rb, 1, none⟩ (.slice V1 Q.length d1)).cell? ⟨rb, 2, none⟩ = some (.slice none 0 0) := (blk_cell y2 2).trans rfl
   have k2 := blk_frozen y2 2
   have y3 := Aside0.mk (blk_put y2 2 (.slice V2 Q.length d2) rfl)
   have hrl := HP.out.le.1
   have hnb := Aside0.mk HP.out.le.2.2.2.2.2.2.2.2
   have hb9 := Aside0.mk (((HP.out.b.setCell (p := ⟨rb, 0, none⟩) hrl (.slice V0 Q.length d0)).setCell (p := ⟨rb, 1, none⟩) hrl (.slice V1 Q.length d1)).setCell (p := ⟨rb, 2, none⟩) hrl (.slice V2 Q.length d2))
   have r0 := Aside0.mk (far3 HP.out.r0 HP.out.r (by decide) (.slice V0 Q.length d0) (.slice V1 Q.length d1) (.slice V2 Q.length d2))
   have r1 := Aside0.mk (far3 HP.out.r1 HP.out.r (by decide) (.slice V0 Q.length d0) (.slice V1 Q.length d1) (.slice V2 Q.length d2))
   have r2 := Aside0.mk (far3 HP.out.r2 HP.out.r (by decide) (.slice V0 Q.length d0) (.slice V1 Q.length d1) (.slice V2 Q.length d2))
   clear y1 y2 HP hlt hi hrl
   go_wp2
   refine bodyPost_ret (results_cell_row rfl _ _ rb 34 _ (0, 0) _ rfl y3.out Try.underlying34 rfl (by kernel_rfl)) rfl ?_
   exact ⟨V0, d0, V1, d1, V2, d2, rfl, Kd.R_lower r0.out hnb.out, Kd.R_lower r1.out hnb.out, Kd.R_lower r2.out hnb.out, hb9.out⟩
end Go.Proofs.Ytlnikhijfamakaa.Pure
