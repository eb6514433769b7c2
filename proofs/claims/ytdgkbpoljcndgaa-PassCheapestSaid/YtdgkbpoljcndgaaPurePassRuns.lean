/- The statement PassRuns, walked: for every drive and plan the program and the reference come to the same. No condition but what one argument may take. -/
import Derived.Test.YtdgkbpoljcndgaaPurePassRunsE
namespace Go.Proofs.Ytdgkbpoljcndgaa.Pure
open Go Go.RowKit Go.Maps Go.Proofs.Ytdgkbpoljcndgaa.QPassRuns Go.Proofs.YtdgkbpoljcndgaaW.PrintWords Go.Proofs.YtdgkbpoljcndgaaW.PrintLast Go.Proofs.YtdgkbpoljcndgaaW.PrintMore
set_option linter.unusedVariables false
set_option linter.unusedSimpArgs false
theorem plan_plan (skip tries : Int) : wracklaw1_planErr.f skip tries = some (planErr skip tries) := by
  unfold wracklaw1_planErr.f planErr
  by_cases h1 : skip < 0 <;> by_cases h2 : skip > 64 <;> by_cases h3 : tries < 1 <;> by_cases h4 : tries > 16 <;> simp [h1, h2, h3, h4]
theorem iterF_sized {n N : Nat} {s : PS} (h : Sized n N s) (data : List Int) (faults : List S121) (hd : data.length = 64 * n) (skip c : Int) : ∀ i, i ≤ n → Sized n (N + i) (iter (stepF data faults skip) (s, c) i).1
  | 0, _ => h
  | i + 1, hi => by
    have ih := iterF_sized h data faults hd skip c i (by omega)
    show Sized n (N + i + 1) (stepF data faults skip (iter (stepF data faults skip) (s, c) i) i).1
    unfold stepF
    split
    · exact (ih.skipped i).more (by omega)
    · split <;> exact ih.att data faults hd i (by omega)
theorem iterB_sized {n N : Nat} {s : PS} (h : Sized n N s) (data : List Int) (faults : List S121) (hd : data.length = 64 * n) (c : Bool) : ∀ i, i ≤ n → Sized n (N + i) (iter (stepB data faults n) (s, c) i).1
  | 0, _ => h
  | i + 1, hi => by
    have ih := iterB_sized h data faults hd c i (by omega)
    show Sized n (N + i + 1) (stepB data faults n (iter (stepB data faults n) (s, c) i) i).1
    unfold stepB
    split
    · exact ih.more (by omega)
    · split
      · exact ih.more (by omega)
      · exact ih.att data faults hd (n - 1 - i) (by omega)
theorem iterE_sized {n N : Nat} {s : PS} (h : Sized n N s) (data : List Int) (faults : List S121) (hd : data.length = 64 * n) (st : Int) : ∀ i, i ≤ n → Sized n (N + i) (iter (stepE data faults st) s i)
  | 0, _ => h
  | i + 1, hi => by
    have ih := iterE_sized h data faults hd st i (by omega)
    show Sized n (N + i + 1) (stepE data faults st (iter (stepE data faults st) s i) i)
    unfold stepE
    split
    · exact ih.att data faults hd i (by omega)
    · exact ih.more (by omega)
theorem iterT_sized {n N : Nat} {s : PS} (h : Sized n N s) (data : List Int) (faults : List S121) (hd : data.length = 64 * n) : ∀ i, Sized n (N + n * i) (iter (fun s _ => iter (stepE data faults 2) s n) s i)
  | 0 => h
  | i + 1 => by
    have ih := iterT_sized h data faults hd i
    rw [Nat.mul_succ, ← Nat.add_assoc]
    exact iterE_sized ih data faults hd 2 n (Nat.le_refl _)
theorem passes_sized (data : List Int) (faults : List S121) (n : Nat) (hd : data.length = 64 * n) (skip tries : Int) (hn : n ≤ 1024) (ht : tries ≤ 16) : Sized n 1000000 (passes data faults n skip tries) := by
  have h1 := iterF_sized (ps0_sized n) data faults hd skip 0 n (Nat.le_refl _)
  have h2 := iterB_sized h1 data faults hd false n (Nat.le_refl _)
  have h3 := iterE_sized h2 data faults hd 3 n (Nat.le_refl _)
  have h4 := iterT_sized h3 data faults hd (tries - 1).toNat
  have h5 : n * (tries - 1).toNat ≤ 1024 * 15 := Nat.mul_le_mul hn (by omega)
  exact h4.more (by omega)
theorem same_ev (a b c : List Int) (t : Int) (ha : a.length ≤ 4611686018427387904) (hb : b.length ≤ 4611686018427387904) (hc : c.length ≤ 4611686018427387904) : Ev (fun k => wracklaw1_sameResult.f k a b c t a b c t) true := by
  unfold wracklaw1_sameResult.f
  refine (equalI_ev a ha).bind ?_
  simp only [if_true]
  refine (equalB_ev b hb).bind ?_
  simp only [if_true]
  refine (equalI_ev c hc).bind ?_
  simp only [if_true, beq_self_eq_true]
  exact Ev.now _
set_option maxHeartbeats 16000000 in
set_option maxRecDepth 100000 in
/-- a right drive, a right plan -/
theorem pr_right (A0 : Option Addr) (c0 : Nat) (data : List Int) (A1 : Option Addr) (c1 : Nat) (faults : List S121) (skip tries : Int) (w : World)
    (hr0 : Kd.C (Kd.int .u8) w A0 data.length data) (hc0 : data.length ≤ c0) (hr1 : Kd.C k121 w A1 faults.length faults) (hc1 : faults.length ≤ c1) (hn : faults.length ≤ 5864062014805) (he : errD data faults = 0) (hp : planErr skip tries = 0) :
    Calls Try.prog 10 #[.agg #[.slice A0 data.length c0, .slice A1 faults.length c1], .agg #[.int .i64 skip, .int .i64 tries]] w fun e w' => e = .returned (.bool true) ∧ Below w.heap.size w w' := by
  obtain ⟨k2, h2⟩ := (derr_ev data faults (by omega)).rounds
  rw [he] at h2
  have hs : 0 ≤ skip ∧ skip ≤ 64 ∧ 1 ≤ tries ∧ tries ≤ 16 := by
    unfold planErr at hp
    refine ⟨?_, ?_, ?_, ?_⟩ <;> (repeat' split at hp) <;> omega
  have hrun := fun W p0 p1 => run_ok A0 c0 data A1 c1 faults skip tries W p0 hc0 p1 hc1 hn he hp
  have hpas := fun W p0 p1 => passes_calls A0 c0 data A1 c1 faults skip tries W p0 hc0 p1 hc1 hn he hs
  obtain ⟨fin, hfin⟩ : ∃ f, passes data faults (data.length / 64) skip tries = f := ⟨_, rfl⟩
  obtain ⟨e1, e2, e3⟩ := err_right data faults he
  have hsz := Aside0.mk (show fin.st.length ≤ 4611686018427387904 ∧ fin.dat.length ≤ 4611686018427387904 ∧ fin.rd.length ≤ 4611686018427387904 by
    have h := passes_sized data faults (data.length / 64) (by omega) skip tries (by omega) hs.2.2.2
    rw [hfin] at h
    have h1 := h.st
    have h2 := h.dat
    have h3 := h.rd
    omega)
  clear e1 e2 e3
  rw [hfin] at hrun hpas
  have hu46 := Try.underlying46
  have hu80 := Try.underlying80
  have hu82 := Try.underlying82
  have HR0 := Aside0.mk hr0
  have HR1 := Aside0.mk hr1
  have HC0 := Aside0.mk hc0
  have HC1 := Aside0.mk hc1
  have H2 := Aside0.mk h2
  have hpl := Aside0.mk hp
  replace hrun := Aside0.mk hrun
  replace hpas := Aside0.mk hpas
  clear hr0 hr1 hc0 hc1 h2 hp he hs hfin hn
  have HB := Aside0.mk (Below.refl w.heap.size w)
  go_enter Try.func10, Try.ntmps10
  go_wp2_with (first
    | ((with_reducible refine gate_dst (N := 2) rfl ?_); refine box_event ?hg (N := 2) ?hd (cs := #[.slice A0 data.length c0, .slice A1 faults.length c1]) (t := 46) ?hr ?_; (case hd => rfl); (case hg => rfl); (case hr => first | (go_simp; done) | (go_simp; rfl)); intro db hg w1 hbox hb; have HB1 := Aside0.mk (below_step HB.out hb); have BD := Aside0.mk hbox; clear hg hb hbox)
    | ((with_reducible refine gate_dst (N := 3) rfl ?_); refine box_event ?hg (N := 3) ?hd (cs := #[.int .i64 skip, .int .i64 tries]) (t := 80) ?hr ?_; (case hd => rfl); (case hg => rfl); (case hr => first | (go_simp; done) | (go_simp; rfl)); intro pb hg w2 hbox hb; have HB2 := Aside0.mk (below_step HB1.out hb); have BP2 := Aside0.mk hbox; have BD2 := Aside0.mk (blk_below BD.out hb); have cd0 : w2.cell? ⟨db, 0, none⟩ = some (.slice A0 data.length c0) := (blk_cell BD2.out 0).trans rfl; have cd1 : w2.cell? ⟨db, 1, none⟩ = some (.slice A1 faults.length c1) := (blk_cell BD2.out 1).trans rfl; have cp0 : w2.cell? ⟨pb, 0, none⟩ = some (.int .i64 skip) := (blk_cell BP2.out 0).trans rfl; have cp1 : w2.cell? ⟨pb, 1, none⟩ = some (.int .i64 tries) := (blk_cell BP2.out 1).trans rfl; clear hg hb hbox BD HB HB1)
    | (go_at_call 53; refine (hrun.out _ (Kd.C_below HR0.out HB2.out) (Kd.C_below HR1.out HB2.out)).mono ?_; rintro e w3 ⟨v0, v1, v2, rfl, hv0, hv1, hv2, hb3⟩; obtain ⟨B0, d0, e0⟩ := Kd.R_slice hv0; obtain ⟨B1, d1, e1⟩ := Kd.R_slice hv1; obtain ⟨B2, d2, e2⟩ := Kd.R_slice hv2; subst e0; subst e1; subst e2; have HB3 := Aside0.mk (below_step HB2.out hb3); have BD3 := Aside0.mk (blk_below BD2.out hb3); have BP3 := Aside0.mk (blk_below BP2.out hb3); clear cd0 cd1 cp0 cp1; have cd0 : (w3.alloc (.cells #[.slice B0 fin.st.length d0, .slice B1 fin.dat.length d1, .slice B2 fin.rd.length d2, .int .i64 fin.tm] 82)).cell? ⟨db, 0, none⟩ = some (.slice A0 data.length c0) := (blk_cell (blk_alloc BD3.out (.cells #[.slice B0 fin.st.length d0, .slice B1 fin.dat.length d1, .slice B2 fin.rd.length d2, .int .i64 fin.tm] 82)) 0).trans rfl; have cd1 : (w3.alloc (.cells #[.slice B0 fin.st.length d0, .slice B1 fin.dat.length d1, .slice B2 fin.rd.length d2, .int .i64 fin.tm] 82)).cell? ⟨db, 1, none⟩ = some (.slice A1 faults.length c1) := (blk_cell (blk_alloc BD3.out (.cells #[.slice B0 fin.st.length d0, .slice B1 fin.dat.length d1, .slice B2 fin.rd.length d2, .int .i64 fin.tm] 82)) 1).trans rfl; replace hv0 := Aside0.mk hv0; replace hv1 := Aside0.mk hv1; replace hv2 := Aside0.mk hv2; clear hb3 HB2 BD2 BP2)
    | (go_at_call 30; clear cd0 cd1; have hx := heap_alloc_new w3 (.cells #[.slice B0 fin.st.length d0, .slice B1 fin.dat.length d1, .slice B2 fin.rd.length d2, .int .i64 fin.tm] 82); have hbx := below_alloc (Below.refl w3.heap.size w3) (.cells #[.slice B0 fin.st.length d0, .slice B1 fin.dat.length d1, .slice B2 fin.rd.length d2, .int .i64 fin.tm] 82); have BD4 := Aside0.mk (blk_alloc BD3.out (.cells #[.slice B0 fin.st.length d0, .slice B1 fin.dat.length d1, .slice B2 fin.rd.length d2, .int .i64 fin.tm] 82)); have BP4 := Aside0.mk (blk_alloc BP3.out (.cells #[.slice B0 fin.st.length d0, .slice B1 fin.dat.length d1, .slice B2 fin.rd.length d2, .int .i64 fin.tm] 82)); have HB4 := Aside0.mk (below_step HB3.out hbx); have R0 := Aside0.mk (Kd.R_below hv0.out hbx); have R1 := Aside0.mk (Kd.R_below hv1.out hbx); have R2 := Aside0.mk (Kd.R_below hv2.out hbx); clear hbx BD3 BP3 HB3 hv0 hv1 hv2; generalize w3.alloc (.cells #[.slice B0 fin.st.length d0, .slice B1 fin.dat.length d1, .slice B2 fin.rd.length d2, .int .i64 fin.tm] 82) = w4 at hx BD4 BP4 HB4 R0 R1 R2 ⊢; generalize w3.heap.size = rb at hx ⊢; refine (wrackref1_DriveErr.calls k2 A0 c0 data A1 c1 faults 0 _ (Kd.C_below HR0.out HB4.out) HC0.out (Kd.C_below HR1.out HB4.out) HC1.out H2.out).mono ?_; rintro e w5 ⟨rfl, hb5⟩; have HB5 := Aside0.mk (below_step HB4.out hb5); have BD5 := Aside0.mk (blk_below BD4.out hb5); have BP5 := Aside0.mk (blk_below BP4.out hb5); have BX5 := Aside0.mk (blk_below hx hb5); have S0 := Aside0.mk (Kd.R_below R0.out hb5); have S1 := Aside0.mk (Kd.R_below R1.out hb5); have S2 := Aside0.mk (Kd.R_below R2.out hb5); have cp0 : w5.cell? ⟨pb, 0, none⟩ = some (.int .i64 skip) := (blk_cell BP5.out 0).trans rfl; have cp1 : w5.cell? ⟨pb, 1, none⟩ = some (.int .i64 tries) := (blk_cell BP5.out 1).trans rfl; clear hx hb5 BD4 BP4 HB4 R0 R1 R2)
    | (go_at_call 54; refine (wracklaw1_planErr.calls skip tries (planErr skip tries) _ (plan_plan skip tries)).mono ?_; rintro e w6 ⟨rfl, hb6⟩; rw [hpl.out]; have HB6 := Aside0.mk (below_step HB5.out hb6); have BD6 := Aside0.mk (blk_below BD5.out hb6); have BP6 := Aside0.mk (blk_below BP5.out hb6); have BX6 := Aside0.mk (blk_below BX5.out hb6); have T0 := Aside0.mk (Kd.R_below S0.out hb6); have T1 := Aside0.mk (Kd.R_below S1.out hb6); have T2 := Aside0.mk (Kd.R_below S2.out hb6); clear hb6 cp0 cp1 HB5 BD5 BP5 BX5 S0 S1 S2))
  have q0 : w6.drew.cell? ⟨pb, 0, none⟩ = some (.int .i64 skip) := (blk_cell (blk_drew BP6.out) 0).trans rfl
  have q1 : w6.drew.cell? ⟨pb, 1, none⟩ = some (.int .i64 tries) := (blk_cell (blk_drew BP6.out) 1).trans rfl
  have hBD := below_drew (Below.refl w6.heap.size w6)
  refine start_ (n := 9) (S := fun w' => w'.cell? ⟨pb, 0, none⟩ = some (.int .i64 skip) ∧ w'.cell? ⟨pb, 1, none⟩ = some (.int .i64 tries)) (ds := []) #[false, false, false, false, false, false, false, false, false] (by kernel_rfl) rfl rfl ⟨q0, q1⟩ (fun hHeld => ?_)
  generalize w6.drew = wD at q0 q1 hBD hHeld ⊢
  refine one_ (i := 0) (N := some 20) #[true, false, false, false, false, false, false, false, false] rfl rfl (by kernel_rfl) (by decide) (fun K hK => ?_)
  refine goes_ Try.func55 (by kernel_rfl) rfl #[] (by rfl) rfl rfl (by simp) ?_
  with_reducible refine (passed_calls _).mono ?_
  rintro e w7 ⟨rfl, hb7⟩
  refine ⟨_, rfl, ?_⟩
  refine hK.out _ _ ⟨pw_cell_below hb7 q0, pw_cell_below hb7 q1⟩ (fun hHeld => ?_)
  clear hK K
  refine norm_ (a' := ?_) ?_ ?_
  rotate_left
  · show Act.put _ (some 20) _ = _
    simp only [Act.put, List.setIfInBounds_toArray, List.set_cons_zero, List.set_cons_succ, i64_w, i32_w]
    rfl
  refine pure_ (i := 1) (N := some 21) (v := ?_) (a' := ?_) #[true, true, false, false, false, false, false, false, false] rfl rfl (by kernel_rfl) (fun _ _ _ h => h) (Or.inl ⟨by rfl, ?_⟩) ?_ ?_
  rotate_left
  · intro w'
    go_simp
    with_reducible rfl
  rotate_left
  · simp only [Act.put, List.setIfInBounds_toArray, List.set_cons_zero, List.set_cons_succ, i64_w, i32_w]
    rfl
  refine pure_ (i := 2) (N := some 22) (v := ?_) (a' := ?_) #[true, true, true, false, false, false, false, false, false] rfl rfl (by kernel_rfl) (fun _ _ _ h => h) (Or.inl ⟨by rfl, ?_⟩) ?_ ?_
  rotate_left
  · intro w'
    go_simp
    with_reducible rfl
  rotate_left
  · simp only [Act.put, List.setIfInBounds_toArray, List.set_cons_zero, List.set_cons_succ, i64_w, i32_w]
    rfl
  refine take_ (i := 3) (N := some 23) (v := ?_) (a' := ?_) #[true, true, true, true, false, false, false, false, false] rfl rfl (by kernel_rfl) (fun _ _ _ h => h) (Or.inl ⟨by rfl, ?_⟩) hHeld ?_ ?_
  rotate_left
  · rintro w' ⟨s0, s1⟩
    go_simp
    with_reducible rfl
  rotate_left
  · simp only [Act.put, List.setIfInBounds_toArray, List.set_cons_zero, List.set_cons_succ, i64_w, i32_w]
    rfl
  refine take_ (i := 5) (N := some 25) (v := ?_) (a' := ?_) #[true, true, true, true, false, true, false, false, false] rfl rfl (by kernel_rfl) (fun _ _ _ h => h) (Or.inl ⟨by rfl, ?_⟩) hHeld ?_ ?_
  rotate_left
  · rintro w' ⟨s0, s1⟩
    go_simp
    with_reducible rfl
  rotate_left
  · simp only [Act.put, List.setIfInBounds_toArray, List.set_cons_zero, List.set_cons_succ, i64_w, i32_w]
    rfl
  refine one_ (i := 4) (N := some 24) #[true, true, true, true, true, true, false, false, false] rfl rfl (by kernel_rfl) (by decide) (fun K hK => ?_)
  refine goes_ Try.func56 (by kernel_rfl) rfl #[.agg #[.int .i64 skip, .int .i64 tries]] (by rfl) rfl rfl (by simp only [List.map_toArray, List.map_cons, List.map_nil]; rfl) ?_
  with_reducible refine (pass_Check.calls skip tries (planErr skip tries) _ (check_plan skip tries)).mono ?_
  rintro e w8 ⟨rfl, hb8⟩
  rw [hpl.out]
  refine ⟨_, rfl, ?_⟩
  refine hK.out _ _ ⟨pw_cell_below (below_step hb7 hb8) q0, pw_cell_below (below_step hb7 hb8) q1⟩ (fun hHeld => ?_)
  clear hK K
  refine norm_ (a' := ?_) ?_ ?_
  rotate_left
  · show Act.put _ (some 24) _ = _
    simp only [Act.put, List.setIfInBounds_toArray, List.set_cons_zero, List.set_cons_succ, i64_w, i32_w]
    rfl
  refine one_ (i := 6) (N := some 26) #[true, true, true, true, true, true, true, false, false] rfl rfl (by kernel_rfl) (by decide) (fun K hK => ?_)
  refine goes_ Try.func54 (by kernel_rfl) rfl #[.agg #[.int .i64 skip, .int .i64 tries]] (by rfl) rfl rfl (by simp only [List.map_toArray, List.map_cons, List.map_nil]; rfl) ?_
  with_reducible refine (wracklaw1_planErr.calls skip tries (planErr skip tries) _ (plan_plan skip tries)).mono ?_
  rintro e w9 ⟨rfl, hb9⟩
  rw [hpl.out]
  refine ⟨_, rfl, ?_⟩
  refine hK.out _ _ ⟨pw_cell_below (below_step (below_step hb7 hb8) hb9) q0, pw_cell_below (below_step (below_step hb7 hb8) hb9) q1⟩ (fun hHeld => ?_)
  clear hK K
  refine norm_ (a' := ?_) ?_ ?_
  rotate_left
  · show Act.put _ (some 26) _ = _
    simp only [Act.put, List.setIfInBounds_toArray, List.set_cons_zero, List.set_cons_succ, i64_w, i32_w]
    rfl
  refine pure_ (i := 7) (N := some 27) (v := ?_) (a' := ?_) #[true, true, true, true, true, true, true, true, false] rfl rfl (by kernel_rfl) (fun _ _ _ h => h) (Or.inl ⟨by rfl, ?_⟩) ?_ ?_
  rotate_left
  · intro w'
    go_simp
    with_reducible rfl
  rotate_left
  · simp only [Act.put, List.setIfInBounds_toArray, List.set_cons_zero, List.set_cons_succ, i64_w, i32_w]
    rfl
  refine pure_ (i := 8) (N := some 28) (v := ?_) (a' := ?_) #[true, true, true, true, true, true, true, true, true] rfl rfl (by kernel_rfl) (fun _ _ _ h => h) (Or.inl ⟨by rfl, ?_⟩) ?_ ?_
  rotate_left
  · intro w'
    go_simp
    with_reducible rfl
  rotate_left
  · simp only [Act.put, List.setIfInBounds_toArray, List.set_cons_zero, List.set_cons_succ, i64_w, i32_w]
    rfl
  refine done_ (by kernel_rfl) ?_
  have hB9 := Aside0.mk (below_step HB6.out (below_step (below_step (below_step hBD hb7) hb8) hb9))
  have tail9 := below_step (below_step (below_step hBD hb7) hb8) hb9
  have BD9 := Aside0.mk (blk_below BD6.out tail9)
  have BP9 := Aside0.mk (blk_below BP6.out tail9)
  have BX9 := Aside0.mk (blk_below BX6.out tail9)
  have U0 := Aside0.mk (Kd.R_below T0.out tail9)
  have U1 := Aside0.mk (Kd.R_below T1.out tail9)
  have U2 := Aside0.mk (Kd.R_below T2.out tail9)
  clear hb7 hb8 hb9 hBD tail9 q0 q1 hHeld HB6 BD6 BP6 BX6 T0 T1 T2
  go_wp2
  have s0_ : w9.drew.cell? ⟨rb, 0, none⟩ = some (.slice B0 fin.st.length d0) := (blk_cell (blk_drew BX9.out) 0).trans rfl
  have s1_ : w9.drew.cell? ⟨rb, 1, none⟩ = some (.slice B1 fin.dat.length d1) := (blk_cell (blk_drew BX9.out) 1).trans rfl
  have s2_ : w9.drew.cell? ⟨rb, 2, none⟩ = some (.slice B2 fin.rd.length d2) := (blk_cell (blk_drew BX9.out) 2).trans rfl
  have s3_ : w9.drew.cell? ⟨rb, 3, none⟩ = some (.int .i64 fin.tm) := (blk_cell (blk_drew BX9.out) 3).trans rfl
  have s4_ : w9.drew.cell? ⟨db, 0, none⟩ = some (.slice A0 data.length c0) := (blk_cell (blk_drew BD9.out) 0).trans rfl
  have s5_ : w9.drew.cell? ⟨db, 1, none⟩ = some (.slice A1 faults.length c1) := (blk_cell (blk_drew BD9.out) 1).trans rfl
  have s6_ : w9.drew.cell? ⟨pb, 0, none⟩ = some (.int .i64 skip) := (blk_cell (blk_drew BP9.out) 0).trans rfl
  have s7_ : w9.drew.cell? ⟨pb, 1, none⟩ = some (.int .i64 tries) := (blk_cell (blk_drew BP9.out) 1).trans rfl
  have hBD := Aside0.mk (below_drew hB9.out)
  have V0 := Kd.R_reads' (Kd.R_drew U0.out)
  have V1 := Kd.R_reads' (Kd.R_drew U1.out)
  have V2 := Kd.R_reads' (Kd.R_drew U2.out)
  have hC0 := Aside0.mk V0.2.2
  have hC1 := Aside0.mk V1.2.2
  have hC2 := Aside0.mk V2.2.2
  have hl0 := Aside0.mk V0.2.1
  have hl1 := Aside0.mk V1.2.1
  have hl2 := Aside0.mk V2.2.1
  obtain ⟨kq, hkq⟩ := (same_ev fin.st fin.dat fin.rd fin.tm hsz.out.1 hsz.out.2.1 hsz.out.2.2).rounds
  have HKQ := Aside0.mk hkq
  clear V0 V1 V2 U0 U1 U2 BD9 BP9 BX9 hB9 hkq
  refine start_ (n := 10) (S := fun w' => w'.cell? ⟨rb, 0, none⟩ = some (.slice B0 fin.st.length d0) ∧ w'.cell? ⟨rb, 1, none⟩ = some (.slice B1 fin.dat.length d1) ∧ w'.cell? ⟨rb, 2, none⟩ = some (.slice B2 fin.rd.length d2) ∧ w'.cell? ⟨rb, 3, none⟩ = some (.int .i64 fin.tm) ∧ w'.cell? ⟨db, 0, none⟩ = some (.slice A0 data.length c0) ∧ w'.cell? ⟨db, 1, none⟩ = some (.slice A1 faults.length c1) ∧ w'.cell? ⟨pb, 0, none⟩ = some (.int .i64 skip) ∧ w'.cell? ⟨pb, 1, none⟩ = some (.int .i64 tries)) (ds := []) #[false, false, false, false, false, false, false, false, false, false] (by kernel_rfl) rfl rfl ⟨s0_, s1_, s2_, s3_, s4_, s5_, s6_, s7_⟩ (fun hHeld => ?_)
  generalize w9.drew = wE at s0_ s1_ s2_ s3_ s4_ s5_ s6_ s7_ hBD hC0 hC1 hC2 hHeld ⊢
  refine pure_ (i := 0) (N := some 39) (v := ?_) (a' := ?_) #[true, false, false, false, false, false, false, false, false, false] rfl rfl (by kernel_rfl) (fun _ _ _ h => h) (Or.inl ⟨by rfl, ?_⟩) ?_ ?_
  rotate_left
  · intro w'
    go_simp
    with_reducible rfl
  rotate_left
  · simp only [Act.put, List.setIfInBounds_toArray, List.set_cons_zero, List.set_cons_succ, i64_w, i32_w]
    rfl
  refine pure_ (i := 1) (N := some 40) (v := ?_) (a' := ?_) #[true, true, false, false, false, false, false, false, false, false] rfl rfl (by kernel_rfl) (fun _ _ _ h => h) (Or.inl ⟨by rfl, ?_⟩) ?_ ?_
  rotate_left
  · intro w'
    go_simp
    with_reducible rfl
  rotate_left
  · simp only [Act.put, List.setIfInBounds_toArray, List.set_cons_zero, List.set_cons_succ, i64_w, i32_w]
    rfl
  refine pure_ (i := 2) (N := some 41) (v := ?_) (a' := ?_) #[true, true, true, false, false, false, false, false, false, false] rfl rfl (by kernel_rfl) (fun _ _ _ h => h) (Or.inl ⟨by rfl, ?_⟩) ?_ ?_
  rotate_left
  · intro w'
    go_simp
    with_reducible rfl
  rotate_left
  · simp only [Act.put, List.setIfInBounds_toArray, List.set_cons_zero, List.set_cons_succ, i64_w, i32_w]
    rfl
  refine take_ (i := 3) (N := some 42) (v := ?_) (a' := ?_) #[true, true, true, true, false, false, false, false, false, false] rfl rfl (by kernel_rfl) (fun _ _ _ h => h) (Or.inl ⟨by rfl, ?_⟩) hHeld ?_ ?_
  rotate_left
  · rintro w' ⟨s0, s1, s2, s3, s4, s5, s6, s7⟩
    go_simp
    with_reducible rfl
  rotate_left
  · simp only [Act.put, List.setIfInBounds_toArray, List.set_cons_zero, List.set_cons_succ, i64_w, i32_w]
    rfl
  refine take_ (i := 4) (N := some 43) (v := ?_) (a' := ?_) #[true, true, true, true, true, false, false, false, false, false] rfl rfl (by kernel_rfl) (fun _ _ _ h => h) (Or.inl ⟨by rfl, ?_⟩) hHeld ?_ ?_
  rotate_left
  · rintro w' ⟨s0, s1, s2, s3, s4, s5, s6, s7⟩
    go_simp
    with_reducible rfl
  rotate_left
  · simp only [Act.put, List.setIfInBounds_toArray, List.set_cons_zero, List.set_cons_succ, i64_w, i32_w]
    rfl
  refine take_ (i := 5) (N := some 44) (v := ?_) (a' := ?_) #[true, true, true, true, true, true, false, false, false, false] rfl rfl (by kernel_rfl) (fun _ _ _ h => h) (Or.inl ⟨by rfl, ?_⟩) hHeld ?_ ?_
  rotate_left
  · rintro w' ⟨s0, s1, s2, s3, s4, s5, s6, s7⟩
    go_simp
    with_reducible rfl
  rotate_left
  · simp only [Act.put, List.setIfInBounds_toArray, List.set_cons_zero, List.set_cons_succ, i64_w, i32_w]
    rfl
  refine one_ (i := 6) (N := some 45) #[true, true, true, true, true, true, true, false, false, false] rfl rfl (by kernel_rfl) (by decide) (fun K hK => ?_)
  refine goes_ Try.func58 (by kernel_rfl) rfl #[.agg #[.slice A0 data.length c0, .slice A1 faults.length c1], .agg #[.int .i64 skip, .int .i64 tries]] (by rfl) rfl rfl (by simp only [List.map_toArray, List.map_cons, List.map_nil]; rfl) ?_
  with_reducible refine (hpas.out _ (Kd.C_below HR0.out hBD.out) (Kd.C_below HR1.out hBD.out)).mono ?_
  rintro e w10 ⟨x0, x1, x2, rfl, hx0, hx1, hx2, hb10⟩
  obtain ⟨E0, g0, e0⟩ := Kd.R_slice hx0
  obtain ⟨E1, g1, e1⟩ := Kd.R_slice hx1
  obtain ⟨E2, g2, e2⟩ := Kd.R_slice hx2
  subst e0
  subst e1
  subst e2
  refine ⟨_, rfl, ?_⟩
  refine hK.out _ _ ⟨pw_cell_below hb10 s0_, pw_cell_below hb10 s1_, pw_cell_below hb10 s2_, pw_cell_below hb10 s3_, pw_cell_below hb10 s4_, pw_cell_below hb10 s5_, pw_cell_below hb10 s6_, pw_cell_below hb10 s7_⟩ (fun hHeld => ?_)
  clear hK K
  refine norm_ (a' := ?_) ?_ ?_
  rotate_left
  · show Act.put _ (some 45) _ = _
    simp only [Act.put, List.setIfInBounds_toArray, List.set_cons_zero, List.set_cons_succ, i64_w, i32_w]
    rfl
  refine one_ (i := 7) (N := some 46) #[true, true, true, true, true, true, true, true, false, false] rfl rfl (by kernel_rfl) (by decide) (fun K hK => ?_)
  refine goes_ Try.func57 (by kernel_rfl) rfl #[.agg #[.slice B0 fin.st.length d0, .slice B1 fin.dat.length d1, .slice B2 fin.rd.length d2, .int .i64 fin.tm], .agg #[.slice E0 fin.st.length g0, .slice E1 fin.dat.length g1, .slice E2 fin.rd.length g2, .int .i64 fin.tm]] (by rfl) rfl rfl (by simp only [List.map_toArray, List.map_cons, List.map_nil]; rfl) ?_
  with_reducible refine (wracklaw1_sameResult.calls kq B0 d0 fin.st B1 d1 fin.dat B2 d2 fin.rd fin.tm E0 g0 fin.st E1 g1 fin.dat E2 g2 fin.rd fin.tm true _ (Kd.C_below hC0.out hb10) hl0.out (Kd.C_below hC1.out hb10) hl1.out (Kd.C_below hC2.out hb10) hl2.out (Kd.R_reads' hx0).2.2 (Kd.R_reads' hx0).2.1 (Kd.R_reads' hx1).2.2 (Kd.R_reads' hx1).2.1 (Kd.R_reads' hx2).2.2 (Kd.R_reads' hx2).2.1 HKQ.out).mono ?_
  rintro e w11 ⟨rfl, hb11⟩
  refine ⟨_, rfl, ?_⟩
  refine hK.out _ _ ⟨pw_cell_below (below_step hb10 hb11) s0_, pw_cell_below (below_step hb10 hb11) s1_, pw_cell_below (below_step hb10 hb11) s2_, pw_cell_below (below_step hb10 hb11) s3_, pw_cell_below (below_step hb10 hb11) s4_, pw_cell_below (below_step hb10 hb11) s5_, pw_cell_below (below_step hb10 hb11) s6_, pw_cell_below (below_step hb10 hb11) s7_⟩ (fun hHeld => ?_)
  clear hK K
  refine norm_ (a' := ?_) ?_ ?_
  rotate_left
  · show Act.put _ (some 46) _ = _
    simp only [Act.put, List.setIfInBounds_toArray, List.set_cons_zero, List.set_cons_succ, i64_w, i32_w]
    rfl
  refine pure_ (i := 8) (N := some 47) (v := ?_) (a' := ?_) #[true, true, true, true, true, true, true, true, true, false] rfl rfl (by kernel_rfl) (fun _ _ _ h => h) (Or.inl ⟨by rfl, ?_⟩) ?_ ?_
  rotate_left
  · intro w'
    go_simp
    with_reducible rfl
  rotate_left
  · simp only [Act.put, List.setIfInBounds_toArray, List.set_cons_zero, List.set_cons_succ, i64_w, i32_w]
    rfl
  refine pure_ (i := 9) (N := some 4) (v := ?_) (a' := ?_) #[true, true, true, true, true, true, true, true, true, true] rfl rfl (by kernel_rfl) (fun _ _ _ h => h) (Or.inl ⟨by rfl, ?_⟩) ?_ ?_
  rotate_left
  · intro w'
    go_simp
    with_reducible rfl
  rotate_left
  · simp only [Act.put, List.setIfInBounds_toArray, List.set_cons_zero, List.set_cons_succ, i64_w, i32_w]
    rfl
  refine done_ (by kernel_rfl) ?_
  have hfin := Aside0.mk (below_step (below_step hBD.out hb10) hb11)
  clear hb10 hb11 hx0 hx1 hx2 hHeld
  go_wp2
  go_ret
  exact ⟨rfl, hfin.out⟩
set_option maxHeartbeats 16000000 in
set_option maxRecDepth 100000 in
/-- a wrong drive -/
theorem pr_wrong1 (A0 : Option Addr) (c0 : Nat) (data : List Int) (A1 : Option Addr) (c1 : Nat) (faults : List S121) (skip tries : Int) (w : World) (he : errD data faults ≠ 0)
    (hr0 : Kd.C (Kd.int .u8) w A0 data.length data) (hc0 : data.length ≤ c0) (hr1 : Kd.C k121 w A1 faults.length faults) (hc1 : faults.length ≤ c1) (hn : faults.length ≤ 5864062014805) (hp : runErr data faults skip tries ≠ 0) :
    Calls Try.prog 10 #[.agg #[.slice A0 data.length c0, .slice A1 faults.length c1], .agg #[.int .i64 skip, .int .i64 tries]] w fun e w' => e = .returned (.bool true) ∧ Below w.heap.size w w' := by
  obtain ⟨k2, h2⟩ := (derr_ev data faults (by omega)).rounds
  obtain ⟨kq, hkq⟩ := (same_ev [] [] [] 0 (by decide) (by decide) (by decide)).rounds
  have hrun := fun W p0 p1 => run_err A0 c0 data A1 c1 faults skip tries W p0 hc0 p1 hc1 hn hp
  obtain ⟨q, hq⟩ : ∃ q, runErr data faults skip tries = q := ⟨_, rfl⟩
  obtain ⟨pe, hpe⟩ : ∃ q, planErr skip tries = q := ⟨_, rfl⟩
  rw [hq] at hrun hp
  have hu46 := Try.underlying46
  have hu80 := Try.underlying80
  have hu82 := Try.underlying82
  have HR0 := Aside0.mk hr0
  have HR1 := Aside0.mk hr1
  have HC0 := Aside0.mk hc0
  have HC1 := Aside0.mk hc1
  have hpl := Aside0.mk hpe
  have HKQ := Aside0.mk hkq
  replace hrun := Aside0.mk hrun
  have hne : (q != 0) = true := bne_iff_ne.mpr hp
  have hee : (pe != pe) = false := by simp
  have hqq : (q == q) = true := by simp
  have hqe : errD data faults = q := by rw [← hq]; unfold runErr; rw [if_neg he]
  rw [hqe] at h2
  have hnz : (q == 0) = false := beq_eq_false_iff_ne.mpr hp
  have H2 := Aside0.mk h2
  clear hr0 hr1 hc0 hc1 h2 hp he hn hq hqe hpe hkq
  have HB := Aside0.mk (Below.refl w.heap.size w)
  go_enter Try.func10, Try.ntmps10
  go_wp2_with (first
    | ((with_reducible refine gate_dst (N := 2) rfl ?_); refine box_event ?hg (N := 2) ?hd (cs := #[.slice A0 data.length c0, .slice A1 faults.length c1]) (t := 46) ?hr ?_; (case hd => rfl); (case hg => rfl); (case hr => first | (go_simp; done) | (go_simp; rfl)); intro db hg w1 hbox hb; have HB1 := Aside0.mk (below_step HB.out hb); have BD := Aside0.mk hbox; clear hg hb hbox)
    | ((with_reducible refine gate_dst (N := 3) rfl ?_); refine box_event ?hg (N := 3) ?hd (cs := #[.int .i64 skip, .int .i64 tries]) (t := 80) ?hr ?_; (case hd => rfl); (case hg => rfl); (case hr => first | (go_simp; done) | (go_simp; rfl)); intro pb hg w2 hbox hb; have HB2 := Aside0.mk (below_step HB1.out hb); have BP2 := Aside0.mk hbox; have BD2 := Aside0.mk (blk_below BD.out hb); have cd0 : w2.cell? ⟨db, 0, none⟩ = some (.slice A0 data.length c0) := (blk_cell BD2.out 0).trans rfl; have cd1 : w2.cell? ⟨db, 1, none⟩ = some (.slice A1 faults.length c1) := (blk_cell BD2.out 1).trans rfl; have cp0 : w2.cell? ⟨pb, 0, none⟩ = some (.int .i64 skip) := (blk_cell BP2.out 0).trans rfl; have cp1 : w2.cell? ⟨pb, 1, none⟩ = some (.int .i64 tries) := (blk_cell BP2.out 1).trans rfl; clear hg hb hbox BD HB HB1)
    | (go_at_call 53; refine (hrun.out _ (Kd.C_below HR0.out HB2.out) (Kd.C_below HR1.out HB2.out)).mono ?_; rintro e w3 ⟨rfl, hb3⟩; have HB3 := Aside0.mk (below_step HB2.out hb3); have BD3 := Aside0.mk (blk_below BD2.out hb3); have BP3 := Aside0.mk (blk_below BP2.out hb3); clear cd0 cd1 cp0 cp1; have cd0 : (w3.alloc (.cells #[.slice none 0 0, .slice none 0 0, .slice none 0 0, .int .i64 0] 82)).cell? ⟨db, 0, none⟩ = some (.slice A0 data.length c0) := (blk_cell (blk_alloc BD3.out (.cells #[.slice none 0 0, .slice none 0 0, .slice none 0 0, .int .i64 0] 82)) 0).trans rfl; have cd1 : (w3.alloc (.cells #[.slice none 0 0, .slice none 0 0, .slice none 0 0, .int .i64 0] 82)).cell? ⟨db, 1, none⟩ = some (.slice A1 faults.length c1) := (blk_cell (blk_alloc BD3.out (.cells #[.slice none 0 0, .slice none 0 0, .slice none 0 0, .int .i64 0] 82)) 1).trans rfl; clear hb3 HB2 BD2 BP2)
    | (go_at_call 30; clear cd0 cd1; have hx := heap_alloc_new w3 (.cells #[.slice none 0 0, .slice none 0 0, .slice none 0 0, .int .i64 0] 82); have hbx := below_alloc (Below.refl w3.heap.size w3) (.cells #[.slice none 0 0, .slice none 0 0, .slice none 0 0, .int .i64 0] 82); have BD4 := Aside0.mk (blk_alloc BD3.out (.cells #[.slice none 0 0, .slice none 0 0, .slice none 0 0, .int .i64 0] 82)); have BP4 := Aside0.mk (blk_alloc BP3.out (.cells #[.slice none 0 0, .slice none 0 0, .slice none 0 0, .int .i64 0] 82)); have HB4 := Aside0.mk (below_step HB3.out hbx); clear hbx BD3 BP3 HB3; generalize w3.alloc (.cells #[.slice none 0 0, .slice none 0 0, .slice none 0 0, .int .i64 0] 82) = w4 at hx BD4 BP4 HB4 ⊢; generalize w3.heap.size = rb at hx ⊢; refine (wrackref1_DriveErr.calls k2 A0 c0 data A1 c1 faults q _ (Kd.C_below HR0.out HB4.out) HC0.out (Kd.C_below HR1.out HB4.out) HC1.out H2.out).mono ?_; rintro e w6 ⟨rfl, hb5⟩; have HB6 := Aside0.mk (below_step HB4.out hb5); have BP6 := Aside0.mk (blk_below BP4.out hb5); have BX6 := Aside0.mk (blk_below hx hb5); clear hx hb5 BD4 BP4 HB4))
  have q0 : w6.drew.cell? ⟨pb, 0, none⟩ = some (.int .i64 skip) := (blk_cell (blk_drew BP6.out) 0).trans rfl
  have q1 : w6.drew.cell? ⟨pb, 1, none⟩ = some (.int .i64 tries) := (blk_cell (blk_drew BP6.out) 1).trans rfl
  have hBD := below_drew (Below.refl w6.heap.size w6)
  refine start_ (n := 9) (S := fun w' => w'.cell? ⟨pb, 0, none⟩ = some (.int .i64 skip) ∧ w'.cell? ⟨pb, 1, none⟩ = some (.int .i64 tries)) (ds := []) #[false, false, false, false, false, false, false, false, false] (by kernel_rfl) rfl rfl ⟨q0, q1⟩ (fun hHeld => ?_)
  generalize w6.drew = wD at q0 q1 hBD hHeld ⊢
  refine one_ (i := 0) (N := some 20) #[true, false, false, false, false, false, false, false, false] rfl rfl (by kernel_rfl) (by decide) (fun K hK => ?_)
  refine goes_ Try.func55 (by kernel_rfl) rfl #[] (by rfl) rfl rfl (by simp) ?_
  with_reducible refine (passed_calls _).mono ?_
  rintro e w7 ⟨rfl, hb7⟩
  refine ⟨_, rfl, ?_⟩
  refine hK.out _ _ ⟨pw_cell_below hb7 q0, pw_cell_below hb7 q1⟩ (fun hHeld => ?_)
  clear hK K
  refine norm_ (a' := ?_) ?_ ?_
  rotate_left
  · show Act.put _ (some 20) _ = _
    simp only [Act.put, List.setIfInBounds_toArray, List.set_cons_zero, List.set_cons_succ, i64_w, i32_w]
    rfl
  refine pure_ (i := 1) (N := some 21) (v := ?_) (a' := ?_) #[true, true, false, false, false, false, false, false, false] rfl rfl (by kernel_rfl) (fun _ _ _ h => h) (Or.inl ⟨by rfl, ?_⟩) ?_ ?_
  rotate_left
  · intro w'
    go_simp
    with_reducible rfl
  rotate_left
  · simp only [Act.put, List.setIfInBounds_toArray, List.set_cons_zero, List.set_cons_succ, i64_w, i32_w]
    rfl
  refine pure_ (i := 2) (N := some 22) (v := ?_) (a' := ?_) #[true, true, true, false, false, false, false, false, false] rfl rfl (by kernel_rfl) (fun _ _ _ h => h) (Or.inl ⟨by rfl, ?_⟩) ?_ ?_
  rotate_left
  · intro w'
    go_simp
    with_reducible rfl
  rotate_left
  · simp only [Act.put, List.setIfInBounds_toArray, List.set_cons_zero, List.set_cons_succ, i64_w, i32_w]
    rfl
  refine take_ (i := 3) (N := some 23) (v := ?_) (a' := ?_) #[true, true, true, true, false, false, false, false, false] rfl rfl (by kernel_rfl) (fun _ _ _ h => h) (Or.inl ⟨by rfl, ?_⟩) hHeld ?_ ?_
  rotate_left
  · rintro w' ⟨s0, s1⟩
    go_simp
    with_reducible rfl
  rotate_left
  · simp only [Act.put, List.setIfInBounds_toArray, List.set_cons_zero, List.set_cons_succ, i64_w, i32_w]
    rfl
  refine take_ (i := 5) (N := some 25) (v := ?_) (a' := ?_) #[true, true, true, true, false, true, false, false, false] rfl rfl (by kernel_rfl) (fun _ _ _ h => h) (Or.inl ⟨by rfl, ?_⟩) hHeld ?_ ?_
  rotate_left
  · rintro w' ⟨s0, s1⟩
    go_simp
    with_reducible rfl
  rotate_left
  · simp only [Act.put, List.setIfInBounds_toArray, List.set_cons_zero, List.set_cons_succ, i64_w, i32_w]
    rfl
  refine one_ (i := 4) (N := some 24) #[true, true, true, true, true, true, false, false, false] rfl rfl (by kernel_rfl) (by decide) (fun K hK => ?_)
  refine goes_ Try.func56 (by kernel_rfl) rfl #[.agg #[.int .i64 skip, .int .i64 tries]] (by rfl) rfl rfl (by simp only [List.map_toArray, List.map_cons, List.map_nil]; rfl) ?_
  with_reducible refine (pass_Check.calls skip tries (planErr skip tries) _ (check_plan skip tries)).mono ?_
  rintro e w8 ⟨rfl, hb8⟩
  rw [hpl.out]
  refine ⟨_, rfl, ?_⟩
  refine hK.out _ _ ⟨pw_cell_below (below_step hb7 hb8) q0, pw_cell_below (below_step hb7 hb8) q1⟩ (fun hHeld => ?_)
  clear hK K
  refine norm_ (a' := ?_) ?_ ?_
  rotate_left
  · show Act.put _ (some 24) _ = _
    simp only [Act.put, List.setIfInBounds_toArray, List.set_cons_zero, List.set_cons_succ, i64_w, i32_w]
    rfl
  refine one_ (i := 6) (N := some 26) #[true, true, true, true, true, true, true, false, false] rfl rfl (by kernel_rfl) (by decide) (fun K hK => ?_)
  refine goes_ Try.func54 (by kernel_rfl) rfl #[.agg #[.int .i64 skip, .int .i64 tries]] (by rfl) rfl rfl (by simp only [List.map_toArray, List.map_cons, List.map_nil]; rfl) ?_
  with_reducible refine (wracklaw1_planErr.calls skip tries (planErr skip tries) _ (plan_plan skip tries)).mono ?_
  rintro e w9 ⟨rfl, hb9⟩
  rw [hpl.out]
  refine ⟨_, rfl, ?_⟩
  refine hK.out _ _ ⟨pw_cell_below (below_step (below_step hb7 hb8) hb9) q0, pw_cell_below (below_step (below_step hb7 hb8) hb9) q1⟩ (fun hHeld => ?_)
  clear hK K
  refine norm_ (a' := ?_) ?_ ?_
  rotate_left
  · show Act.put _ (some 26) _ = _
    simp only [Act.put, List.setIfInBounds_toArray, List.set_cons_zero, List.set_cons_succ, i64_w, i32_w]
    rfl
  refine pure_ (i := 7) (N := some 27) (v := ?_) (a' := ?_) #[true, true, true, true, true, true, true, true, false] rfl rfl (by kernel_rfl) (fun _ _ _ h => h) (Or.inl ⟨by rfl, ?_⟩) ?_ ?_
  rotate_left
  · intro w'
    go_simp
    with_reducible rfl
  rotate_left
  · simp only [Act.put, List.setIfInBounds_toArray, List.set_cons_zero, List.set_cons_succ, i64_w, i32_w]
    rfl
  refine pure_ (i := 8) (N := some 28) (v := ?_) (a' := ?_) #[true, true, true, true, true, true, true, true, true] rfl rfl (by kernel_rfl) (fun _ _ _ h => h) (Or.inl ⟨by rfl, ?_⟩) ?_ ?_
  rotate_left
  · intro w'
    go_simp
    with_reducible rfl
  rotate_left
  · simp only [Act.put, List.setIfInBounds_toArray, List.set_cons_zero, List.set_cons_succ, i64_w, i32_w]
    rfl
  refine done_ (by kernel_rfl) ?_
  have hB9 := Aside0.mk (below_step HB6.out (below_step (below_step (below_step hBD hb7) hb8) hb9))
  have tail9 := below_step (below_step (below_step hBD hb7) hb8) hb9
  have BX9 := blk_below BX6.out tail9
  have s0_ : w9.cell? ⟨rb, 0, none⟩ = some (.slice none 0 0) := (blk_cell BX9 0).trans rfl
  have s1_ : w9.cell? ⟨rb, 1, none⟩ = some (.slice none 0 0) := (blk_cell BX9 1).trans rfl
  have s2_ : w9.cell? ⟨rb, 2, none⟩ = some (.slice none 0 0) := (blk_cell BX9 2).trans rfl
  have s3_ : w9.cell? ⟨rb, 3, none⟩ = some (.int .i64 0) := (blk_cell BX9 3).trans rfl
  clear hb7 hb8 hb9 hBD tail9 q0 q1 hHeld HB6 BP6 BX6 BX9
  go_wp2_with (first
    | (go_at_call 57; refine (wracklaw1_sameResult.calls kq none 0 [] none 0 [] none 0 [] 0 none 0 [] none 0 [] none 0 [] 0 true _ (Kd.C_nil _ _) (Nat.le_refl _) (Kd.C_nil _ _) (Nat.le_refl _) (Kd.C_nil _ _) (Nat.le_refl _) (Kd.C_nil _ _) (Nat.le_refl _) (Kd.C_nil _ _) (Nat.le_refl _) (Kd.C_nil _ _) (Nat.le_refl _) HKQ.out).mono ?_; rintro e w10 ⟨rfl, hb10⟩; have hB10 := Aside0.mk (below_step hB9.out hb10); clear hb10))
  go_ret
  exact ⟨rfl, hB10.out⟩
set_option maxHeartbeats 16000000 in
set_option maxRecDepth 100000 in
/-- a wrong plan -/
theorem pr_wrong2 (A0 : Option Addr) (c0 : Nat) (data : List Int) (A1 : Option Addr) (c1 : Nat) (faults : List S121) (skip tries : Int) (w : World) (he : errD data faults = 0)
    (hr0 : Kd.C (Kd.int .u8) w A0 data.length data) (hc0 : data.length ≤ c0) (hr1 : Kd.C k121 w A1 faults.length faults) (hc1 : faults.length ≤ c1) (hn : faults.length ≤ 5864062014805) (hp : runErr data faults skip tries ≠ 0) :
    Calls Try.prog 10 #[.agg #[.slice A0 data.length c0, .slice A1 faults.length c1], .agg #[.int .i64 skip, .int .i64 tries]] w fun e w' => e = .returned (.bool true) ∧ Below w.heap.size w w' := by
  obtain ⟨k2, h2⟩ := (derr_ev data faults (by omega)).rounds
  obtain ⟨kq, hkq⟩ := (same_ev [] [] [] 0 (by decide) (by decide) (by decide)).rounds
  have hrun := fun W p0 p1 => run_err A0 c0 data A1 c1 faults skip tries W p0 hc0 p1 hc1 hn hp
  obtain ⟨q, hq⟩ : ∃ q, runErr data faults skip tries = q := ⟨_, rfl⟩
  obtain ⟨pe, hpe⟩ : ∃ q, planErr skip tries = q := ⟨_, rfl⟩
  rw [hq] at hrun hp
  have hu46 := Try.underlying46
  have hu80 := Try.underlying80
  have hu82 := Try.underlying82
  have HR0 := Aside0.mk hr0
  have HR1 := Aside0.mk hr1
  have HC0 := Aside0.mk hc0
  have HC1 := Aside0.mk hc1
  have hpl := Aside0.mk hpe
  have HKQ := Aside0.mk hkq
  replace hrun := Aside0.mk hrun
  have hne : (q != 0) = true := bne_iff_ne.mpr hp
  have hee : (pe != pe) = false := by simp
  have hqq : (q == q) = true := by simp
  have hqe : pe = q := by rw [← hq, ← hpe]; unfold runErr; rw [if_pos he]
  rw [he] at h2
  subst hqe
  have H2 := Aside0.mk h2
  clear hr0 hr1 hc0 hc1 h2 hp he hn hq hpe hkq
  have HB := Aside0.mk (Below.refl w.heap.size w)
  go_enter Try.func10, Try.ntmps10
  go_wp2_with (first
    | ((with_reducible refine gate_dst (N := 2) rfl ?_); refine box_event ?hg (N := 2) ?hd (cs := #[.slice A0 data.length c0, .slice A1 faults.length c1]) (t := 46) ?hr ?_; (case hd => rfl); (case hg => rfl); (case hr => first | (go_simp; done) | (go_simp; rfl)); intro db hg w1 hbox hb; have HB1 := Aside0.mk (below_step HB.out hb); have BD := Aside0.mk hbox; clear hg hb hbox)
    | ((with_reducible refine gate_dst (N := 3) rfl ?_); refine box_event ?hg (N := 3) ?hd (cs := #[.int .i64 skip, .int .i64 tries]) (t := 80) ?hr ?_; (case hd => rfl); (case hg => rfl); (case hr => first | (go_simp; done) | (go_simp; rfl)); intro pb hg w2 hbox hb; have HB2 := Aside0.mk (below_step HB1.out hb); have BP2 := Aside0.mk hbox; have BD2 := Aside0.mk (blk_below BD.out hb); have cd0 : w2.cell? ⟨db, 0, none⟩ = some (.slice A0 data.length c0) := (blk_cell BD2.out 0).trans rfl; have cd1 : w2.cell? ⟨db, 1, none⟩ = some (.slice A1 faults.length c1) := (blk_cell BD2.out 1).trans rfl; have cp0 : w2.cell? ⟨pb, 0, none⟩ = some (.int .i64 skip) := (blk_cell BP2.out 0).trans rfl; have cp1 : w2.cell? ⟨pb, 1, none⟩ = some (.int .i64 tries) := (blk_cell BP2.out 1).trans rfl; clear hg hb hbox BD HB HB1)
    | (go_at_call 53; refine (hrun.out _ (Kd.C_below HR0.out HB2.out) (Kd.C_below HR1.out HB2.out)).mono ?_; rintro e w3 ⟨rfl, hb3⟩; have HB3 := Aside0.mk (below_step HB2.out hb3); have BD3 := Aside0.mk (blk_below BD2.out hb3); have BP3 := Aside0.mk (blk_below BP2.out hb3); clear cd0 cd1 cp0 cp1; have cd0 : (w3.alloc (.cells #[.slice none 0 0, .slice none 0 0, .slice none 0 0, .int .i64 0] 82)).cell? ⟨db, 0, none⟩ = some (.slice A0 data.length c0) := (blk_cell (blk_alloc BD3.out (.cells #[.slice none 0 0, .slice none 0 0, .slice none 0 0, .int .i64 0] 82)) 0).trans rfl; have cd1 : (w3.alloc (.cells #[.slice none 0 0, .slice none 0 0, .slice none 0 0, .int .i64 0] 82)).cell? ⟨db, 1, none⟩ = some (.slice A1 faults.length c1) := (blk_cell (blk_alloc BD3.out (.cells #[.slice none 0 0, .slice none 0 0, .slice none 0 0, .int .i64 0] 82)) 1).trans rfl; clear hb3 HB2 BD2 BP2)
    | (go_at_call 30; clear cd0 cd1; have hx := heap_alloc_new w3 (.cells #[.slice none 0 0, .slice none 0 0, .slice none 0 0, .int .i64 0] 82); have hbx := below_alloc (Below.refl w3.heap.size w3) (.cells #[.slice none 0 0, .slice none 0 0, .slice none 0 0, .int .i64 0] 82); have BD4 := Aside0.mk (blk_alloc BD3.out (.cells #[.slice none 0 0, .slice none 0 0, .slice none 0 0, .int .i64 0] 82)); have BP4 := Aside0.mk (blk_alloc BP3.out (.cells #[.slice none 0 0, .slice none 0 0, .slice none 0 0, .int .i64 0] 82)); have HB4 := Aside0.mk (below_step HB3.out hbx); clear hbx BD3 BP3 HB3; generalize w3.alloc (.cells #[.slice none 0 0, .slice none 0 0, .slice none 0 0, .int .i64 0] 82) = w4 at hx BD4 BP4 HB4 ⊢; generalize w3.heap.size = rb at hx ⊢; refine (wrackref1_DriveErr.calls k2 A0 c0 data A1 c1 faults 0 _ (Kd.C_below HR0.out HB4.out) HC0.out (Kd.C_below HR1.out HB4.out) HC1.out H2.out).mono ?_; rintro e w5 ⟨rfl, hb5⟩; have HB5 := Aside0.mk (below_step HB4.out hb5); have BP5 := Aside0.mk (blk_below BP4.out hb5); have BX5 := Aside0.mk (blk_below hx hb5); have cp0 : w5.cell? ⟨pb, 0, none⟩ = some (.int .i64 skip) := (blk_cell BP5.out 0).trans rfl; have cp1 : w5.cell? ⟨pb, 1, none⟩ = some (.int .i64 tries) := (blk_cell BP5.out 1).trans rfl; clear hx hb5 BD4 BP4 HB4)
    | (go_at_call 54; refine (wracklaw1_planErr.calls skip tries (planErr skip tries) _ (plan_plan skip tries)).mono ?_; rintro e w6 ⟨rfl, hb6⟩; rw [hpl.out]; have HB6 := Aside0.mk (below_step HB5.out hb6); have BP6 := Aside0.mk (blk_below BP5.out hb6); have BX6 := Aside0.mk (blk_below BX5.out hb6); clear hb6 cp0 cp1 HB5 BP5 BX5))
  have q0 : w6.drew.cell? ⟨pb, 0, none⟩ = some (.int .i64 skip) := (blk_cell (blk_drew BP6.out) 0).trans rfl
  have q1 : w6.drew.cell? ⟨pb, 1, none⟩ = some (.int .i64 tries) := (blk_cell (blk_drew BP6.out) 1).trans rfl
  have hBD := below_drew (Below.refl w6.heap.size w6)
  refine start_ (n := 9) (S := fun w' => w'.cell? ⟨pb, 0, none⟩ = some (.int .i64 skip) ∧ w'.cell? ⟨pb, 1, none⟩ = some (.int .i64 tries)) (ds := []) #[false, false, false, false, false, false, false, false, false] (by kernel_rfl) rfl rfl ⟨q0, q1⟩ (fun hHeld => ?_)
  generalize w6.drew = wD at q0 q1 hBD hHeld ⊢
  refine one_ (i := 0) (N := some 20) #[true, false, false, false, false, false, false, false, false] rfl rfl (by kernel_rfl) (by decide) (fun K hK => ?_)
  refine goes_ Try.func55 (by kernel_rfl) rfl #[] (by rfl) rfl rfl (by simp) ?_
  with_reducible refine (passed_calls _).mono ?_
  rintro e w7 ⟨rfl, hb7⟩
  refine ⟨_, rfl, ?_⟩
  refine hK.out _ _ ⟨pw_cell_below hb7 q0, pw_cell_below hb7 q1⟩ (fun hHeld => ?_)
  clear hK K
  refine norm_ (a' := ?_) ?_ ?_
  rotate_left
  · show Act.put _ (some 20) _ = _
    simp only [Act.put, List.setIfInBounds_toArray, List.set_cons_zero, List.set_cons_succ, i64_w, i32_w]
    rfl
  refine pure_ (i := 1) (N := some 21) (v := ?_) (a' := ?_) #[true, true, false, false, false, false, false, false, false] rfl rfl (by kernel_rfl) (fun _ _ _ h => h) (Or.inl ⟨by rfl, ?_⟩) ?_ ?_
  rotate_left
  · intro w'
    go_simp
    with_reducible rfl
  rotate_left
  · simp only [Act.put, List.setIfInBounds_toArray, List.set_cons_zero, List.set_cons_succ, i64_w, i32_w]
    rfl
  refine pure_ (i := 2) (N := some 22) (v := ?_) (a' := ?_) #[true, true, true, false, false, false, false, false, false] rfl rfl (by kernel_rfl) (fun _ _ _ h => h) (Or.inl ⟨by rfl, ?_⟩) ?_ ?_
  rotate_left
  · intro w'
    go_simp
    with_reducible rfl
  rotate_left
  · simp only [Act.put, List.setIfInBounds_toArray, List.set_cons_zero, List.set_cons_succ, i64_w, i32_w]
    rfl
  refine take_ (i := 3) (N := some 23) (v := ?_) (a' := ?_) #[true, true, true, true, false, false, false, false, false] rfl rfl (by kernel_rfl) (fun _ _ _ h => h) (Or.inl ⟨by rfl, ?_⟩) hHeld ?_ ?_
  rotate_left
  · rintro w' ⟨s0, s1⟩
    go_simp
    with_reducible rfl
  rotate_left
  · simp only [Act.put, List.setIfInBounds_toArray, List.set_cons_zero, List.set_cons_succ, i64_w, i32_w]
    rfl
  refine take_ (i := 5) (N := some 25) (v := ?_) (a' := ?_) #[true, true, true, true, false, true, false, false, false] rfl rfl (by kernel_rfl) (fun _ _ _ h => h) (Or.inl ⟨by rfl, ?_⟩) hHeld ?_ ?_
  rotate_left
  · rintro w' ⟨s0, s1⟩
    go_simp
    with_reducible rfl
  rotate_left
  · simp only [Act.put, List.setIfInBounds_toArray, List.set_cons_zero, List.set_cons_succ, i64_w, i32_w]
    rfl
  refine one_ (i := 4) (N := some 24) #[true, true, true, true, true, true, false, false, false] rfl rfl (by kernel_rfl) (by decide) (fun K hK => ?_)
  refine goes_ Try.func56 (by kernel_rfl) rfl #[.agg #[.int .i64 skip, .int .i64 tries]] (by rfl) rfl rfl (by simp only [List.map_toArray, List.map_cons, List.map_nil]; rfl) ?_
  with_reducible refine (pass_Check.calls skip tries (planErr skip tries) _ (check_plan skip tries)).mono ?_
  rintro e w8 ⟨rfl, hb8⟩
  rw [hpl.out]
  refine ⟨_, rfl, ?_⟩
  refine hK.out _ _ ⟨pw_cell_below (below_step hb7 hb8) q0, pw_cell_below (below_step hb7 hb8) q1⟩ (fun hHeld => ?_)
  clear hK K
  refine norm_ (a' := ?_) ?_ ?_
  rotate_left
  · show Act.put _ (some 24) _ = _
    simp only [Act.put, List.setIfInBounds_toArray, List.set_cons_zero, List.set_cons_succ, i64_w, i32_w]
    rfl
  refine one_ (i := 6) (N := some 26) #[true, true, true, true, true, true, true, false, false] rfl rfl (by kernel_rfl) (by decide) (fun K hK => ?_)
  refine goes_ Try.func54 (by kernel_rfl) rfl #[.agg #[.int .i64 skip, .int .i64 tries]] (by rfl) rfl rfl (by simp only [List.map_toArray, List.map_cons, List.map_nil]; rfl) ?_
  with_reducible refine (wracklaw1_planErr.calls skip tries (planErr skip tries) _ (plan_plan skip tries)).mono ?_
  rintro e w9 ⟨rfl, hb9⟩
  rw [hpl.out]
  refine ⟨_, rfl, ?_⟩
  refine hK.out _ _ ⟨pw_cell_below (below_step (below_step hb7 hb8) hb9) q0, pw_cell_below (below_step (below_step hb7 hb8) hb9) q1⟩ (fun hHeld => ?_)
  clear hK K
  refine norm_ (a' := ?_) ?_ ?_
  rotate_left
  · show Act.put _ (some 26) _ = _
    simp only [Act.put, List.setIfInBounds_toArray, List.set_cons_zero, List.set_cons_succ, i64_w, i32_w]
    rfl
  refine pure_ (i := 7) (N := some 27) (v := ?_) (a' := ?_) #[true, true, true, true, true, true, true, true, false] rfl rfl (by kernel_rfl) (fun _ _ _ h => h) (Or.inl ⟨by rfl, ?_⟩) ?_ ?_
  rotate_left
  · intro w'
    go_simp
    with_reducible rfl
  rotate_left
  · simp only [Act.put, List.setIfInBounds_toArray, List.set_cons_zero, List.set_cons_succ, i64_w, i32_w]
    rfl
  refine pure_ (i := 8) (N := some 28) (v := ?_) (a' := ?_) #[true, true, true, true, true, true, true, true, true] rfl rfl (by kernel_rfl) (fun _ _ _ h => h) (Or.inl ⟨by rfl, ?_⟩) ?_ ?_
  rotate_left
  · intro w'
    go_simp
    with_reducible rfl
  rotate_left
  · simp only [Act.put, List.setIfInBounds_toArray, List.set_cons_zero, List.set_cons_succ, i64_w, i32_w]
    rfl
  refine done_ (by kernel_rfl) ?_
  have hB9 := Aside0.mk (below_step HB6.out (below_step (below_step (below_step hBD hb7) hb8) hb9))
  have tail9 := below_step (below_step (below_step hBD hb7) hb8) hb9
  have BX9 := blk_below BX6.out tail9
  have s0_ : w9.cell? ⟨rb, 0, none⟩ = some (.slice none 0 0) := (blk_cell BX9 0).trans rfl
  have s1_ : w9.cell? ⟨rb, 1, none⟩ = some (.slice none 0 0) := (blk_cell BX9 1).trans rfl
  have s2_ : w9.cell? ⟨rb, 2, none⟩ = some (.slice none 0 0) := (blk_cell BX9 2).trans rfl
  have s3_ : w9.cell? ⟨rb, 3, none⟩ = some (.int .i64 0) := (blk_cell BX9 3).trans rfl
  clear hb7 hb8 hb9 hBD tail9 q0 q1 hHeld HB6 BP6 BX6 BX9
  go_wp2_with (first
    | (go_at_call 57; refine (wracklaw1_sameResult.calls kq none 0 [] none 0 [] none 0 [] 0 none 0 [] none 0 [] none 0 [] 0 true _ (Kd.C_nil _ _) (Nat.le_refl _) (Kd.C_nil _ _) (Nat.le_refl _) (Kd.C_nil _ _) (Nat.le_refl _) (Kd.C_nil _ _) (Nat.le_refl _) (Kd.C_nil _ _) (Nat.le_refl _) (Kd.C_nil _ _) (Nat.le_refl _) HKQ.out).mono ?_; rintro e w10 ⟨rfl, hb10⟩; have hB10 := Aside0.mk (below_step hB9.out hb10); clear hb10))
  go_ret
  exact ⟨rfl, hB10.out⟩
/-- every drive, every plan -/
theorem main_calls (A0 : Option Addr) (c0 : Nat) (data : List Int) (A1 : Option Addr) (c1 : Nat) (faults : List S121) (skip tries : Int) (w : World)
    (hr0 : Kd.C (Kd.int .u8) w A0 data.length data) (hc0 : data.length ≤ c0) (hr1 : Kd.C k121 w A1 faults.length faults) (hc1 : faults.length ≤ c1) (hn : faults.length * 24 ≤ 140737488351232) :
    Calls Try.prog 10 #[.agg #[.slice A0 data.length c0, .slice A1 faults.length c1], .agg #[.int .i64 skip, .int .i64 tries]] w fun e w' => e = .returned (.bool true) ∧ Below w.heap.size w w' := by
  by_cases he : errD data faults = 0
  · by_cases hp : planErr skip tries = 0
    · exact pr_right A0 c0 data A1 c1 faults skip tries w hr0 hc0 hr1 hc1 (by omega) he hp
    · exact pr_wrong2 A0 c0 data A1 c1 faults skip tries w he hr0 hc0 hr1 hc1 (by omega) (by unfold runErr; rw [if_pos he]; exact hp)
  · exact pr_wrong1 A0 c0 data A1 c1 faults skip tries w he hr0 hc0 hr1 hc1 (by omega) (by unfold runErr; rw [if_neg he]; exact he)
end Go.Proofs.Ytdgkbpoljcndgaa.Pure
