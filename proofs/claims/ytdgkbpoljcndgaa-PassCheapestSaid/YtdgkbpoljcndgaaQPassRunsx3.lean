/- Written by a program of this session (wip/mprint): the walk of the Go code, function by function, for every input; no condition. -/
import Derived.Test.YtdgkbpoljcndgaaQPassRunsx0
import Derived.Test.YtdgkbpoljcndgaaQPassRunsx1
import Derived.Test.YtdgkbpoljcndgaaQPassRunsx2
namespace Go.Proofs.Ytdgkbpoljcndgaa.QPassRuns
open Go.RowKit Go.Proofs.YtdgkbpoljcndgaaW.PrintWords Go.Proofs.YtdgkbpoljcndgaaW.PrintLast Go.Proofs.YtdgkbpoljcndgaaW.PrintMore
attribute [local go_sem] max2_int min2_int max_two min_two max_three min_three max_four min_four   -- for this text's walks alone
set_option linter.unusedVariables false
set_option linter.unusedSimpArgs false

theorem rows_of {α : Type} {d : Kd α} {e b n c : Nat} {w : World} {ok : Nat → Prop} {A : Option Addr} {xs : List α} (h : d.R e w b ok (.slice A n c) xs) (W : World) (hW : ∀ i, b ≤ i → i < w.heap.size → W.heap[i]? = w.heap[i]?) : d.C W A xs.length xs :=
  (Kd.R_reads' (Kd.R_move (Kd.R_bound h) (fun k hk => hW k hk.2.1 hk.2.2.1))).2.2
/-- what New has made ahead of the drive's own block -/
def NewF (w w' : World) (data : List Int) (faults : List S121) (A0 : Option Addr) (c0 : Nat) (A1 : Option Addr) (c1 M : Nat) : Prop :=
  MapIs w' M (fun _ => 0) 0 ∧ M < w'.heap.size ∧ w.heap.size ≤ M ∧ Below w.heap.size w w' ∧ data.length ≤ c0 ∧ faults.length ≤ c1 ∧
  ∀ W : World, (∀ i, i < w'.heap.size → i ≠ M → W.heap[i]? = w'.heap[i]?) → Kd.C (Kd.int .u8) W A0 data.length data ∧ Kd.C k121 W A1 faults.length faults
section
variable {w wA wB wM : World} {data : List Int} {faults : List S121} {AA AB : Option Addr} {cA cB : Nat}
theorem newF_0 (hRA : Kd.R (Kd.int .u8) 5 wA wM.heap.size (fun _ => True) (.slice AA data.length cA) data) (hRB : Kd.R k121 121 wB wA.heap.size (fun _ => True) (.slice AB faults.length cB) faults)
    (hbA : Below wM.heap.size wM wA) (hbB : Below wA.heap.size wA wB) (hbM : Below w.heap.size w wM) (hmM : MapIs wM w.heap.size (fun _ => 0) 0) (hszM : wM.heap.size = w.heap.size + 1) : NewF w wB data faults AA cA AB cB w.heap.size := by
  have h1 := hbA.size
  have h2 := hbB.size
  refine ⟨hmM.same ((hbB.block _ (by omega)).trans (hbA.block _ (by omega))), by omega, Nat.le_refl _, below_step (below_step hbM hbA) hbB, (Kd.R_reads' hRA).2.1, (Kd.R_reads' hRB).2.1, fun W hW => ⟨rows_of hRA W fun i hi hi2 => ?_, rows_of hRB W fun i hi hi2 => hW i hi2 (by omega)⟩⟩
  exact (hW i (by omega) (by omega)).trans (hbB.block i hi2)
theorem newF_1 (hRA : Kd.R (Kd.int .u8) 5 wA w.heap.size (fun _ => True) (.slice AA data.length cA) data) (hRB : Kd.R k121 121 wB wM.heap.size (fun _ => True) (.slice AB faults.length cB) faults)
    (hbA : Below w.heap.size w wA) (hbB : Below wM.heap.size wM wB) (hbM : Below wA.heap.size wA wM) (hmM : MapIs wM wA.heap.size (fun _ => 0) 0) (hszM : wM.heap.size = wA.heap.size + 1) : NewF w wB data faults AA cA AB cB wA.heap.size := by
  have h1 := hbA.size
  have h2 := hbB.size
  refine ⟨hmM.same (hbB.block _ (by omega)), by omega, h1, below_step (below_step hbA hbM) hbB, (Kd.R_reads' hRA).2.1, (Kd.R_reads' hRB).2.1, fun W hW => ⟨rows_of hRA W fun i hi hi2 => ?_, rows_of hRB W fun i hi hi2 => hW i hi2 (by omega)⟩⟩
  exact ((hW i (by omega) (by omega)).trans (hbB.block i (by omega))).trans (hbM.block i hi2)
theorem newF_2 (hRA : Kd.R (Kd.int .u8) 5 wA w.heap.size (fun _ => True) (.slice AA data.length cA) data) (hRB : Kd.R k121 121 wB wA.heap.size (fun _ => True) (.slice AB faults.length cB) faults)
    (hbA : Below w.heap.size w wA) (hbB : Below wA.heap.size wA wB) (hbM : Below wB.heap.size wB wM) (hmM : MapIs wM wB.heap.size (fun _ => 0) 0) (hszM : wM.heap.size = wB.heap.size + 1) : NewF w wM data faults AA cA AB cB wB.heap.size := by
  have h1 := hbA.size
  have h2 := hbB.size
  refine ⟨hmM, by omega, by omega, below_step (below_step hbA hbB) hbM, (Kd.R_reads' hRA).2.1, (Kd.R_reads' hRB).2.1, fun W hW => ⟨rows_of hRA W fun i hi hi2 => ?_, rows_of hRB W fun i hi hi2 => (hW i (by omega) (by omega)).trans (hbM.block i hi2)⟩⟩
  exact ((hW i (by omega) (by omega)).trans (hbM.block i (by omega))).trans (hbB.block i hi2)
end
set_option maxHeartbeats 8000000 in
set_option maxRecDepth 100000 in
theorem new_ok (k : Nat) (A0 : Option Addr) (c0 : Nat) (data : List Int) (A1 : Option Addr) (c1 : Nat) (faults : List S121) (w : World) (hr0 : Kd.C (Kd.int .u8) w A0 data.length data) (hc0 : data.length ≤ c0) (hr1 : Kd.C k121 w A1 faults.length faults) (hc1 : faults.length ≤ c1) (he : drive_Check.f k data faults = some 0) (hd : data.length ≤ 140737488355328) (hf : faults.length ≤ 5864062014805) :
    Calls Try.prog 43 #[.agg #[.slice A0 data.length c0, .slice A1 faults.length c1]] w fun e w' => ∃ g M A0' c0' A1' c1', e = .returned (.tuple #[.pointer (some ⟨g, 0, none⟩), .int .i64 0]) ∧ w.heap.size ≤ g ∧ w.heap.size ≤ M ∧ IsDisk w' w'.heap.size g M A0' c0' data A1' c1' faults (fun _ => 0) 0 0 ∧ Below w.heap.size w w' := by
  have hu46 := Try.underlying46
  have hmm := @run_makeMap Try.prog
  have HR0 := Aside0.mk hr0
  have HR1 := Aside0.mk hr1
  have hcap0 := Aside0.mk hc0
  have hcap1 := Aside0.mk hc1
  have hl0 := Aside0.mk hd
  have hl1 := Aside0.mk hf
  have HE := Aside0.mk he
  clear hr0 hr1 hc0 hc1 hd hf he
  have HB := Aside0.mk (Below.refl w.heap.size w)
  go_enter Try.func43, Try.ntmps43
  go_wp2_with (first
    | ((with_reducible refine gate_dst (N := 1) rfl ?_); refine box_event ?hg (N := 1) ?hd (cs := #[.slice A0 data.length c0, .slice A1 faults.length c1]) (t := 46) ?hr ?_; (case hd => rfl); (case hg => rfl); (case hr => first | (go_simp; done) | (go_simp; rfl)); intro gb hg w1 hbox hb; have HB1 := Aside0.mk (below_step HB.out hb); have BK := Aside0.mk hbox; clear hg hb hbox HB; have HB := HB1; clear HB1; have hcz0 : w1.cell? ⟨gb, 0, none⟩ = some (.slice A0 data.length c0) := (blk_cell BK.out 0).trans rfl; have hcz1 : w1.cell? ⟨gb, 1, none⟩ = some (.slice A1 faults.length c1) := (blk_cell BK.out 1).trans rfl)
    | (go_at_call 32; refine (drive_Check.calls k A0 c0 data A1 c1 faults 0 _ (Kd.C_below HR0.out HB.out) hcap0.out (Kd.C_below HR1.out HB.out) hcap1.out HE.out).mono ?_; rintro e w2 ⟨rfl, hb⟩; have HB1 := Aside0.mk (below_step HB.out hb); have BK1 := Aside0.mk (blk_below BK.out hb); clear hb HB BK hcz0 hcz1; have HB := HB1; have BK := BK1; clear HB1 BK1))
  have q0 : w2.drew.cell? ⟨gb, 0, none⟩ = some (.slice A0 data.length c0) := (blk_cell (blk_drew BK.out) 0).trans rfl
  have q1 : w2.drew.cell? ⟨gb, 1, none⟩ = some (.slice A1 faults.length c1) := (blk_cell (blk_drew BK.out) 1).trans rfl
  have HBD := Aside0.mk (below_drew HB.out)
  have hC0 := Aside0.mk (Kd.C_below HR0.out (below_drew HB.out))
  have hC1 := Aside0.mk (Kd.C_below HR1.out (below_drew HB.out))
  refine start_ (n := 12) (S := fun w' => w'.cell? ⟨gb, 0, none⟩ = some (.slice A0 data.length c0) ∧ w'.cell? ⟨gb, 1, none⟩ = some (.slice A1 faults.length c1)) (ds := []) #[false, false, false, false, false, false, false, false, false, false, false, false] (by kernel_rfl) rfl rfl ⟨q0, q1⟩ (fun hHeld => ?_)
  generalize w2.drew = wD at q0 q1 hC0 hC1 HBD hHeld ⊢
  refine pure_ (i := 0) (N := some 10) (v := ?_) (a' := ?_) #[true, false, false, false, false, false, false, false, false, false, false, false] rfl rfl (by kernel_rfl) (fun _ _ _ h => h) (Or.inl ⟨by rfl, ?_⟩) ?_ ?_
  rotate_left
  · intro w'
    go_simp
    with_reducible rfl
  rotate_left
  · simp only [Act.put, List.setIfInBounds_toArray, List.set_cons_zero, List.set_cons_succ, i64_w, i32_w]
    rfl
  refine pure_ (i := 3) (N := some 13) (v := ?_) (a' := ?_) #[true, false, false, true, false, false, false, false, false, false, false, false] rfl rfl (by kernel_rfl) (fun _ _ _ h => h) (Or.inl ⟨by rfl, ?_⟩) ?_ ?_
  rotate_left
  · intro w'
    go_simp
    with_reducible rfl
  rotate_left
  · simp only [Act.put, List.setIfInBounds_toArray, List.set_cons_zero, List.set_cons_succ, i64_w, i32_w]
    rfl
  refine take_ (i := 1) (N := some 11) (v := ?_) (a' := ?_) #[true, true, false, true, false, false, false, false, false, false, false, false] rfl rfl (by kernel_rfl) (fun _ _ _ h => h) (Or.inl ⟨by rfl, ?_⟩) hHeld ?_ ?_
  rotate_left
  · rintro w' ⟨s0, s1⟩
    go_simp
    with_reducible rfl
  rotate_left
  · simp only [Act.put, List.setIfInBounds_toArray, List.set_cons_zero, List.set_cons_succ, i64_w, i32_w]
    rfl
  refine take_ (i := 4) (N := some 14) (v := ?_) (a' := ?_) #[true, true, false, true, true, false, false, false, false, false, false, false] rfl rfl (by kernel_rfl) (fun _ _ _ h => h) (Or.inl ⟨by rfl, ?_⟩) hHeld ?_ ?_
  rotate_left
  · rintro w' ⟨s0, s1⟩
    go_simp
    with_reducible rfl
  rotate_left
  · simp only [Act.put, List.setIfInBounds_toArray, List.set_cons_zero, List.set_cons_succ, i64_w, i32_w]
    rfl
  refine join_ (σ := Option Addr × Nat × Option Addr × Nat × Nat) 4 #[true, true, true, true, true, true, true, true, false, false, false, false] (fun s_ => [(12, .slice s_.1 data.length s_.2.1), (15, .slice s_.2.2.1 faults.length s_.2.2.2.1), (17, .map (some s_.2.2.2.2)), (16, .agg #[.slice s_.1 data.length s_.2.1, .slice s_.2.2.1 faults.length s_.2.2.2.1])]) (fun s_ w' => NewF wD w' data faults s_.1 s_.2.1 s_.2.2.1 s_.2.2.2.1 s_.2.2.2.2 ∧ (w'.cell? ⟨gb, 0, none⟩ = some (.slice A0 data.length c0)) ∧ (w'.cell? ⟨gb, 1, none⟩ = some (.slice A1 faults.length c1))) ?_ ?_
  rotate_left
  · intro hCont
    refine two_ (i := 2) (j := 7) (Ni := some 12) (Nj := some 17) #[true, true, true, true, true, false, false, false, false, false, false, false] #[true, true, false, true, true, false, false, true, false, false, false, false] rfl rfl rfl rfl (by kernel_rfl) (by decide) (by decide) (fun K hK => ?_) (fun K hK => ?_)
    · skip
      refine goes_ Try.func82 (by kernel_rfl) rfl #[.slice A0 data.length c0] (by rfl) rfl rfl (by simp only [List.map_toArray, List.map_cons, List.map_nil]; rfl) ?_
      with_reducible refine (slices_Clone_byte.calls A0 c0 data data _ (Kd.C_below hC0.out (Below.refl _ _)) hcap0.out (by unfold slices_Clone_byte.f; rw [if_pos hl0.out])).mono ?_
      rintro e wA ⟨vA, rfl, hRA, hbA⟩
      refine ⟨_, rfl, ?_⟩
      obtain ⟨AA, cA, eA⟩ := Kd.R_slice hRA
      subst eA
      refine hK.out _ _ ⟨pw_cell_below (below_step (Below.refl _ _) hbA) q0, pw_cell_below (below_step (Below.refl _ _) hbA) q1⟩ (fun hHeld => ?_)
      clear hK K
      refine norm_ (a' := ?_) ?_ ?_
      rotate_left
      · show Act.put _ (some 12) _ = _
        simp only [Act.put, List.setIfInBounds_toArray, List.set_cons_zero, List.set_cons_succ, i64_w, i32_w]
        rfl
      refine two_ (i := 5) (j := 7) (Ni := some 15) (Nj := some 17) #[true, true, true, true, true, true, false, false, false, false, false, false] #[true, true, true, true, true, false, false, true, false, false, false, false] rfl rfl rfl rfl (by kernel_rfl) (by decide) (by decide) (fun K hK => ?_) (fun K hK => ?_)
      · skip
        refine goes_ Try.func87 (by kernel_rfl) rfl #[.slice A1 faults.length c1] (by rfl) rfl rfl (by simp only [List.map_toArray, List.map_cons, List.map_nil]; rfl) ?_
        with_reducible refine (slices_Clone_faults.calls A1 c1 faults faults _ (Kd.C_below hC1.out (below_step (Below.refl _ _) hbA)) hcap1.out (by unfold slices_Clone_faults.f; rw [if_pos hl1.out])).mono ?_
        rintro e wB ⟨vB, rfl, hRB, hbB⟩
        refine ⟨_, rfl, ?_⟩
        obtain ⟨AB, cB, eB⟩ := Kd.R_slice hRB
        subst eB
        refine hK.out _ _ ⟨pw_cell_below (below_step (below_step (Below.refl _ _) hbA) hbB) q0, pw_cell_below (below_step (below_step (Below.refl _ _) hbA) hbB) q1⟩ (fun hHeld => ?_)
        clear hK K
        refine norm_ (a' := ?_) ?_ ?_
        rotate_left
        · show Act.put _ (some 15) _ = _
          simp only [Act.put, List.setIfInBounds_toArray, List.set_cons_zero, List.set_cons_succ, i64_w, i32_w]
          rfl
        refine pure_ (i := 6) (N := some 16) (v := ?_) (a' := ?_) #[true, true, true, true, true, true, true, false, false, false, false, false] rfl rfl (by kernel_rfl) (fun _ _ _ h => h) (Or.inl ⟨by rfl, ?_⟩) ?_ ?_
        rotate_left
        · intro w'
          go_simp
          with_reducible rfl
        rotate_left
        · simp only [Act.put, List.setIfInBounds_toArray, List.set_cons_zero, List.set_cons_succ, i64_w, i32_w]
          rfl
        refine one_ (i := 7) (N := some 17) #[true, true, true, true, true, true, true, true, false, false, false, false] rfl rfl (by kernel_rfl) (by decide) (fun K hK => ?_)
        obtain ⟨wM, hwM⟩ : ∃ z, z = wB.alloc (.map #[] 0) := ⟨_, rfl⟩
        refine value_ (w1 := ?_) (v := ?_) (by rfl) rfl ?_ ?_
        rotate_left 2
        · go_simp
          constructor
          · rfl
          · rfl
        have hmM := MapIs.made wB
        have hbM := below_alloc (Below.refl wB.heap.size wB) (.map #[] 0)
        rw [← hwM] at hmM hbM ⊢
        have hszM : wM.heap.size = wB.heap.size + 1 := by rw [hwM]; simp [World.alloc_eq]
        refine hK.out _ _ ⟨pw_cell_below (below_step (below_step (below_step (Below.refl _ _) hbA) hbB) hbM) q0, pw_cell_below (below_step (below_step (below_step (Below.refl _ _) hbA) hbB) hbM) q1⟩ (fun hHeld => ?_)
        clear hK K
        refine norm_ (a' := ?_) ?_ ?_
        rotate_left
        · show Act.put _ (some 17) _ = _
          simp only [Act.put, List.setIfInBounds_toArray, List.set_cons_zero, List.set_cons_succ, i64_w, i32_w]
          rfl
        exact norm_ (by simp only [putAll, Act.put, List.setIfInBounds_toArray, List.set_cons_zero, List.set_cons_succ]) (hCont (AA, cA, AB, cB, wB.heap.size) _ ⟨newF_2 (w := wD) hRA hRB hbA hbB hbM hmM hszM, pw_cell_below (below_step (below_step (below_step (Below.refl _ _) hbA) hbB) hbM) q0, pw_cell_below (below_step (below_step (below_step (Below.refl _ _) hbA) hbB) hbM) q1⟩)
      · skip
        obtain ⟨wM, hwM⟩ : ∃ z, z = wA.alloc (.map #[] 0) := ⟨_, rfl⟩
        refine value_ (w1 := ?_) (v := ?_) (by rfl) rfl ?_ ?_
        rotate_left 2
        · go_simp
          constructor
          · rfl
          · rfl
        have hmM := MapIs.made wA
        have hbM := below_alloc (Below.refl wA.heap.size wA) (.map #[] 0)
        rw [← hwM] at hmM hbM ⊢
        have hszM : wM.heap.size = wA.heap.size + 1 := by rw [hwM]; simp [World.alloc_eq]
        refine hK.out _ _ ⟨pw_cell_below (below_step (below_step (Below.refl _ _) hbA) hbM) q0, pw_cell_below (below_step (below_step (Below.refl _ _) hbA) hbM) q1⟩ (fun hHeld => ?_)
        clear hK K
        refine norm_ (a' := ?_) ?_ ?_
        rotate_left
        · show Act.put _ (some 17) _ = _
          simp only [Act.put, List.setIfInBounds_toArray, List.set_cons_zero, List.set_cons_succ, i64_w, i32_w]
          rfl
        refine one_ (i := 5) (N := some 15) #[true, true, true, true, true, true, false, true, false, false, false, false] rfl rfl (by kernel_rfl) (by decide) (fun K hK => ?_)
        refine goes_ Try.func87 (by kernel_rfl) rfl #[.slice A1 faults.length c1] (by rfl) rfl rfl (by simp only [List.map_toArray, List.map_cons, List.map_nil]; rfl) ?_
        with_reducible refine (slices_Clone_faults.calls A1 c1 faults faults _ (Kd.C_below hC1.out (below_step (below_step (Below.refl _ _) hbA) hbM)) hcap1.out (by unfold slices_Clone_faults.f; rw [if_pos hl1.out])).mono ?_
        rintro e wB ⟨vB, rfl, hRB, hbB⟩
        refine ⟨_, rfl, ?_⟩
        obtain ⟨AB, cB, eB⟩ := Kd.R_slice hRB
        subst eB
        refine hK.out _ _ ⟨pw_cell_below (below_step (below_step (below_step (Below.refl _ _) hbA) hbM) hbB) q0, pw_cell_below (below_step (below_step (below_step (Below.refl _ _) hbA) hbM) hbB) q1⟩ (fun hHeld => ?_)
        clear hK K
        refine norm_ (a' := ?_) ?_ ?_
        rotate_left
        · show Act.put _ (some 15) _ = _
          simp only [Act.put, List.setIfInBounds_toArray, List.set_cons_zero, List.set_cons_succ, i64_w, i32_w]
          rfl
        refine pure_ (i := 6) (N := some 16) (v := ?_) (a' := ?_) #[true, true, true, true, true, true, true, true, false, false, false, false] rfl rfl (by kernel_rfl) (fun _ _ _ h => h) (Or.inl ⟨by rfl, ?_⟩) ?_ ?_
        rotate_left
        · intro w'
          go_simp
          with_reducible rfl
        rotate_left
        · simp only [Act.put, List.setIfInBounds_toArray, List.set_cons_zero, List.set_cons_succ, i64_w, i32_w]
          rfl
        exact norm_ (by simp only [putAll, Act.put, List.setIfInBounds_toArray, List.set_cons_zero, List.set_cons_succ]) (hCont (AA, cA, AB, cB, wA.heap.size) _ ⟨newF_1 (w := wD) hRA hRB hbA hbB hbM hmM hszM, pw_cell_below (below_step (below_step (below_step (Below.refl _ _) hbA) hbM) hbB) q0, pw_cell_below (below_step (below_step (below_step (Below.refl _ _) hbA) hbM) hbB) q1⟩)
    · skip
      obtain ⟨wM, hwM⟩ : ∃ z, z = wD.alloc (.map #[] 0) := ⟨_, rfl⟩
      refine value_ (w1 := ?_) (v := ?_) (by rfl) rfl ?_ ?_
      rotate_left 2
      · go_simp
        constructor
        · rfl
        · rfl
      have hmM := MapIs.made wD
      have hbM := below_alloc (Below.refl wD.heap.size wD) (.map #[] 0)
      rw [← hwM] at hmM hbM ⊢
      have hszM : wM.heap.size = wD.heap.size + 1 := by rw [hwM]; simp [World.alloc_eq]
      refine hK.out _ _ ⟨pw_cell_below (below_step (Below.refl _ _) hbM) q0, pw_cell_below (below_step (Below.refl _ _) hbM) q1⟩ (fun hHeld => ?_)
      clear hK K
      refine norm_ (a' := ?_) ?_ ?_
      rotate_left
      · show Act.put _ (some 17) _ = _
        simp only [Act.put, List.setIfInBounds_toArray, List.set_cons_zero, List.set_cons_succ, i64_w, i32_w]
        rfl
      refine one_ (i := 2) (N := some 12) #[true, true, true, true, true, false, false, true, false, false, false, false] rfl rfl (by kernel_rfl) (by decide) (fun K hK => ?_)
      refine goes_ Try.func82 (by kernel_rfl) rfl #[.slice A0 data.length c0] (by rfl) rfl rfl (by simp only [List.map_toArray, List.map_cons, List.map_nil]; rfl) ?_
      with_reducible refine (slices_Clone_byte.calls A0 c0 data data _ (Kd.C_below hC0.out (below_step (Below.refl _ _) hbM)) hcap0.out (by unfold slices_Clone_byte.f; rw [if_pos hl0.out])).mono ?_
      rintro e wA ⟨vA, rfl, hRA, hbA⟩
      refine ⟨_, rfl, ?_⟩
      obtain ⟨AA, cA, eA⟩ := Kd.R_slice hRA
      subst eA
      refine hK.out _ _ ⟨pw_cell_below (below_step (below_step (Below.refl _ _) hbM) hbA) q0, pw_cell_below (below_step (below_step (Below.refl _ _) hbM) hbA) q1⟩ (fun hHeld => ?_)
      clear hK K
      refine norm_ (a' := ?_) ?_ ?_
      rotate_left
      · show Act.put _ (some 12) _ = _
        simp only [Act.put, List.setIfInBounds_toArray, List.set_cons_zero, List.set_cons_succ, i64_w, i32_w]
        rfl
      refine one_ (i := 5) (N := some 15) #[true, true, true, true, true, true, false, true, false, false, false, false] rfl rfl (by kernel_rfl) (by decide) (fun K hK => ?_)
      refine goes_ Try.func87 (by kernel_rfl) rfl #[.slice A1 faults.length c1] (by rfl) rfl rfl (by simp only [List.map_toArray, List.map_cons, List.map_nil]; rfl) ?_
      with_reducible refine (slices_Clone_faults.calls A1 c1 faults faults _ (Kd.C_below hC1.out (below_step (below_step (Below.refl _ _) hbM) hbA)) hcap1.out (by unfold slices_Clone_faults.f; rw [if_pos hl1.out])).mono ?_
      rintro e wB ⟨vB, rfl, hRB, hbB⟩
      refine ⟨_, rfl, ?_⟩
      obtain ⟨AB, cB, eB⟩ := Kd.R_slice hRB
      subst eB
      refine hK.out _ _ ⟨pw_cell_below (below_step (below_step (below_step (Below.refl _ _) hbM) hbA) hbB) q0, pw_cell_below (below_step (below_step (below_step (Below.refl _ _) hbM) hbA) hbB) q1⟩ (fun hHeld => ?_)
      clear hK K
      refine norm_ (a' := ?_) ?_ ?_
      rotate_left
      · show Act.put _ (some 15) _ = _
        simp only [Act.put, List.setIfInBounds_toArray, List.set_cons_zero, List.set_cons_succ, i64_w, i32_w]
        rfl
      refine pure_ (i := 6) (N := some 16) (v := ?_) (a' := ?_) #[true, true, true, true, true, true, true, true, false, false, false, false] rfl rfl (by kernel_rfl) (fun _ _ _ h => h) (Or.inl ⟨by rfl, ?_⟩) ?_ ?_
      rotate_left
      · intro w'
        go_simp
        with_reducible rfl
      rotate_left
      · simp only [Act.put, List.setIfInBounds_toArray, List.set_cons_zero, List.set_cons_succ, i64_w, i32_w]
        rfl
      exact norm_ (by simp only [putAll, Act.put, List.setIfInBounds_toArray, List.set_cons_zero, List.set_cons_succ]) (hCont (AA, cA, AB, cB, wD.heap.size) _ ⟨newF_0 (w := wD) hRA hRB hbA hbB hbM hmM hszM, pw_cell_below (below_step (below_step (below_step (Below.refl _ _) hbM) hbA) hbB) q0, pw_cell_below (below_step (below_step (below_step (Below.refl _ _) hbM) hbA) hbB) q1⟩)
  rintro ⟨AN, cN, AF, cF, MN⟩ w5 ⟨hnew, hHeld⟩
  simp only at hnew
  refine norm_ (a' := ?_) ?_ ?_
  rotate_left
  · simp only [putAll, Act.put, List.setIfInBounds_toArray, List.set_cons_zero, List.set_cons_succ]
    rfl
  refine pure_ (i := 8) (N := some 18) (v := ?_) (a' := ?_) #[true, true, true, true, true, true, true, true, true, false, false, false] rfl rfl (by kernel_rfl) (fun _ _ _ h => h) (Or.inl ⟨by rfl, ?_⟩) ?_ ?_
  rotate_left
  · intro w'
    go_simp
    with_reducible rfl
  rotate_left
  · simp only [Act.put, List.setIfInBounds_toArray, List.set_cons_zero, List.set_cons_succ, i64_w, i32_w]
    rfl
  refine one_ (i := 9) (N := some 19) #[true, true, true, true, true, true, true, true, true, true, false, false] rfl rfl (by kernel_rfl) (by decide) (fun K hK => ?_)
  refine value_ (w1 := ?_) (v := ?_) (by rfl) rfl ?_ ?_
  rotate_left 2
  · go_simp
    constructor
    · rfl
    · rfl
  refine hK.out _ _ ⟨pw_cell_below (below_alloc (Below.refl w5.heap.size w5) _) hHeld.1, pw_cell_below (below_alloc (Below.refl w5.heap.size w5) _) hHeld.2⟩ (fun hHeld => ?_)
  clear hK K
  refine norm_ (a' := ?_) ?_ ?_
  rotate_left
  · show Act.put _ (some 19) _ = _
    simp only [Act.put, List.setIfInBounds_toArray, List.set_cons_zero, List.set_cons_succ, i64_w, i32_w]
    rfl
  refine pure_ (i := 10) (N := some 2) (v := ?_) (a' := ?_) #[true, true, true, true, true, true, true, true, true, true, true, false] rfl rfl (by kernel_rfl) (fun _ _ _ h => h) (Or.inl ⟨by rfl, ?_⟩) ?_ ?_
  rotate_left
  · intro w'
    go_simp
    with_reducible rfl
  rotate_left
  · simp only [Act.put, List.setIfInBounds_toArray, List.set_cons_zero, List.set_cons_succ, i64_w, i32_w]
    rfl
  refine pure_ (i := 11) (N := some 3) (v := ?_) (a' := ?_) #[true, true, true, true, true, true, true, true, true, true, true, true] rfl rfl (by kernel_rfl) (fun _ _ _ h => h) (Or.inl ⟨by rfl, ?_⟩) ?_ ?_
  rotate_left
  · intro w'
    go_simp
    with_reducible rfl
  rotate_left
  · simp only [Act.put, List.setIfInBounds_toArray, List.set_cons_zero, List.set_cons_succ, i64_w, i32_w]
    rfl
  refine done_ (by kernel_rfl) ?_
  obtain ⟨n1, n2, n3, n4, n5, n6, n7⟩ := hnew
  have hsz6 : (w5.alloc (.cells #[.slice AN data.length cN, .slice AF faults.length cF, .map (some MN), .int .i64 0] 128)).heap.size = w5.heap.size + 1 := by simp [World.alloc_eq]
  have hb6 : Below w5.heap.size w5 (w5.alloc (.cells #[.slice AN data.length cN, .slice AF faults.length cF, .map (some MN), .int .i64 0] 128)) := below_alloc (Below.refl _ _) _
  have hw2 : w.heap.size ≤ wD.heap.size := HBD.out.size
  have hdisk : IsDisk (w5.alloc (.cells #[.slice AN data.length cN, .slice AF faults.length cF, .map (some MN), .int .i64 0] 128)) (w5.alloc (.cells #[.slice AN data.length cN, .slice AF faults.length cF, .map (some MN), .int .i64 0] 128)).heap.size w5.heap.size MN AN cN data AF cF faults (fun _ => 0) 0 0 := by
    refine ⟨heap_alloc_new w5 _, by omega, by omega, by omega, Nat.le_refl _, n1.same (hb6.block _ n2), n5, n6, fun W hW => n7 W fun i hi hM => (hW i (by omega) (by omega) hM).trans (hb6.block i hi)⟩
  have hbel := below_step (below_step HBD.out n4) hb6
  replace hdisk := Aside0.mk hdisk
  replace hbel := Aside0.mk hbel
  have h4 := n4.size
  try go_wp2
  go_ret2
  exact ⟨w5.heap.size, MN, AN, cN, AF, cF, rfl, by omega, by omega, hdisk.out, hbel.out⟩
set_option maxHeartbeats 8000000 in
set_option maxRecDepth 100000 in
theorem new_err (k : Nat) (A0 : Option Addr) (c0 : Nat) (data : List Int) (A1 : Option Addr) (c1 : Nat) (faults : List S121) (q : Int) (w : World) (hr0 : Kd.C (Kd.int .u8) w A0 data.length data) (hc0 : data.length ≤ c0) (hr1 : Kd.C k121 w A1 faults.length faults) (hc1 : faults.length ≤ c1) (he : drive_Check.f k data faults = some q) (hq : q ≠ 0) :
    Calls Try.prog 43 #[.agg #[.slice A0 data.length c0, .slice A1 faults.length c1]] w fun e w' => e = .returned (.tuple #[.pointer none, .int .i64 q]) ∧ Below w.heap.size w w' := by
  have hu46 := Try.underlying46
  have HR0 := Aside0.mk hr0
  have HR1 := Aside0.mk hr1
  have hcap0 := Aside0.mk hc0
  have hcap1 := Aside0.mk hc1
  have HE := Aside0.mk he
  have he1 : (q != 0) = true := bne_iff_ne.mpr hq
  clear hr0 hr1 hc0 hc1 he hq
  have HB := Aside0.mk (Below.refl w.heap.size w)
  go_enter Try.func43, Try.ntmps43
  go_wp2_with (first
    | ((with_reducible refine gate_dst (N := 1) rfl ?_); refine box_event ?hg (N := 1) ?hd (cs := #[.slice A0 data.length c0, .slice A1 faults.length c1]) (t := 46) ?hr ?_; (case hd => rfl); (case hg => rfl); (case hr => first | (go_simp; done) | (go_simp; rfl)); intro gb hg w1 hbox hb; have HB1 := Aside0.mk (below_step HB.out hb); have BK := Aside0.mk hbox; clear hg hb hbox HB; have HB := HB1; clear HB1; have hcz0 : w1.cell? ⟨gb, 0, none⟩ = some (.slice A0 data.length c0) := (blk_cell BK.out 0).trans rfl; have hcz1 : w1.cell? ⟨gb, 1, none⟩ = some (.slice A1 faults.length c1) := (blk_cell BK.out 1).trans rfl)
    | (go_at_call 32; refine (drive_Check.calls k A0 c0 data A1 c1 faults q _ (Kd.C_below HR0.out HB.out) hcap0.out (Kd.C_below HR1.out HB.out) hcap1.out HE.out).mono ?_; rintro e w2 ⟨rfl, hb⟩; have HB1 := Aside0.mk (below_step HB.out hb); clear hb HB BK hcz0 hcz1; have HB := HB1; clear HB1))
  go_ret2
  exact ⟨rfl, HB.out⟩
def drive_New.f (l0 : List Int) : Option Int := none


set_option maxHeartbeats 2000000 in
set_option maxRecDepth 100000 in
theorem time_calls {w : World} {L g M : Nat} {A0 : Option Addr} {c0 : Nat} {data : List Int} {A1 : Option Addr} {c1 : Nat} {faults : List S121} {T : Int → Int} {t : Int} {N : Nat} (h : IsDisk w L g M A0 c0 data A1 c1 faults T t N) :
    Calls Try.prog 46 #[.pointer (some ⟨g, 0, none⟩)] w fun e w' => e = .returned (.int .i64 t) ∧ w' = w := by
  have hc0 : w.cell? ⟨g, 3, none⟩ = some (.int .i64 t) := (blk_cell h.cells 3).trans rfl
  clear h
  go_enter Try.func46, Try.ntmps46
  go_wp2
  go_ret
  exact ⟨rfl, rfl⟩
def drive_Disk_Time.f (l0 : List Int) : Option Int := none


/-! ### pass_Check: function 56 -/
def pass_Check.f (a0_0 : Int) (a0_1 : Int) : Option (Int) := if a0_0 < 0 then (some 4) else (if a0_0 > 64 then (some 4) else (if a0_1 < 1 then (some 4) else (if a0_1 > 16 then (some 4) else (some 0))))
set_option maxHeartbeats 8000000 in
set_option maxRecDepth 100000 in
theorem pass_Check.calls (a0_0 : Int) (a0_1 : Int) (r : Int) (w : World) (h : pass_Check.f a0_0 a0_1 = some r) :
    Calls Try.prog 56 #[.agg #[.int .i64 a0_0, .int .i64 a0_1]] w fun e w' => e = .returned (.int .i64 r) ∧ Below w.heap.size w w' := by
  have hu80 := Try.underlying80
  have HB := Aside0.mk (Below.refl w.heap.size w)
  have H : (if a0_0 < 0 then (some 4) else (if a0_0 > 64 then (some 4) else (if a0_1 < 1 then (some 4) else (if a0_1 > 16 then (some 4) else (some 0))))) = some r := h
  clear h
  by_cases c2 : a0_0 < 0
  · rw [if_pos c2] at H
    have c2b0 : decide (a0_0 < 0) = true := decide_eq_true c2
    clear c2
    obtain rfl := Option.some.inj H
    go_enter Try.func56, Try.ntmps56
    go_wp2_with (first | ((with_reducible refine gate_dst (N := 1) rfl ?_); refine box_event ?hg (N := 1) ?hd (cs := #[.int .i64 a0_0, .int .i64 a0_1]) (t := 80) ?hr ?_; (case hd => rfl); (case hg => rfl); (case hr => first | (go_simp; done) | (go_simp; rfl)); intro gb108 hg w3 hbox hb; have n0_ := Aside0.mk (below_step (by repeat (first | (with_reducible first | exact HB.out | apply below_alloc | apply pw_below_drewN | apply below_drew1) | exact HB.out)) hb); have n1_ := Aside0.mk (hbox); have n2_ := Aside0.mk ((by rw [hg]; exact (below_size (by repeat (first | (with_reducible first | exact HB.out | apply below_alloc | apply pw_below_drewN | apply below_drew1) | exact HB.out))) : w.heap.size ≤ gb108)); have n3_ := Aside0.mk ((by rw [hg]; exact (below_size (by repeat (first | (with_reducible first | exact HB.out | apply below_alloc | apply pw_below_drewN | apply below_drew1) | exact HB.out))) : w.heap.size ≤ gb108)); clear HB; have HB := n0_; have BK108 := n1_; have GW108 := n2_; have GE108 := n3_; clear n0_ n1_ n2_ n3_; clear hb hbox hg; have hcz4_0 : w3.cell? ⟨gb108, 0, none⟩ = some (.int .i64 a0_0) := (blk_cell BK108.out 0).trans rfl; have hcz4_1 : w3.cell? ⟨gb108, 1, none⟩ = some (.int .i64 a0_1) := (blk_cell BK108.out 1).trans rfl; have hfz4_0 := blk_frozen BK108.out 0; have hfz4_1 := blk_frozen BK108.out 1))
    go_ret
    exact ⟨by first | rfl | (simp [errW_none, errW_some] <;> rfl) | (simp [*, errW_none, errW_some] <;> rfl), by repeat (first | (with_reducible first | exact HB.out | apply below_alloc | apply pw_below_drewN | apply below_drew1 | refine below_set ?_ GE108.out) | exact HB.out)⟩
  · rw [if_neg c2] at H
    have c2b0 : decide (a0_0 < 0) = false := decide_eq_false c2
    clear c2
    by_cases c5 : a0_0 > 64
    · rw [if_pos c5] at H
      have c5b0 : decide (64 < a0_0) = true := decide_eq_true c5
      clear c5
      obtain rfl := Option.some.inj H
      go_enter Try.func56, Try.ntmps56
      go_wp2_with (first | ((with_reducible refine gate_dst (N := 1) rfl ?_); refine box_event ?hg (N := 1) ?hd (cs := #[.int .i64 a0_0, .int .i64 a0_1]) (t := 80) ?hr ?_; (case hd => rfl); (case hg => rfl); (case hr => first | (go_simp; done) | (go_simp; rfl)); intro gb108 hg w6 hbox hb; have n0_ := Aside0.mk (below_step (by repeat (first | (with_reducible first | exact HB.out | apply below_alloc | apply pw_below_drewN | apply below_drew1) | exact HB.out)) hb); have n1_ := Aside0.mk (hbox); have n2_ := Aside0.mk ((by rw [hg]; exact (below_size (by repeat (first | (with_reducible first | exact HB.out | apply below_alloc | apply pw_below_drewN | apply below_drew1) | exact HB.out))) : w.heap.size ≤ gb108)); have n3_ := Aside0.mk ((by rw [hg]; exact (below_size (by repeat (first | (with_reducible first | exact HB.out | apply below_alloc | apply pw_below_drewN | apply below_drew1) | exact HB.out))) : w.heap.size ≤ gb108)); clear HB; have HB := n0_; have BK108 := n1_; have GW108 := n2_; have GE108 := n3_; clear n0_ n1_ n2_ n3_; clear hb hbox hg; have hcz7_0 : w6.cell? ⟨gb108, 0, none⟩ = some (.int .i64 a0_0) := (blk_cell BK108.out 0).trans rfl; have hcz7_1 : w6.cell? ⟨gb108, 1, none⟩ = some (.int .i64 a0_1) := (blk_cell BK108.out 1).trans rfl; have hfz7_0 := blk_frozen BK108.out 0; have hfz7_1 := blk_frozen BK108.out 1))
      go_ret
      exact ⟨by first | rfl | (simp [errW_none, errW_some] <;> rfl) | (simp [*, errW_none, errW_some] <;> rfl), by repeat (first | (with_reducible first | exact HB.out | apply below_alloc | apply pw_below_drewN | apply below_drew1 | refine below_set ?_ GE108.out) | exact HB.out)⟩
    · rw [if_neg c5] at H
      have c5b0 : decide (64 < a0_0) = false := decide_eq_false c5
      clear c5
      by_cases c8 : a0_1 < 1
      · rw [if_pos c8] at H
        have c8b0 : decide (a0_1 < 1) = true := decide_eq_true c8
        clear c8
        obtain rfl := Option.some.inj H
        go_enter Try.func56, Try.ntmps56
        go_wp2_with (first | ((with_reducible refine gate_dst (N := 1) rfl ?_); refine box_event ?hg (N := 1) ?hd (cs := #[.int .i64 a0_0, .int .i64 a0_1]) (t := 80) ?hr ?_; (case hd => rfl); (case hg => rfl); (case hr => first | (go_simp; done) | (go_simp; rfl)); intro gb108 hg w9 hbox hb; have n0_ := Aside0.mk (below_step (by repeat (first | (with_reducible first | exact HB.out | apply below_alloc | apply pw_below_drewN | apply below_drew1) | exact HB.out)) hb); have n1_ := Aside0.mk (hbox); have n2_ := Aside0.mk ((by rw [hg]; exact (below_size (by repeat (first | (with_reducible first | exact HB.out | apply below_alloc | apply pw_below_drewN | apply below_drew1) | exact HB.out))) : w.heap.size ≤ gb108)); have n3_ := Aside0.mk ((by rw [hg]; exact (below_size (by repeat (first | (with_reducible first | exact HB.out | apply below_alloc | apply pw_below_drewN | apply below_drew1) | exact HB.out))) : w.heap.size ≤ gb108)); clear HB; have HB := n0_; have BK108 := n1_; have GW108 := n2_; have GE108 := n3_; clear n0_ n1_ n2_ n3_; clear hb hbox hg; have hcz10_0 : w9.cell? ⟨gb108, 0, none⟩ = some (.int .i64 a0_0) := (blk_cell BK108.out 0).trans rfl; have hcz10_1 : w9.cell? ⟨gb108, 1, none⟩ = some (.int .i64 a0_1) := (blk_cell BK108.out 1).trans rfl; have hfz10_0 := blk_frozen BK108.out 0; have hfz10_1 := blk_frozen BK108.out 1))
        go_ret
        exact ⟨by first | rfl | (simp [errW_none, errW_some] <;> rfl) | (simp [*, errW_none, errW_some] <;> rfl), by repeat (first | (with_reducible first | exact HB.out | apply below_alloc | apply pw_below_drewN | apply below_drew1 | refine below_set ?_ GE108.out) | exact HB.out)⟩
      · rw [if_neg c8] at H
        have c8b0 : decide (a0_1 < 1) = false := decide_eq_false c8
        clear c8
        by_cases c11 : a0_1 > 16
        · rw [if_pos c11] at H
          have c11b0 : decide (16 < a0_1) = true := decide_eq_true c11
          clear c11
          obtain rfl := Option.some.inj H
          go_enter Try.func56, Try.ntmps56
          go_wp2_with (first | ((with_reducible refine gate_dst (N := 1) rfl ?_); refine box_event ?hg (N := 1) ?hd (cs := #[.int .i64 a0_0, .int .i64 a0_1]) (t := 80) ?hr ?_; (case hd => rfl); (case hg => rfl); (case hr => first | (go_simp; done) | (go_simp; rfl)); intro gb108 hg w12 hbox hb; have n0_ := Aside0.mk (below_step (by repeat (first | (with_reducible first | exact HB.out | apply below_alloc | apply pw_below_drewN | apply below_drew1) | exact HB.out)) hb); have n1_ := Aside0.mk (hbox); have n2_ := Aside0.mk ((by rw [hg]; exact (below_size (by repeat (first | (with_reducible first | exact HB.out | apply below_alloc | apply pw_below_drewN | apply below_drew1) | exact HB.out))) : w.heap.size ≤ gb108)); have n3_ := Aside0.mk ((by rw [hg]; exact (below_size (by repeat (first | (with_reducible first | exact HB.out | apply below_alloc | apply pw_below_drewN | apply below_drew1) | exact HB.out))) : w.heap.size ≤ gb108)); clear HB; have HB := n0_; have BK108 := n1_; have GW108 := n2_; have GE108 := n3_; clear n0_ n1_ n2_ n3_; clear hb hbox hg; have hcz13_0 : w12.cell? ⟨gb108, 0, none⟩ = some (.int .i64 a0_0) := (blk_cell BK108.out 0).trans rfl; have hcz13_1 : w12.cell? ⟨gb108, 1, none⟩ = some (.int .i64 a0_1) := (blk_cell BK108.out 1).trans rfl; have hfz13_0 := blk_frozen BK108.out 0; have hfz13_1 := blk_frozen BK108.out 1))
          go_ret
          exact ⟨by first | rfl | (simp [errW_none, errW_some] <;> rfl) | (simp [*, errW_none, errW_some] <;> rfl), by repeat (first | (with_reducible first | exact HB.out | apply below_alloc | apply pw_below_drewN | apply below_drew1 | refine below_set ?_ GE108.out) | exact HB.out)⟩
        · rw [if_neg c11] at H
          have c11b0 : decide (16 < a0_1) = false := decide_eq_false c11
          clear c11
          obtain rfl := Option.some.inj H
          go_enter Try.func56, Try.ntmps56
          go_wp2_with (first | ((with_reducible refine gate_dst (N := 1) rfl ?_); refine box_event ?hg (N := 1) ?hd (cs := #[.int .i64 a0_0, .int .i64 a0_1]) (t := 80) ?hr ?_; (case hd => rfl); (case hg => rfl); (case hr => first | (go_simp; done) | (go_simp; rfl)); intro gb108 hg w14 hbox hb; have n0_ := Aside0.mk (below_step (by repeat (first | (with_reducible first | exact HB.out | apply below_alloc | apply pw_below_drewN | apply below_drew1) | exact HB.out)) hb); have n1_ := Aside0.mk (hbox); have n2_ := Aside0.mk ((by rw [hg]; exact (below_size (by repeat (first | (with_reducible first | exact HB.out | apply below_alloc | apply pw_below_drewN | apply below_drew1) | exact HB.out))) : w.heap.size ≤ gb108)); have n3_ := Aside0.mk ((by rw [hg]; exact (below_size (by repeat (first | (with_reducible first | exact HB.out | apply below_alloc | apply pw_below_drewN | apply below_drew1) | exact HB.out))) : w.heap.size ≤ gb108)); clear HB; have HB := n0_; have BK108 := n1_; have GW108 := n2_; have GE108 := n3_; clear n0_ n1_ n2_ n3_; clear hb hbox hg; have hcz15_0 : w14.cell? ⟨gb108, 0, none⟩ = some (.int .i64 a0_0) := (blk_cell BK108.out 0).trans rfl; have hcz15_1 : w14.cell? ⟨gb108, 1, none⟩ = some (.int .i64 a0_1) := (blk_cell BK108.out 1).trans rfl; have hfz15_0 := blk_frozen BK108.out 0; have hfz15_1 := blk_frozen BK108.out 1))
          go_ret
          exact ⟨by first | rfl | (simp [errW_none, errW_some] <;> rfl) | (simp [*, errW_none, errW_some] <;> rfl), by repeat (first | (with_reducible first | exact HB.out | apply below_alloc | apply pw_below_drewN | apply below_drew1 | refine below_set ?_ GE108.out) | exact HB.out)⟩

/-- the search: the least place from which on no block is less, if they are in order -/
def bsF (l : List S121) (a : Int) : Nat → Nat → Nat → Nat
  | 0, i, _ => i
  | m + 1, i, j => if i < j then (if wrap64 ((rd_T121 l (((i + j) / 2 : Nat) : Int)).f0 - a) < 0 then bsF l a m ((i + j) / 2 + 1) j else bsF l a m i ((i + j) / 2)) else i
theorem bsF_stop (l : List S121) (a : Int) (m i j : Nat) (h : ¬ i < j) : bsF l a m i j = i := by
  cases m with
  | zero => rfl
  | succ m => simp only [bsF]; rw [if_neg h]
theorem bsF_le (l : List S121) (a : Int) : ∀ (m i j : Nat), i ≤ j → bsF l a m i j ≤ j
  | 0, i, j, h => h
  | m + 1, i, j, h => by
    simp only [bsF]
    split
    · split
      · exact bsF_le l a m _ j (by omega)
      · exact Nat.le_trans (bsF_le l a m i _ (by omega)) (by omega)
    · exact h
set_option maxHeartbeats 2000000 in
set_option maxRecDepth 100000 in
theorem bsCmp (x0 x1 x2 a : Int) (W : World) :
    Calls Try.prog 120 #[.agg #[.int .i64 x0, .int .i64 x1, .int .i64 x2], .int .i64 a] W fun e w' => e = .returned (.int .i64 (wrap64 (x0 - a))) ∧ Below W.heap.size W w' := by
  go_enter Try.func120, Try.ntmps120
  go_wp2
  go_ret
  exact ⟨by simp [i64_w], by repeat (first | exact Below.refl _ _ | apply below_alloc)⟩
set_option maxHeartbeats 4000000 in
set_option maxRecDepth 100000 in
theorem bs_calls (A : Option Addr) (c : Nat) (xs : List S121) (a : Int) (w : World) (hr0 : Kd.C k121 w A xs.length xs) (hn : xs.length ≤ 140737488351232) :
    Calls Try.prog 119 #[.slice A xs.length c, .int .i64 a, .func (.func 120) #[] #[]] w fun e w' =>
      e = .returned (.tuple #[.int .i64 ((bsF xs a (xs.length + 1) 0 xs.length : Nat) : Int), .bool (decide (bsF xs a (xs.length + 1) 0 xs.length < xs.length) && decide (wrap64 ((rd_T121 xs ((bsF xs a (xs.length + 1) 0 xs.length : Nat) : Int)).f0 - a) = 0))]) ∧ Below w.heap.size w w' := by
  obtain ⟨R, hR⟩ : ∃ R, bsF xs a (xs.length + 1) 0 xs.length = R := ⟨_, rfl⟩
  rw [hR]
  have hRN : R ≤ xs.length := by rw [← hR]; exact bsF_le _ _ _ _ _ (Nat.zero_le _)
  obtain ⟨D, hD⟩ : ∃ D, decide (wrap64 ((rd_T121 xs (R : Int)).f0 - a) = 0) = D := ⟨_, rfl⟩
  rw [hD]
  replace hD := Aside0.mk hD
  obtain ⟨N, hN⟩ : ∃ N, xs.length = N := ⟨_, rfl⟩
  rw [hN] at hr0 hn hR hRN ⊢
  replace hN := Aside0.mk hN
  replace hr0 := Aside0.mk hr0
  replace hR := Aside0.mk hR
  go_enter Try.func119, Try.ntmps119
  go_wp2
  go_loopw [9, 10] (fun vi vj wr => ∃ i j m : Nat, i ≤ j ∧ j ≤ N ∧ j - i < m ∧ vi = .int .i64 (i : Int) ∧ vj = .int .i64 (j : Int) ∧ Aside0 (bsF xs a m i j = R) ∧ Aside0 (Below w.heap.size w wr)) (fun vi vj _ => (intOf vj).toNat - (intOf vi).toNat)
  case atStart => exact ⟨0, N, N + 1, Nat.zero_le _, Nat.le_refl _, by omega, rfl, rfl, hR, ⟨Below.refl _ _⟩⟩
  case round =>
    obtain ⟨i, j, m, hij, hjN, hm, rfl, rfl, hb, HB⟩ := hrel
    by_cases hlt : i < j
    · obtain ⟨m', rfl⟩ : ∃ q, m = q + 1 := ⟨m - 1, by omega⟩
      have hb2 := hb.out
      simp only [bsF] at hb2
      rw [if_pos hlt] at hb2
      obtain ⟨ad, hA, q0, q1, q2⟩ := at_T121 (Kd.C_below hr0.out HB.out) (((i + j) / 2 : Nat) : Int) (by omega) (by omega)
      subst hA
      obtain ⟨x, hx⟩ : ∃ x, rd_T121 xs (((i + j) / 2 : Nat) : Int) = x := ⟨_, rfl⟩
      rw [hx] at q0 q1 q2 hb2
      replace hx := Aside0.mk hx
      simp only [Int.toNat_natCast] at q0 q1 q2
      have hlti : (i : Int) < (j : Int) := by omega
      have hw1 : IntKind.i64.wrap ((i : Int) + (j : Int)) = (i : Int) + (j : Int) := by rw [i64_w]; unfold wrap64; omega
      have hhN : ((i : Int) + (j : Int)) / 2 < (N : Int) := by omega
      have hh0 : decide (0 ≤ ((i : Int) + (j : Int)) / 2) = true := decide_eq_true (by omega)
      have hnx : IntKind.i64.wrap (((i : Int) + (j : Int)) / 2 + 1) = ((i : Int) + (j : Int)) / 2 + 1 := by rw [i64_w]; unfold wrap64; omega
      have hnt : (((i : Int) + (j : Int)) / 2).toNat = (i + j) / 2 := by omega
      have hcall := fun W => bsCmp x.f0 x.f1 x.f2 a W
      obtain ⟨s, hs⟩ : ∃ s, wrap64 (x.f0 - a) = s := ⟨_, rfl⟩
      simp only [hs] at hcall
      rw [hs] at hb2
      replace hs := Aside0.mk hs
      replace hb2 := Aside0.mk hb2
      by_cases hneg : s < 0
      · have hneg1 : decide (s < 0) = true := decide_eq_true hneg
        go_wp2_with (first | (go_at_call 120; refine (hcall _).mono ?_; rintro e w2 ⟨rfl, hb3⟩))
        go_roundw
        case rel => exact ⟨(i + j) / 2 + 1, j, m', by omega, hjN, by omega, congrArg (Value.int .i64) (by omega), rfl, ⟨by have := hb2.out; rwa [if_pos (by omega)] at this⟩, ⟨below_step HB.out hb3⟩⟩
        case measure => simp [intOf]; omega
      · have hneg1 : decide (s < 0) = false := decide_eq_false hneg
        go_wp2_with (first | (go_at_call 120; refine (hcall _).mono ?_; rintro e w2 ⟨rfl, hb3⟩))
        go_roundw
        case rel => exact ⟨i, (i + j) / 2, m', by omega, by omega, by omega, rfl, congrArg (Value.int .i64) (by omega), ⟨by have := hb2.out; rwa [if_neg (by omega)] at this⟩, ⟨below_step HB.out hb3⟩⟩
        case measure => simp [intOf]; omega
    · have hiR : i = R := by have := hb.out; rwa [bsF_stop _ _ _ _ _ hlt] at this
      subst hiR
      by_cases hin : i < N
      · have hlti : (i : Int) < (N : Int) := by omega
        have hnlt : decide ((i : Int) < (j : Int)) = false := decide_eq_false (by omega)
        obtain ⟨ad, hA, q0, q1, q2⟩ := at_T121 (Kd.C_below hr0.out HB.out) (i : Int) (by omega) (by omega)
        subst hA
        obtain ⟨x, hx⟩ : ∃ x, rd_T121 xs (i : Int) = x := ⟨_, rfl⟩
        rw [hx] at q0 q1 q2
        replace hx := Aside0.mk hx
        simp only [Int.toNat_natCast] at q0 q1 q2
        have hcall := fun W => bsCmp x.f0 x.f1 x.f2 a W
        obtain ⟨s, hs⟩ : ∃ s, wrap64 (x.f0 - a) = s := ⟨_, rfl⟩
        simp only [hs] at hcall
        have hD2 := hD.out
        rw [hx.out, hs] at hD2
        replace hD2 := Aside0.mk hD2
        replace hs := Aside0.mk hs
        go_wp2_with (first | (go_at_call 120; refine (hcall _).mono ?_; rintro e w2 ⟨rfl, hb3⟩))
        go_ret2
        exact ⟨by rw [← hD2.out]; simp [hin]; rfl, below_step HB.out hb3⟩
      · have hnlt : decide ((i : Int) < (j : Int)) = false := decide_eq_false (by omega)
        have hnlt2 : decide ((i : Int) < (N : Int)) = false := decide_eq_false (by omega)
        go_wp2
        go_ret2
        exact ⟨by simp [hin], HB.out⟩
def slices_BinarySearchFunc_faults.f (l0 : List S121) (a1 : Int) : Option (Int × Bool) := if l0.length ≤ 140737488351232 then some (((bsF l0 a1 (l0.length + 1) 0 l0.length : Nat) : Int), decide (bsF l0 a1 (l0.length + 1) 0 l0.length < l0.length) && decide (wrap64 ((rd_T121 l0 ((bsF l0 a1 (l0.length + 1) 0 l0.length : Nat) : Int)).f0 - a1) = 0)) else none
theorem slices_BinarySearchFunc_faults.calls (A0 : Option Addr) (c0 : Nat) (l0 : List S121) (a1 : Int) (r1 : Int) (r2 : Bool) (w : World) (hr0 : Kd.C k121 w A0 l0.length l0) (hc0 : l0.length ≤ c0) (h : slices_BinarySearchFunc_faults.f l0 a1 = some (r1, r2)) :
    Calls Try.prog 119 #[.slice A0 l0.length c0, .int .i64 a1, .func (.func 120) #[] #[]] w fun e w' => e = .returned (.tuple #[.int .i64 r1, .bool r2]) ∧ Below w.heap.size w w' := by
  unfold slices_BinarySearchFunc_faults.f at h
  split at h
  · rename_i hh
    obtain ⟨rfl, rfl⟩ := Prod.mk.inj (Option.some.inj h)
    exact bs_calls A0 c0 l0 a1 w hr0 hh
  · exact absurd h (by simp)


/-! ### drive_fault: function 110 -/
def drive_fault.f (l0_0 : List Int) (l0_1 : List (S121)) (a1 : Int) : Option (Int × Int × Int) := (slices_BinarySearchFunc_faults.f l0_1 a1).bind fun bt111 => (if bt111.2 = true then (if 0 ≤ bt111.1 then (if bt111.1 < (l0_1.length : Int) then (some ((rd_T121 l0_1 bt111.1).f0, (rd_T121 l0_1 bt111.1).f1, (rd_T121 l0_1 bt111.1).f2)) else (none)) else (none)) else (some (0, 0, 0)))
set_option maxHeartbeats 8000000 in
set_option maxRecDepth 100000 in
theorem drive_fault.calls (A0_0 : Option Addr) (c0_0 : Nat) (l0_0 : List Int) (A0_1 : Option Addr) (c0_1 : Nat) (l0_1 : List (S121)) (a1 : Int) (r1 : Int) (r2 : Int) (r3 : Int) (w : World) (hr0_0 : Kd.C (Kd.int .u8) w A0_0 l0_0.length l0_0) (hc0_0 : l0_0.length ≤ c0_0) (hr0_1 : Kd.C k121 w A0_1 l0_1.length l0_1) (hc0_1 : l0_1.length ≤ c0_1) (h : drive_fault.f l0_0 l0_1 a1 = some (r1, r2, r3)) :
    Calls Try.prog 110 #[.agg #[.slice A0_0 l0_0.length c0_0, .slice A0_1 l0_1.length c0_1], .int .i64 a1] w fun e w' => e = .returned (.agg #[.int .i64 r1, .int .i64 r2, .int .i64 r3]) ∧ Below w.heap.size w w' := by
  have hu46 := Try.underlying46
  have hu121 := Try.underlying121
  have HR0_0 := Aside0.mk hr0_0
  have HC0_0 := Aside0.mk hc0_0
  clear hr0_0 hc0_0
  have HR0_1 := Aside0.mk hr0_1
  have HC0_1 := Aside0.mk hc0_1
  clear hr0_1 hc0_1
  have HB := Aside0.mk (Below.refl w.heap.size w)
  have H : ((slices_BinarySearchFunc_faults.f l0_1 a1).bind fun bt111 => (if bt111.2 = true then (if 0 ≤ bt111.1 then (if bt111.1 < (l0_1.length : Int) then (some ((rd_T121 l0_1 bt111.1).f0, (rd_T121 l0_1 bt111.1).f1, (rd_T121 l0_1 bt111.1).f2)) else (none)) else (none)) else (some (0, 0, 0)))) = some (r1, r2, r3) := h
  clear h
  replace H := Option.bind_eq_some_iff.mp H
  obtain ⟨⟨t111, t112⟩, A30, H⟩ := H
  replace H : (if t112 = true then (if 0 ≤ t111 then (if t111 < (l0_1.length : Int) then (some ((rd_T121 l0_1 t111).f0, (rd_T121 l0_1 t111).f1, (rd_T121 l0_1 t111).f2)) else (none)) else (none)) else (some (0, 0, 0))) = some (r1, r2, r3) := H
  have A3 := Aside0.mk A30
  clear A30
  by_cases c4 : t112 = true
  · subst c4
    have H1 : (if 0 ≤ t111 then (if t111 < (l0_1.length : Int) then (some ((rd_T121 l0_1 t111).f0, (rd_T121 l0_1 t111).f1, (rd_T121 l0_1 t111).f2)) else (none)) else (none)) = some (r1, r2, r3) := by rw [if_pos rfl] at H; exact H
    clear H
    have H := H1
    clear H1
    by_cases c5 : 0 ≤ t111
    · rw [if_pos c5] at H
      have c5b0 : decide (0 ≤ t111) = true := decide_eq_true c5
      clear c5
      by_cases c6 : t111 < (l0_1.length : Int)
      · rw [if_pos c6] at H
        have c6b0 : decide (t111 < (l0_1.length : Int)) = true := decide_eq_true c6
        clear c6
        simp only [Option.some.injEq, Prod.mk.injEq] at H
        obtain ⟨rfl, rfl, rfl⟩ := H
        go_enter Try.func110, Try.ntmps110
        go_wp2_with (first | ((with_reducible refine gate_dst (N := 2) rfl ?_); refine box_event ?hg (N := 2) ?hd (cs := #[.slice A0_0 l0_0.length c0_0, .slice A0_1 l0_1.length c0_1]) (t := 46) ?hr ?_; (case hd => rfl); (case hg => rfl); (case hr => first | (go_simp; done) | (go_simp; rfl)); intro gb109 hg w7 hbox hb; have n0_ := Aside0.mk (below_step (by repeat (first | (with_reducible first | exact HB.out | apply below_alloc | apply pw_below_drewN | apply below_drew1) | exact HB.out)) hb); have n1_ := Aside0.mk (hbox); have n2_ := Aside0.mk ((by rw [hg]; exact (below_size (by repeat (first | (with_reducible first | exact HB.out | apply below_alloc | apply pw_below_drewN | apply below_drew1) | exact HB.out))) : w.heap.size ≤ gb109)); have n3_ := Aside0.mk ((by rw [hg]; exact (below_size (by repeat (first | (with_reducible first | exact HB.out | apply below_alloc | apply pw_below_drewN | apply below_drew1) | exact HB.out))) : w.heap.size ≤ gb109)); clear HB; have HB := n0_; have BK109 := n1_; have GW109 := n2_; have GE109 := n3_; clear n0_ n1_ n2_ n3_; clear hb hbox hg) | ((with_reducible refine gate_dst (N := 4) rfl ?_); refine box_event ?hg (N := 4) ?hd (cs := #[.int .i64 0, .int .i64 0, .int .i64 0]) (t := 121) ?hr ?_; (case hd => rfl); (case hg => rfl); (case hr => first | (go_simp; done) | (go_simp; rfl)); intro gb110 hg w8 hbox hb; have n0_ := Aside0.mk (blk_below (g := gb109) (o := .cells #[.slice A0_0 l0_0.length c0_0, .slice A0_1 l0_1.length c0_1] 46 (0, 0)) (by (with_reducible repeat (first | refine blk_drewN ?_ _ | refine blk_drew ?_ | refine blk_alloc ?_ _)); exact BK109.out) hb); have n1_ := Aside0.mk (below_step (by repeat (first | (with_reducible first | exact HB.out | apply below_alloc | apply pw_below_drewN | apply below_drew1 | refine below_set ?_ GE109.out) | exact HB.out)) hb); have n2_ := Aside0.mk (hbox); have n3_ := Aside0.mk ((by rw [hg]; exact (below_size (by repeat (first | (with_reducible first | exact HB.out | apply below_alloc | apply pw_below_drewN | apply below_drew1 | refine below_set ?_ GE109.out) | exact HB.out))) : w.heap.size ≤ gb110)); have n4_ := Aside0.mk ((by rw [hg]; exact (below_size (by repeat (first | (with_reducible first | exact HB.out | apply below_alloc | apply pw_below_drewN | apply below_drew1 | refine below_set ?_ GE109.out) | exact HB.out))) : w.heap.size ≤ gb110)); have n5_ := Aside0.mk ((by rw [hg]; exact Nat.ne_of_lt (blk_lt (g := gb109) (o := .cells #[.slice A0_0 l0_0.length c0_0, .slice A0_1 l0_1.length c0_1] 46 (0, 0)) (by (with_reducible repeat (first | refine blk_drewN ?_ _ | refine blk_drew ?_ | refine blk_alloc ?_ _)); exact BK109.out)) : gb109 ≠ gb110)); have n6_ := Aside0.mk ((by rw [hg]; exact Nat.ne_of_gt (blk_lt (g := gb109) (o := .cells #[.slice A0_0 l0_0.length c0_0, .slice A0_1 l0_1.length c0_1] 46 (0, 0)) (by (with_reducible repeat (first | refine blk_drewN ?_ _ | refine blk_drew ?_ | refine blk_alloc ?_ _)); exact BK109.out)) : gb110 ≠ gb109)); clear BK109; clear HB; have BK109 := n0_; have HB := n1_; have BK110 := n2_; have GW110 := n3_; have GE110 := n4_; have NB109_110 := n5_; have NB110_109 := n6_; clear n0_ n1_ n2_ n3_ n4_ n5_ n6_; clear hb hbox hg; have hnb9 := NB109_110.out; have hnc9 := NB110_109.out; have hcz10_0 : w8.cell? ⟨gb109, 0, none⟩ = some (.slice A0_0 l0_0.length c0_0) := (blk_cell BK109.out 0).trans rfl; have hcz10_1 : w8.cell? ⟨gb109, 1, none⟩ = some (.slice A0_1 l0_1.length c0_1) := (blk_cell BK109.out 1).trans rfl; have hfz10_0 := blk_frozen BK109.out 0; have hfz10_1 := blk_frozen BK109.out 1) | ((with_reducible refine gate_callee (f := 119) rfl ?_); refine goesL_ (some 11) rfl rfl Try.func119 (by kernel_rfl) rfl #[.slice A0_1 l0_1.length c0_1, .int .i64 a1, .func (.func 120) #[] #[]] rfl (by (try simp only [List.map_toArray, List.map_cons, List.map_nil]); first | done | rfl | (simp only [List.length_drop, List.length_take]; rfl)) ?_; (with_reducible refine (slices_BinarySearchFunc_faults.calls _ _ l0_1 a1 t111 true _ ?side1 ?side2 A3.out).mono ?_); (case side1 => repeat (first | exact (Kd.C_below HR0_1.out HB.out) | (with_reducible refine Kd.C_alloc ?_ _) | (with_reducible refine Kd.C_drewN ?_ _) | (with_reducible refine Kd.C_drew ?_))); (case side2 => exact HC0_1.out); rintro e w11 ⟨rfl, hb⟩; refine ⟨_, rfl, ?_⟩; have n0_ := Aside0.mk (blk_below (g := gb109) (o := .cells #[.slice A0_0 l0_0.length c0_0, .slice A0_1 l0_1.length c0_1] 46 (0, 0)) (by (with_reducible repeat (first | refine blk_drewN ?_ _ | refine blk_drew ?_ | refine blk_alloc ?_ _)); exact BK109.out) hb); have n1_ := Aside0.mk (blk_below (g := gb110) (o := .cells #[.int .i64 0, .int .i64 0, .int .i64 0] 121 (0, 0)) (by (with_reducible repeat (first | refine blk_drewN ?_ _ | refine blk_drew ?_ | refine blk_alloc ?_ _)); exact BK110.out) hb); have n2_ := Aside0.mk (below_step (by repeat (first | (with_reducible first | exact HB.out | apply below_alloc | apply pw_below_drewN | apply below_drew1 | refine below_set ?_ GE109.out | refine below_set ?_ GE110.out) | exact HB.out)) hb); clear BK109; clear BK110; clear HB; have BK109 := n0_; have BK110 := n1_; have HB := n2_; clear n0_ n1_ n2_; (try clear hb); (try clear hb2); (try clear hk); (try clear hi); have hcz12_0 : w11.cell? ⟨gb109, 0, none⟩ = some (.slice A0_0 l0_0.length c0_0) := (blk_cell BK109.out 0).trans rfl; have hcz12_1 : w11.cell? ⟨gb109, 1, none⟩ = some (.slice A0_1 l0_1.length c0_1) := (blk_cell BK109.out 1).trans rfl; have hfz12_0 := blk_frozen BK109.out 0; have hfz12_1 := blk_frozen BK109.out 1; have p113 : 0 ≤ (t111 : Int) := of_decide_eq_true (by first | (with_reducible assumption) | assumption); have q113 : t111 < (l0_1.length : Int) := of_decide_eq_true (by first | (with_reducible assumption) | assumption); obtain ⟨ad113, e113, hx113_0, hx113_1, hx113_2⟩ := at_T121 HR0_1.out t111 p113 q113; cases e113; replace hx113_0 := (HB.out.cell (World.block_lt_of_cell? w _ hx113_0)).trans hx113_0; replace hx113_1 := (HB.out.cell (World.block_lt_of_cell? w _ hx113_1)).trans hx113_1; replace hx113_2 := (HB.out.cell (World.block_lt_of_cell? w _ hx113_2)).trans hx113_2; replace p113 := eq_true p113; replace q113 := eq_true q113; have hcz13_0 : w11.cell? ⟨gb110, 0, none⟩ = some (.int .i64 0) := (blk_cell BK110.out 0).trans rfl; have hcz13_1 : w11.cell? ⟨gb110, 1, none⟩ = some (.int .i64 0) := (blk_cell BK110.out 1).trans rfl; have hcz13_2 : w11.cell? ⟨gb110, 2, none⟩ = some (.int .i64 0) := (blk_cell BK110.out 2).trans rfl; have hfz13_0 := blk_frozen BK110.out 0; have hfz13_1 := blk_frozen BK110.out 1; have hfz13_2 := blk_frozen BK110.out 2))
        refine bodyPost_ret (results_cell_row rfl _ _ gb110 121 #[.int .i64 ((rd_T121 l0_1 t111).f0), .int .i64 ((rd_T121 l0_1 t111).f1), .int .i64 ((rd_T121 l0_1 t111).f2)] (0, 0) _ rfl (by (with_reducible repeat (first | refine blk_drewN ?_ _ | refine blk_drew ?_ | refine blk_alloc ?_ _)); refine blk_put (cs := #[.int .i64 ((rd_T121 l0_1 t111).f0), .int .i64 ((rd_T121 l0_1 t111).f1), .int .i64 0]) ?_ 2 _ rfl; (with_reducible repeat (first | refine blk_drewN ?_ _ | refine blk_drew ?_ | refine blk_alloc ?_ _)); refine blk_put (cs := #[.int .i64 ((rd_T121 l0_1 t111).f0), .int .i64 0, .int .i64 0]) ?_ 1 _ rfl; (with_reducible repeat (first | refine blk_drewN ?_ _ | refine blk_drew ?_ | refine blk_alloc ?_ _)); refine blk_put (cs := #[.int .i64 0, .int .i64 0, .int .i64 0]) ?_ 0 _ rfl; (with_reducible repeat (first | refine blk_drewN ?_ _ | refine blk_drew ?_ | refine blk_alloc ?_ _)); exact BK110.out) Try.underlying121 rfl (by kernel_rfl)) rfl ?_
        exact ⟨by first | rfl | (simp [errW_none, errW_some] <;> rfl) | (simp [*, errW_none, errW_some] <;> rfl), by repeat (first | (with_reducible first | exact HB.out | apply below_alloc | apply pw_below_drewN | apply below_drew1 | refine below_set ?_ GE109.out | refine below_set ?_ GE110.out) | exact HB.out)⟩
      · rw [if_neg c6] at H
        exact absurd H (by simp)
    · rw [if_neg c5] at H
      exact absurd H (by simp)
  · replace c4 := Bool.eq_false_iff.mpr c4
    subst c4
    have H1 : (some (0, 0, 0)) = some (r1, r2, r3) := by rw [if_neg (show ¬ (false = true) by decide)] at H; exact H
    clear H
    have H := H1
    clear H1
    simp only [Option.some.injEq, Prod.mk.injEq] at H
    obtain ⟨rfl, rfl, rfl⟩ := H
    go_enter Try.func110, Try.ntmps110
    go_wp2_with (first | ((with_reducible refine gate_dst (N := 2) rfl ?_); refine box_event ?hg (N := 2) ?hd (cs := #[.slice A0_0 l0_0.length c0_0, .slice A0_1 l0_1.length c0_1]) (t := 46) ?hr ?_; (case hd => rfl); (case hg => rfl); (case hr => first | (go_simp; done) | (go_simp; rfl)); intro gb109 hg w14 hbox hb; have n0_ := Aside0.mk (below_step (by repeat (first | (with_reducible first | exact HB.out | apply below_alloc | apply pw_below_drewN | apply below_drew1) | exact HB.out)) hb); have n1_ := Aside0.mk (hbox); have n2_ := Aside0.mk ((by rw [hg]; exact (below_size (by repeat (first | (with_reducible first | exact HB.out | apply below_alloc | apply pw_below_drewN | apply below_drew1) | exact HB.out))) : w.heap.size ≤ gb109)); have n3_ := Aside0.mk ((by rw [hg]; exact (below_size (by repeat (first | (with_reducible first | exact HB.out | apply below_alloc | apply pw_below_drewN | apply below_drew1) | exact HB.out))) : w.heap.size ≤ gb109)); clear HB; have HB := n0_; have BK109 := n1_; have GW109 := n2_; have GE109 := n3_; clear n0_ n1_ n2_ n3_; clear hb hbox hg) | ((with_reducible refine gate_dst (N := 4) rfl ?_); refine box_event ?hg (N := 4) ?hd (cs := #[.int .i64 0, .int .i64 0, .int .i64 0]) (t := 121) ?hr ?_; (case hd => rfl); (case hg => rfl); (case hr => first | (go_simp; done) | (go_simp; rfl)); intro gb110 hg w15 hbox hb; have n0_ := Aside0.mk (blk_below (g := gb109) (o := .cells #[.slice A0_0 l0_0.length c0_0, .slice A0_1 l0_1.length c0_1] 46 (0, 0)) (by (with_reducible repeat (first | refine blk_drewN ?_ _ | refine blk_drew ?_ | refine blk_alloc ?_ _)); exact BK109.out) hb); have n1_ := Aside0.mk (below_step (by repeat (first | (with_reducible first | exact HB.out | apply below_alloc | apply pw_below_drewN | apply below_drew1 | refine below_set ?_ GE109.out) | exact HB.out)) hb); have n2_ := Aside0.mk (hbox); have n3_ := Aside0.mk ((by rw [hg]; exact (below_size (by repeat (first | (with_reducible first | exact HB.out | apply below_alloc | apply pw_below_drewN | apply below_drew1 | refine below_set ?_ GE109.out) | exact HB.out))) : w.heap.size ≤ gb110)); have n4_ := Aside0.mk ((by rw [hg]; exact (below_size (by repeat (first | (with_reducible first | exact HB.out | apply below_alloc | apply pw_below_drewN | apply below_drew1 | refine below_set ?_ GE109.out) | exact HB.out))) : w.heap.size ≤ gb110)); have n5_ := Aside0.mk ((by rw [hg]; exact Nat.ne_of_lt (blk_lt (g := gb109) (o := .cells #[.slice A0_0 l0_0.length c0_0, .slice A0_1 l0_1.length c0_1] 46 (0, 0)) (by (with_reducible repeat (first | refine blk_drewN ?_ _ | refine blk_drew ?_ | refine blk_alloc ?_ _)); exact BK109.out)) : gb109 ≠ gb110)); have n6_ := Aside0.mk ((by rw [hg]; exact Nat.ne_of_gt (blk_lt (g := gb109) (o := .cells #[.slice A0_0 l0_0.length c0_0, .slice A0_1 l0_1.length c0_1] 46 (0, 0)) (by (with_reducible repeat (first | refine blk_drewN ?_ _ | refine blk_drew ?_ | refine blk_alloc ?_ _)); exact BK109.out)) : gb110 ≠ gb109)); clear BK109; clear HB; have BK109 := n0_; have HB := n1_; have BK110 := n2_; have GW110 := n3_; have GE110 := n4_; have NB109_110 := n5_; have NB110_109 := n6_; clear n0_ n1_ n2_ n3_ n4_ n5_ n6_; clear hb hbox hg; have hnb16 := NB109_110.out; have hnc16 := NB110_109.out; have hcz17_0 : w15.cell? ⟨gb109, 0, none⟩ = some (.slice A0_0 l0_0.length c0_0) := (blk_cell BK109.out 0).trans rfl; have hcz17_1 : w15.cell? ⟨gb109, 1, none⟩ = some (.slice A0_1 l0_1.length c0_1) := (blk_cell BK109.out 1).trans rfl; have hfz17_0 := blk_frozen BK109.out 0; have hfz17_1 := blk_frozen BK109.out 1) | ((with_reducible refine gate_callee (f := 119) rfl ?_); refine goesL_ (some 11) rfl rfl Try.func119 (by kernel_rfl) rfl #[.slice A0_1 l0_1.length c0_1, .int .i64 a1, .func (.func 120) #[] #[]] rfl (by (try simp only [List.map_toArray, List.map_cons, List.map_nil]); first | done | rfl | (simp only [List.length_drop, List.length_take]; rfl)) ?_; (with_reducible refine (slices_BinarySearchFunc_faults.calls _ _ l0_1 a1 t111 false _ ?side1 ?side2 A3.out).mono ?_); (case side1 => repeat (first | exact (Kd.C_below HR0_1.out HB.out) | (with_reducible refine Kd.C_alloc ?_ _) | (with_reducible refine Kd.C_drewN ?_ _) | (with_reducible refine Kd.C_drew ?_))); (case side2 => exact HC0_1.out); rintro e w18 ⟨rfl, hb⟩; refine ⟨_, rfl, ?_⟩; have n0_ := Aside0.mk (blk_below (g := gb109) (o := .cells #[.slice A0_0 l0_0.length c0_0, .slice A0_1 l0_1.length c0_1] 46 (0, 0)) (by (with_reducible repeat (first | refine blk_drewN ?_ _ | refine blk_drew ?_ | refine blk_alloc ?_ _)); exact BK109.out) hb); have n1_ := Aside0.mk (blk_below (g := gb110) (o := .cells #[.int .i64 0, .int .i64 0, .int .i64 0] 121 (0, 0)) (by (with_reducible repeat (first | refine blk_drewN ?_ _ | refine blk_drew ?_ | refine blk_alloc ?_ _)); exact BK110.out) hb); have n2_ := Aside0.mk (below_step (by repeat (first | (with_reducible first | exact HB.out | apply below_alloc | apply pw_below_drewN | apply below_drew1 | refine below_set ?_ GE109.out | refine below_set ?_ GE110.out) | exact HB.out)) hb); clear BK109; clear BK110; clear HB; have BK109 := n0_; have BK110 := n1_; have HB := n2_; clear n0_ n1_ n2_; (try clear hb); (try clear hb2); (try clear hk); (try clear hi); have hcz19_0 : w18.cell? ⟨gb110, 0, none⟩ = some (.int .i64 0) := (blk_cell BK110.out 0).trans rfl; have hcz19_1 : w18.cell? ⟨gb110, 1, none⟩ = some (.int .i64 0) := (blk_cell BK110.out 1).trans rfl; have hcz19_2 : w18.cell? ⟨gb110, 2, none⟩ = some (.int .i64 0) := (blk_cell BK110.out 2).trans rfl; have hfz19_0 := blk_frozen BK110.out 0; have hfz19_1 := blk_frozen BK110.out 1; have hfz19_2 := blk_frozen BK110.out 2))
    refine bodyPost_ret (results_cell_row rfl _ _ gb110 121 #[.int .i64 0, .int .i64 0, .int .i64 0] (0, 0) _ rfl (by (with_reducible repeat (first | refine blk_drewN ?_ _ | refine blk_drew ?_ | refine blk_alloc ?_ _)); refine blk_put (cs := #[.int .i64 0, .int .i64 0, .int .i64 0]) ?_ 2 _ rfl; (with_reducible repeat (first | refine blk_drewN ?_ _ | refine blk_drew ?_ | refine blk_alloc ?_ _)); refine blk_put (cs := #[.int .i64 0, .int .i64 0, .int .i64 0]) ?_ 1 _ rfl; (with_reducible repeat (first | refine blk_drewN ?_ _ | refine blk_drew ?_ | refine blk_alloc ?_ _)); refine blk_put (cs := #[.int .i64 0, .int .i64 0, .int .i64 0]) ?_ 0 _ rfl; (with_reducible repeat (first | refine blk_drewN ?_ _ | refine blk_drew ?_ | refine blk_alloc ?_ _)); exact BK110.out) Try.underlying121 rfl (by kernel_rfl)) rfl ?_
    exact ⟨by first | rfl | (simp [errW_none, errW_some] <;> rfl) | (simp [*, errW_none, errW_some] <;> rfl), by repeat (first | (with_reducible first | exact HB.out | apply below_alloc | apply pw_below_drewN | apply below_drew1 | refine below_set ?_ GE109.out | refine below_set ?_ GE110.out) | exact HB.out)⟩

/-- the bytes of a block, in the row that came in; the time; the error -/
def ansV (A : Option Addr) (c : Nat) (block : Int) (bad : Bool) : Value := if bad = true then .slice none 0 0 else .slice (if c = (block * 64).toNat then A else A.map (·.add ((block * 64).toNat * 1))) 64 (c - (block * 64).toNat)
def ansBad (f1 f2 try_ : Int) : Bool := f1 == 1 || (f1 == 2 && decide (try_ < f2))
def ansTime (f1 f2 : Int) : Int := if f1 = 3 then f2 else 1
set_option maxHeartbeats 8000000 in
set_option maxRecDepth 100000 in
theorem answer_walk (A0 : Option Addr) (c0 : Nat) (l0 : List Int) (A1 : Option Addr) (c1 : Nat) (l1 : List S121) (block try_ f0 f1 f2 : Int) (w : World) (hr0 : Kd.C (Kd.int .u8) w A0 l0.length l0) (hc0 : l0.length ≤ c0) (hr1 : Kd.C k121 w A1 l1.length l1) (hc1 : l1.length ≤ c1)
    (hf : drive_fault.f l0 l1 block = some (f0, f1, f2)) (h0 : 0 ≤ block) (h1 : (block + 1) * 64 ≤ l0.length) (hl : l0.length ≤ 140737488351232) (b3 b1 b2 bt : Bool) (e3 : (f1 == 3) = b3) (e1 : (f1 == 1) = b1) (e2 : (f1 == 2) = b2) (et : decide (try_ < f2) = bt) :
    Calls Try.prog 81 #[.agg #[.slice A0 l0.length c0, .slice A1 l1.length c1], .int .i64 block, .int .i64 try_] w fun e w' => e = .returned (.tuple #[ansV A0 c0 block (b1 || (b2 && bt)), .int .i64 (if b3 = true then f2 else 1), .int .i64 (if (b1 || (b2 && bt)) = true then 19 else 0)]) ∧ Below w.heap.size w w' := by
  have hu46 := Try.underlying46
  have hu121 := Try.underlying121
  obtain ⟨i5, hi5, hz0, hz1, hz2⟩ := info_parts info5
  obtain ⟨lo, hlo⟩ : ∃ lo : Nat, (lo : Int) = block * 64 := ⟨(block * 64).toNat, by omega⟩
  have hcut := cut_mid (P := Try.prog) 22 5 .i64 .i64 Try.underlying22 hi5 1 hz1 A0 l0.length c0 (block * 64) ((block + 1) * 64) (by omega) (by omega) (by omega) hc0
  have hlen : ((block + 1) * 64).toNat - (block * 64).toNat = 64 := by omega
  rw [hlen] at hcut
  have hm1 : IntKind.i64.wrap (block * 64) = block * 64 := by rw [i64_w]; unfold wrap64; omega
  have hm2 : IntKind.i64.wrap (block + 1) = block + 1 := by rw [i64_w]; unfold wrap64; omega
  have hm3 : IntKind.i64.wrap ((block + 1) * 64) = (block + 1) * 64 := by rw [i64_w]; unfold wrap64; omega
  clear hlo hlen
  obtain ⟨V, hV⟩ : ∃ V, (.slice (if c0 = (block * 64).toNat then A0 else A0.map (·.add ((block * 64).toNat * 1))) 64 (c0 - (block * 64).toNat) : Value) = V := ⟨_, rfl⟩
  rw [hV] at hcut
  have hV2 : ∀ b, ansV A0 c0 block b = if b = true then .slice none 0 0 else V := fun b => by unfold ansV; rw [hV]
  rw [hV2]
  replace hV := Aside0.mk hV
  clear hV2
  have HR0 := Aside0.mk hr0
  have HR1 := Aside0.mk hr1
  have HC0 := Aside0.mk hc0
  have HC1 := Aside0.mk hc1
  have HF := Aside0.mk hf
  clear hr0 hr1 hc0 hc1 hf h1 hl
  have HB := Aside0.mk (Below.refl w.heap.size w)
  cases b3 <;> cases b1 <;> cases b2 <;> cases bt
  all_goals first | (exfalso; simp only [beq_iff_eq] at e3 e1 e2; omega) | skip
  all_goals
    go_enter Try.func81, Try.ntmps81
    go_wp2_with (first
      | ((with_reducible refine gate_dst (N := 3) rfl ?_); refine box_event ?hg (N := 3) ?hd (cs := #[.slice A0 l0.length c0, .slice A1 l1.length c1]) (t := 46) ?hr ?_; (case hd => rfl); (case hg => rfl); (case hr => first | (go_simp; done) | (go_simp; rfl)); intro gb hg w1 hbox hb; have HB1 := Aside0.mk (below_step HB.out hb); have BK := Aside0.mk hbox; have GW := Aside0.mk (show w.heap.size ≤ gb by rw [hg]; exact Nat.le_refl _); clear hg hb hbox HB; have HB := HB1; clear HB1; have hcz0 : w1.cell? ⟨gb, 0, none⟩ = some (.slice A0 l0.length c0) := (blk_cell BK.out 0).trans rfl; have hcz1 : w1.cell? ⟨gb, 1, none⟩ = some (.slice A1 l1.length c1) := (blk_cell BK.out 1).trans rfl)
      | (go_at_call 110; refine (drive_fault.calls A0 c0 l0 A1 c1 l1 block f0 f1 f2 _ (Kd.C_below HR0.out HB.out) HC0.out (Kd.C_below HR1.out HB.out) HC1.out HF.out).mono ?_; rintro e w2 ⟨rfl, hb⟩; have HB1 := Aside0.mk (below_step HB.out hb); have BK1 := Aside0.mk (blk_below BK.out hb); clear hb HB BK hcz0 hcz1; have HB := HB1; have BK := BK1; clear HB1 BK1; have hcz0 : w2.cell? ⟨gb, 0, none⟩ = some (.slice A0 l0.length c0) := (blk_cell BK.out 0).trans rfl; have hlt0 : gb < w2.heap.size := blk_lt BK.out; have hcz2 := fun (o : Obj) => pw_cell_below (below_alloc (Below.refl w2.heap.size w2) o) hcz0))
    refine bodyPost_ret (results_tmp3 rfl _ _ _) rfl ?_
    exact ⟨rfl, by repeat (first | exact HB.out | apply below_alloc)⟩
/-- what an attempt gives -/
def ansOf (l0 : List Int) (l1 : List S121) (a1 a2 : Int) : Option (List Int × Int × Int) :=
  (drive_fault.f l0 l1 a1).bind fun g => some (if ansBad g.2.1 g.2.2 a2 = true then [] else (l0.take ((a1 + 1) * 64).toNat).drop (a1 * 64).toNat, ansTime g.2.1 g.2.2, if ansBad g.2.1 g.2.2 a2 = true then 19 else 0)
def drive_Answer.f (k : Nat) (l0 : List Int) (l1 : List S121) (a1 a2 : Int) : Option (List Int × Int × Int) :=
  (drive_Check.f k l0 l1).bind fun e => if l0.length ≤ 140737488351232 then (if e = 0 then (if a1 < 0 then some ([], 0, 4) else (if a1 ≥ (l0.length : Int) / 64 then some ([], 0, 4) else (if a2 < 1 then some ([], 0, 1) else ansOf l0 l1 a1 a2))) else some ([], 0, e)) else none
theorem drive_Answer.mono : ∀ a0 a1 a2 a3 k, LeO (drive_Answer.f k a0 a1 a2 a3) (drive_Answer.f (k + 1) a0 a1 a2 a3) := by
  intro a0 a1 a2 a3 k
  unfold drive_Answer.f
  exact LeO.bind (drive_Check.mono _ _ _) (fun _ => LeO.refl _)
set_option maxHeartbeats 8000000 in
set_option maxRecDepth 100000 in
theorem drive_Answer.calls (k : Nat) (A0 : Option Addr) (c0 : Nat) (l0 : List Int) (A1 : Option Addr) (c1 : Nat) (l1 : List S121) (a1 a2 : Int) (r1 : List Int) (r2 r3 : Int) (w : World) (hr0 : Kd.C (Kd.int .u8) w A0 l0.length l0) (hc0 : l0.length ≤ c0) (hr1 : Kd.C k121 w A1 l1.length l1) (hc1 : l1.length ≤ c1) (h : drive_Answer.f k l0 l1 a1 a2 = some (r1, r2, r3)) :
    Calls Try.prog 29 #[.agg #[.slice A0 l0.length c0, .slice A1 l1.length c1], .int .i64 a1, .int .i64 a2] w fun e w' => ∃ v0_ : Value, e = .returned (.tuple #[v0_, .int .i64 r2, .int .i64 r3]) ∧ Kd.R (Kd.int .u8) 5 w' w.heap.size (fun _ => True) v0_ r1 ∧ Below w.heap.size w w' := by
  have hu46 := Try.underlying46
  unfold drive_Answer.f at h
  obtain ⟨e, he, h⟩ := Option.bind_eq_some_iff.mp h
  split at h
  case isFalse => exact absurd h (by simp)
  rename_i hlen
  have HR0 := Aside0.mk hr0
  have HR1 := Aside0.mk hr1
  have HC0 := Aside0.mk hc0
  have HC1 := Aside0.mk hc1
  have HE := Aside0.mk he
  clear hr0 hr1 hc0 hc1 he
  have HB := Aside0.mk (Below.refl w.heap.size w)
  have hq : Int.tdiv (l0.length : Int) 64 = (l0.length : Int) / 64 := Int.tdiv_eq_ediv_of_nonneg (by omega)
  have hq2 : IntKind.i64.wrap ((l0.length : Int) / 64) = (l0.length : Int) / 64 := by rw [i64_w]; unfold wrap64; omega
  by_cases h0 : e = 0
  · subst h0
    rw [if_pos rfl] at h
    by_cases hneg : a1 < 0
    · rw [if_pos hneg] at h
      simp only [Option.some.injEq, Prod.mk.injEq] at h
      obtain ⟨rfl, rfl, rfl⟩ := h
      have hn := decide_eq_true hneg
      go_enter Try.func29, Try.ntmps29
      go_wp2_with (first
        | ((with_reducible refine gate_dst (N := 3) rfl ?_); refine box_event ?hg (N := 3) ?hd (cs := #[.slice A0 l0.length c0, .slice A1 l1.length c1]) (t := 46) ?hr ?_; (case hd => rfl); (case hg => rfl); (case hr => first | (go_simp; done) | (go_simp; rfl)); intro gb hg w1 hbox hb; have HB1 := Aside0.mk (below_step HB.out hb); have BK := Aside0.mk hbox; clear hg hb hbox HB; have HB := HB1; clear HB1; have hcz0 : w1.cell? ⟨gb, 0, none⟩ = some (.slice A0 l0.length c0) := (blk_cell BK.out 0).trans rfl; have hcz1 : w1.cell? ⟨gb, 1, none⟩ = some (.slice A1 l1.length c1) := (blk_cell BK.out 1).trans rfl)
        | (go_at_call 32; refine (drive_Check.calls k A0 c0 l0 A1 c1 l1 0 _ (Kd.C_below HR0.out HB.out) HC0.out (Kd.C_below HR1.out HB.out) HC1.out HE.out).mono ?_; rintro e w2 ⟨rfl, hb⟩; have HB1 := Aside0.mk (below_step HB.out hb); have BK1 := Aside0.mk (blk_below BK.out hb); clear hb HB BK hcz0 hcz1; have HB := HB1; have BK := BK1; clear HB1 BK1; have hcz0 : w2.cell? ⟨gb, 0, none⟩ = some (.slice A0 l0.length c0) := (blk_cell BK.out 0).trans rfl; have hcz1 : w2.cell? ⟨gb, 1, none⟩ = some (.slice A1 l1.length c1) := (blk_cell BK.out 1).trans rfl))
      refine bodyPost_ret (results_tmp3 rfl _ _ _) rfl ?_
      exact ⟨_, rfl, Kd.R_nil _ _ _ _ _, HB.out⟩
    · rw [if_neg hneg] at h
      have hn := decide_eq_false hneg
      by_cases hge : a1 ≥ (l0.length : Int) / 64
      · rw [if_pos hge] at h
        simp only [Option.some.injEq, Prod.mk.injEq] at h
        obtain ⟨rfl, rfl, rfl⟩ := h
        have hg1 : decide ((l0.length : Int) / 64 ≤ a1) = true := decide_eq_true hge
        go_enter Try.func29, Try.ntmps29
        go_wp2_with (first
          | ((with_reducible refine gate_dst (N := 3) rfl ?_); refine box_event ?hg (N := 3) ?hd (cs := #[.slice A0 l0.length c0, .slice A1 l1.length c1]) (t := 46) ?hr ?_; (case hd => rfl); (case hg => rfl); (case hr => first | (go_simp; done) | (go_simp; rfl)); intro gb hg w1 hbox hb; have HB1 := Aside0.mk (below_step HB.out hb); have BK := Aside0.mk hbox; clear hg hb hbox HB; have HB := HB1; clear HB1; have hcz0 : w1.cell? ⟨gb, 0, none⟩ = some (.slice A0 l0.length c0) := (blk_cell BK.out 0).trans rfl; have hcz1 : w1.cell? ⟨gb, 1, none⟩ = some (.slice A1 l1.length c1) := (blk_cell BK.out 1).trans rfl)
          | (go_at_call 32; refine (drive_Check.calls k A0 c0 l0 A1 c1 l1 0 _ (Kd.C_below HR0.out HB.out) HC0.out (Kd.C_below HR1.out HB.out) HC1.out HE.out).mono ?_; rintro e w2 ⟨rfl, hb⟩; have HB1 := Aside0.mk (below_step HB.out hb); have BK1 := Aside0.mk (blk_below BK.out hb); clear hb HB BK hcz0 hcz1; have HB := HB1; have BK := BK1; clear HB1 BK1; have hcz0 : w2.cell? ⟨gb, 0, none⟩ = some (.slice A0 l0.length c0) := (blk_cell BK.out 0).trans rfl; have hcz1 : w2.cell? ⟨gb, 1, none⟩ = some (.slice A1 l1.length c1) := (blk_cell BK.out 1).trans rfl))
        refine bodyPost_ret (results_tmp3 rfl _ _ _) rfl ?_
        exact ⟨_, rfl, Kd.R_nil _ _ _ _ _, HB.out⟩
      · rw [if_neg hge] at h
        have hg1 : decide ((l0.length : Int) / 64 ≤ a1) = false := decide_eq_false hge
        by_cases ht : a2 < 1
        · rw [if_pos ht] at h
          simp only [Option.some.injEq, Prod.mk.injEq] at h
          obtain ⟨rfl, rfl, rfl⟩ := h
          have ht1 := decide_eq_true ht
          go_enter Try.func29, Try.ntmps29
          go_wp2_with (first
            | ((with_reducible refine gate_dst (N := 3) rfl ?_); refine box_event ?hg (N := 3) ?hd (cs := #[.slice A0 l0.length c0, .slice A1 l1.length c1]) (t := 46) ?hr ?_; (case hd => rfl); (case hg => rfl); (case hr => first | (go_simp; done) | (go_simp; rfl)); intro gb hg w1 hbox hb; have HB1 := Aside0.mk (below_step HB.out hb); have BK := Aside0.mk hbox; clear hg hb hbox HB; have HB := HB1; clear HB1; have hcz0 : w1.cell? ⟨gb, 0, none⟩ = some (.slice A0 l0.length c0) := (blk_cell BK.out 0).trans rfl; have hcz1 : w1.cell? ⟨gb, 1, none⟩ = some (.slice A1 l1.length c1) := (blk_cell BK.out 1).trans rfl)
            | (go_at_call 32; refine (drive_Check.calls k A0 c0 l0 A1 c1 l1 0 _ (Kd.C_below HR0.out HB.out) HC0.out (Kd.C_below HR1.out HB.out) HC1.out HE.out).mono ?_; rintro e w2 ⟨rfl, hb⟩; have HB1 := Aside0.mk (below_step HB.out hb); have BK1 := Aside0.mk (blk_below BK.out hb); clear hb HB BK hcz0 hcz1; have HB := HB1; have BK := BK1; clear HB1 BK1; have hcz0 : w2.cell? ⟨gb, 0, none⟩ = some (.slice A0 l0.length c0) := (blk_cell BK.out 0).trans rfl; have hcz1 : w2.cell? ⟨gb, 1, none⟩ = some (.slice A1 l1.length c1) := (blk_cell BK.out 1).trans rfl))
          refine bodyPost_ret (results_tmp3 rfl _ _ _) rfl ?_
          exact ⟨_, rfl, Kd.R_nil _ _ _ _ _, HB.out⟩
        · rw [if_neg ht] at h
          have ht1 := decide_eq_false ht
          unfold ansOf at h
          obtain ⟨⟨f0, f1, f2⟩, hf, h⟩ := Option.bind_eq_some_iff.mp h
          simp only [Option.some.injEq, Prod.mk.injEq] at h
          obtain ⟨h1, h2, h3⟩ := h
          have hwalk := fun W (q0 : Kd.C (Kd.int .u8) W A0 l0.length l0) (q1 : Kd.C k121 W A1 l1.length l1) => answer_walk A0 c0 l0 A1 c1 l1 a1 a2 f0 f1 f2 W q0 HC0.out q1 HC1.out hf (by omega) (by omega) hlen _ _ _ _ rfl rfl rfl rfl
          have hbad : (f1 == 1 || (f1 == 2 && decide (a2 < f2))) = ansBad f1 f2 a2 := rfl
          have htime : (if (f1 == 3) = true then f2 else 1) = ansTime f1 f2 := by
            unfold ansTime
            by_cases h : f1 = 3 <;> simp [h]
          simp only [hbad, htime, h2, h3] at hwalk
          have hV : ∀ W : World, Kd.C (Kd.int .u8) W A0 l0.length l0 → ∃ A c, ansV A0 c0 a1 (ansBad f1 f2 a2) = .slice A r1.length c ∧ r1.length ≤ c ∧ r1.length ≤ 140737488355328 ∧ Kd.C (Kd.int .u8) W A r1.length r1 := by
            intro W hW
            unfold ansV
            by_cases hb : ansBad f1 f2 a2 = true
            · rw [if_pos hb] at h1 ⊢
              subst h1
              exact ⟨none, 0, rfl, by simp, by simp, rfl, by simp, fun h => absurd h (by simp)⟩
            · rw [if_neg hb] at h1 ⊢
              have hm := Kd.C_mid (lo := (a1 * 64).toNat) (hi := ((a1 + 1) * 64).toNat) hW (by omega) (by omega) HC0.out
              rw [h1] at hm
              have hl64 : r1.length = 64 := by rw [← h1, List.length_drop, List.length_take]; omega
              have hc := HC0.out
              refine ⟨_, c0 - (a1 * 64).toNat, ?_, by omega, by omega, hm⟩
              rw [hl64]; rfl
          replace h1 := Aside0.mk h1
          replace h2 := Aside0.mk h2
          replace h3 := Aside0.mk h3
          replace hf := Aside0.mk hf
          clear hbad htime
          obtain ⟨V, hVe⟩ : ∃ V, ansV A0 c0 a1 (ansBad f1 f2 a2) = V := ⟨_, rfl⟩
          rw [hVe] at hwalk hV
          replace hVe := Aside0.mk hVe
          clear hneg hge ht hlen
          go_enter Try.func29, Try.ntmps29
          go_wp2_with (first
            | ((with_reducible refine gate_dst (N := 3) rfl ?_); refine box_event ?hg (N := 3) ?hd (cs := #[.slice A0 l0.length c0, .slice A1 l1.length c1]) (t := 46) ?hr ?_; (case hd => rfl); (case hg => rfl); (case hr => first | (go_simp; done) | (go_simp; rfl)); intro gb hg w1 hbox hb; have HB1 := Aside0.mk (below_step HB.out hb); have BK := Aside0.mk hbox; clear hg hb hbox HB; have HB := HB1; clear HB1; have hcz0 : w1.cell? ⟨gb, 0, none⟩ = some (.slice A0 l0.length c0) := (blk_cell BK.out 0).trans rfl; have hcz1 : w1.cell? ⟨gb, 1, none⟩ = some (.slice A1 l1.length c1) := (blk_cell BK.out 1).trans rfl)
            | (go_at_call 32; refine (drive_Check.calls k A0 c0 l0 A1 c1 l1 0 _ (Kd.C_below HR0.out HB.out) HC0.out (Kd.C_below HR1.out HB.out) HC1.out HE.out).mono ?_; rintro e w2 ⟨rfl, hb⟩; have HB1 := Aside0.mk (below_step HB.out hb); have BK1 := Aside0.mk (blk_below BK.out hb); clear hb HB BK hcz0 hcz1; have HB := HB1; have BK := BK1; clear HB1 BK1; have hcz0 : w2.cell? ⟨gb, 0, none⟩ = some (.slice A0 l0.length c0) := (blk_cell BK.out 0).trans rfl; have hcz1 : w2.cell? ⟨gb, 1, none⟩ = some (.slice A1 l1.length c1) := (blk_cell BK.out 1).trans rfl)
            | (go_at_call 81; refine (hwalk _ (Kd.C_below HR0.out HB.out) (Kd.C_below HR1.out HB.out)).mono ?_; rintro e w3 ⟨rfl, hb⟩; have HB1 := Aside0.mk (below_step HB.out hb); clear hb HB hcz0 hcz1; have HB := HB1; clear HB1; obtain ⟨AV, cV, hVs, hVc, hVl, hVC⟩ := hV w3 (Kd.C_below HR0.out HB.out); subst hVs)
            | (go_at_call 82; refine (slices_Clone_byte.calls AV cV r1 r1 _ hVC hVc (by unfold slices_Clone_byte.f; rw [if_pos hVl])).mono ?_; rintro e w4 ⟨v0_, rfl, hR, hb⟩))
          refine bodyPost_ret (results_tmp3 rfl _ _ _) rfl ?_
          exact ⟨_, rfl, Kd.R_lower hR HB.out.size, below_step HB.out hb⟩
  · rw [if_neg h0] at h
    simp only [Option.some.injEq, Prod.mk.injEq] at h
    obtain ⟨rfl, rfl, rfl⟩ := h
    have he1 : (e != 0) = true := bne_iff_ne.mpr h0
    go_enter Try.func29, Try.ntmps29
    go_wp2_with (first
      | ((with_reducible refine gate_dst (N := 3) rfl ?_); refine box_event ?hg (N := 3) ?hd (cs := #[.slice A0 l0.length c0, .slice A1 l1.length c1]) (t := 46) ?hr ?_; (case hd => rfl); (case hg => rfl); (case hr => first | (go_simp; done) | (go_simp; rfl)); intro gb hg w1 hbox hb; have HB1 := Aside0.mk (below_step HB.out hb); have BK := Aside0.mk hbox; clear hg hb hbox HB; have HB := HB1; clear HB1; have hcz0 : w1.cell? ⟨gb, 0, none⟩ = some (.slice A0 l0.length c0) := (blk_cell BK.out 0).trans rfl; have hcz1 : w1.cell? ⟨gb, 1, none⟩ = some (.slice A1 l1.length c1) := (blk_cell BK.out 1).trans rfl)
      | (go_at_call 32; refine (drive_Check.calls k A0 c0 l0 A1 c1 l1 e _ (Kd.C_below HR0.out HB.out) HC0.out (Kd.C_below HR1.out HB.out) HC1.out HE.out).mono ?_; rintro e w2 ⟨rfl, hb⟩; have HB1 := Aside0.mk (below_step HB.out hb); clear hb HB hcz0 hcz1; have HB := HB1; clear HB1))
    refine bodyPost_ret (results_tmp3 rfl _ _ _) rfl ?_
    exact ⟨_, rfl, Kd.R_nil _ _ _ _ _, HB.out⟩


end Go.Proofs.Ytdgkbpoljcndgaa.QPassRuns
