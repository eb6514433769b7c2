/- Written by a program of this session (wip/mprint): the walk of the Go code, function by function, for every input; no condition. -/
import Derived.Test.YtdgkbpoljcndgaaQDriveReadsx0
import Derived.Test.YtdgkbpoljcndgaaQDriveReadsx2
import Derived.Test.YtdgkbpoljcndgaaQDriveReadsx3
import Derived.Test.YtdgkbpoljcndgaaQDriveReadsx4
namespace Go.Proofs.Ytdgkbpoljcndgaa.QDriveReads
open Go.RowKit Go.Proofs.YtdgkbpoljcndgaaW.PrintWords Go.Proofs.YtdgkbpoljcndgaaW.PrintLast Go.Proofs.YtdgkbpoljcndgaaW.PrintMore
attribute [local go_sem] max2_int min2_int max_two min_two max_three min_three max_four min_four   -- for this text's walks alone
set_option linter.unusedVariables false
set_option linter.unusedSimpArgs false

theorem rows_of {α : Type} {d : Kd α} {e b n c : Nat} {w : World} {ok : Nat → Prop} {A : Option Addr} {xs : List α} (h : d.R e w b ok (.slice A n c) xs) (W : World) (hW : ∀ i, b ≤ i → i < w.heap.size → W.heap[i]? = w.heap[i]?) : d.C W A xs.length xs :=
  (Kd.R_reads' (Kd.R_move (Kd.R_bound h) (fun k hk => hW k hk.2.1 hk.2.2.1))).2.2
/-- what New has made ahead of the drive's own block -/
def NewF (w w' : World) (data : List Int) (faults : List S121) (A0 : Option Addr) (c0 : Nat) (A1 : Option Addr) (c1 M : Nat) : Prop :=
  MapIs w' M (fun _ => 0) 0 ∧ M < w'.heap.size ∧ w.heap.size ≤ M ∧ Below w.heap.size w w' ∧ data.length ≤ c0 ∧ faults.length ≤ c1 ∧
  ∀ W : World, (∀ i, i < w'.heap.size → i ≠ M → W.heap[i]? = w'.heap[i]?) → Kd.C (Kd.int .u8) W A0 data.length data ∧ Kd.C k121 W A1 faults.length faults
section
variable {w wA wB wM : World} {data : List Int} {faults : List S121} {AA AB : Option Addr} {cA cB : Nat}
theorem newF_0 (hRA : Kd.R (Kd.int .u8) 5 wA wM.heap.size (fun _ => True) (.slice AA data.length cA) data) (hRB : Kd.R k121 121 wB wA.heap.size (fun _ => True) (.slice AB faults.length cB) faults)
    (hbA : Below wM.heap.size wM wA) (hbB : Below wA.heap.size wA wB) (hbM : Below w.heap.size w wM) (hmM : MapIs wM w.heap.size (fun _ => 0) 0) (hszM : wM.heap.size = w.heap.size + 1) : NewF w wB data faults AA cA AB cB w.heap.size := by
  have h1 := hbA.size
  have h2 := hbB.size
  refine ⟨hmM.same ((hbB.block _ (by omega)).trans (hbA.block _ (by omega))), by omega, Nat.le_refl _, below_step (below_step hbM hbA) hbB, (Kd.R_reads' hRA).2.1, (Kd.R_reads' hRB).2.1, fun W hW => ⟨rows_of hRA W fun i hi hi2 => ?_, rows_of hRB W fun i hi hi2 => hW i hi2 (by omega)⟩⟩
  exact (hW i (by omega) (by omega)).trans (hbB.block i hi2)
theorem newF_1 (hRA : Kd.R (Kd.int .u8) 5 wA w.heap.size (fun _ => True) (.slice AA data.length cA) data) (hRB : Kd.R k121 121 wB wM.heap.size (fun _ => True) (.slice AB faults.length cB) faults)
    (hbA : Below w.heap.size w wA) (hbB : Below wM.heap.size wM wB) (hbM : Below wA.heap.size wA wM) (hmM : MapIs wM wA.heap.size (fun _ => 0) 0) (hszM : wM.heap.size = wA.heap.size + 1) : NewF w wB data faults AA cA AB cB wA.heap.size := by
  have h1 := hbA.size
  have h2 := hbB.size
  refine ⟨hmM.same (hbB.block _ (by omega)), by omega, h1, below_step (below_step hbA hbM) hbB, (Kd.R_reads' hRA).2.1, (Kd.R_reads' hRB).2.1, fun W hW => ⟨rows_of hRA W fun i hi hi2 => ?_, rows_of hRB W fun i hi hi2 => hW i hi2 (by omega)⟩⟩
  exact ((hW i (by omega) (by omega)).trans (hbB.block i (by omega))).trans (hbM.block i hi2)
theorem newF_2 (hRA : Kd.R (Kd.int .u8) 5 wA w.heap.size (fun _ => True) (.slice AA data.length cA) data) (hRB : Kd.R k121 121 wB wA.heap.size (fun _ => True) (.slice AB faults.length cB) faults)
    (hbA : Below w.heap.size w wA) (hbB : Below wA.heap.size wA wB) (hbM : Below wB.heap.size wB wM) (hmM : MapIs wM wB.heap.size (fun _ => 0) 0) (hszM : wM.heap.size = wB.heap.size + 1) : NewF w wM data faults AA cA AB cB wB.heap.size := by
  have h1 := hbA.size
  have h2 := hbB.size
  refine ⟨hmM, by omega, by omega, below_step (below_step hbA hbB) hbM, (Kd.R_reads' hRA).2.1, (Kd.R_reads' hRB).2.1, fun W hW => ⟨rows_of hRA W fun i hi hi2 => ?_, rows_of hRB W fun i hi hi2 => (hW i (by omega) (by omega)).trans (hbM.block i hi2)⟩⟩
  exact ((hW i (by omega) (by omega)).trans (hbM.block i (by omega))).trans (hbB.block i hi2)
end
set_option maxHeartbeats 8000000 in
set_option maxRecDepth 100000 in
theorem new_ok (k : Nat) (A0 : Option Addr) (c0 : Nat) (data : List Int) (A1 : Option Addr) (c1 : Nat) (faults : List S121) (w : World) (hr0 : Kd.C (Kd.int .u8) w A0 data.length data) (hc0 : data.length ≤ c0) (hr1 : Kd.C k121 w A1 faults.length faults) (hc1 : faults.length ≤ c1) (he : drive_Check.f k data faults = some 0) (hd : data.length ≤ 140737488355328) (hf : faults.length ≤ 5864062014805) :
    Calls Try.prog 43 #[.agg #[.slice A0 data.length c0, .slice A1 faults.length c1]] w fun e w' => ∃ g M A0' c0' A1' c1', e = .returned (.tuple #[.pointer (some ⟨g, 0, none⟩), .int .i64 0]) ∧ w.heap.size ≤ g ∧ w.heap.size ≤ M ∧ IsDisk w' w'.heap.size g M A0' c0' data A1' c1' faults (fun _ => 0) 0 0 ∧ Below w.heap.size w w' := by
  have hu46 := Try.underlying46
  have hmm := @run_makeMap Try.prog
  have HR0 := Aside0.mk hr0
  have HR1 := Aside0.mk hr1
  have hcap0 := Aside0.mk hc0
  have hcap1 := Aside0.mk hc1
  have hl0 := Aside0.mk hd
  have hl1 := Aside0.mk hf
  have HE := Aside0.mk he
  clear hr0 hr1 hc0 hc1 hd hf he
  have HB := Aside0.mk (Below.refl w.heap.size w)
  go_enter Try.func43, Try.ntmps43
  go_wp2_with (first
    | ((with_reducible refine gate_dst (N := 1) rfl ?_); refine box_event ?hg (N := 1) ?hd (cs := #[.slice A0 data.length c0, .slice A1 faults.length c1]) (t := 46) ?hr ?_; (case hd => rfl); (case hg => rfl); (case hr => first | (go_simp; done) | (go_simp; rfl)); intro gb hg w1 hbox hb; have HB1 := Aside0.mk (below_step HB.out hb); have BK := Aside0.mk hbox; clear hg hb hbox HB; have HB := HB1; clear HB1; have hcz0 : w1.cell? ⟨gb, 0, none⟩ = some (.slice A0 data.length c0) := (blk_cell BK.out 0).trans rfl; have hcz1 : w1.cell? ⟨gb, 1, none⟩ = some (.slice A1 faults.length c1) := (blk_cell BK.out 1).trans rfl)
    | (go_at_call 32; refine (drive_Check.calls k A0 c0 data A1 c1 faults 0 _ (Kd.C_below HR0.out HB.out) hcap0.out (Kd.C_below HR1.out HB.out) hcap1.out HE.out).mono ?_; rintro e w2 ⟨rfl, hb⟩; have HB1 := Aside0.mk (below_step HB.out hb); have BK1 := Aside0.mk (blk_below BK.out hb); clear hb HB BK hcz0 hcz1; have HB := HB1; have BK := BK1; clear HB1 BK1))
  have q0 : w2.drew.cell? ⟨gb, 0, none⟩ = some (.slice A0 data.length c0) := (blk_cell (blk_drew BK.out) 0).trans rfl
  have q1 : w2.drew.cell? ⟨gb, 1, none⟩ = some (.slice A1 faults.length c1) := (blk_cell (blk_drew BK.out) 1).trans rfl
  have HBD := Aside0.mk (below_drew HB.out)
  have hC0 := Aside0.mk (Kd.C_below HR0.out (below_drew HB.out))
  have hC1 := Aside0.mk (Kd.C_below HR1.out (below_drew HB.out))
  refine start_ (n := 12) (S := fun w' => w'.cell? ⟨gb, 0, none⟩ = some (.slice A0 data.length c0) ∧ w'.cell? ⟨gb, 1, none⟩ = some (.slice A1 faults.length c1)) (ds := []) #[false, false, false, false, false, false, false, false, false, false, false, false] (by kernel_rfl) rfl rfl ⟨q0, q1⟩ (fun hHeld => ?_)
  generalize w2.drew = wD at q0 q1 hC0 hC1 HBD hHeld ⊢
  refine pure_ (i := 0) (N := some 10) (v := ?_) (a' := ?_) #[true, false, false, false, false, false, false, false, false, false, false, false] rfl rfl (by kernel_rfl) (fun _ _ _ h => h) (Or.inl ⟨by rfl, ?_⟩) ?_ ?_
  rotate_left
  · intro w'
    go_simp
    with_reducible rfl
  rotate_left
  · simp only [Act.put, List.setIfInBounds_toArray, List.set_cons_zero, List.set_cons_succ, i64_w, i32_w]
    rfl
  refine pure_ (i := 3) (N := some 13) (v := ?_) (a' := ?_) #[true, false, false, true, false, false, false, false, false, false, false, false] rfl rfl (by kernel_rfl) (fun _ _ _ h => h) (Or.inl ⟨by rfl, ?_⟩) ?_ ?_
  rotate_left
  · intro w'
    go_simp
    with_reducible rfl
  rotate_left
  · simp only [Act.put, List.setIfInBounds_toArray, List.set_cons_zero, List.set_cons_succ, i64_w, i32_w]
    rfl
  refine take_ (i := 1) (N := some 11) (v := ?_) (a' := ?_) #[true, true, false, true, false, false, false, false, false, false, false, false] rfl rfl (by kernel_rfl) (fun _ _ _ h => h) (Or.inl ⟨by rfl, ?_⟩) hHeld ?_ ?_
  rotate_left
  · rintro w' ⟨s0, s1⟩
    go_simp
    with_reducible rfl
  rotate_left
  · simp only [Act.put, List.setIfInBounds_toArray, List.set_cons_zero, List.set_cons_succ, i64_w, i32_w]
    rfl
  refine take_ (i := 4) (N := some 14) (v := ?_) (a' := ?_) #[true, true, false, true, true, false, false, false, false, false, false, false] rfl rfl (by kernel_rfl) (fun _ _ _ h => h) (Or.inl ⟨by rfl, ?_⟩) hHeld ?_ ?_
  rotate_left
  · rintro w' ⟨s0, s1⟩
    go_simp
    with_reducible rfl
  rotate_left
  · simp only [Act.put, List.setIfInBounds_toArray, List.set_cons_zero, List.set_cons_succ, i64_w, i32_w]
    rfl
  refine join_ (σ := Option Addr × Nat × Option Addr × Nat × Nat) 4 #[true, true, true, true, true, true, true, true, false, false, false, false] (fun s_ => [(12, .slice s_.1 data.length s_.2.1), (15, .slice s_.2.2.1 faults.length s_.2.2.2.1), (17, .map (some s_.2.2.2.2)), (16, .agg #[.slice s_.1 data.length s_.2.1, .slice s_.2.2.1 faults.length s_.2.2.2.1])]) (fun s_ w' => NewF wD w' data faults s_.1 s_.2.1 s_.2.2.1 s_.2.2.2.1 s_.2.2.2.2 ∧ (w'.cell? ⟨gb, 0, none⟩ = some (.slice A0 data.length c0)) ∧ (w'.cell? ⟨gb, 1, none⟩ = some (.slice A1 faults.length c1))) ?_ ?_
  rotate_left
  · intro hCont
    refine two_ (i := 2) (j := 7) (Ni := some 12) (Nj := some 17) #[true, true, true, true, true, false, false, false, false, false, false, false] #[true, true, false, true, true, false, false, true, false, false, false, false] rfl rfl rfl rfl (by kernel_rfl) (by decide) (by decide) (fun K hK => ?_) (fun K hK => ?_)
    · skip
      refine goes_ Try.func82 (by kernel_rfl) rfl #[.slice A0 data.length c0] (by rfl) rfl rfl (by simp only [List.map_toArray, List.map_cons, List.map_nil]; rfl) ?_
      with_reducible refine (slices_Clone_byte.calls A0 c0 data data _ (Kd.C_below hC0.out (Below.refl _ _)) hcap0.out (by unfold slices_Clone_byte.f; rw [if_pos hl0.out])).mono ?_
      rintro e wA ⟨vA, rfl, hRA, hbA⟩
      refine ⟨_, rfl, ?_⟩
      obtain ⟨AA, cA, eA⟩ := Kd.R_slice hRA
      subst eA
      refine hK.out _ _ ⟨pw_cell_below (below_step (Below.refl _ _) hbA) q0, pw_cell_below (below_step (Below.refl _ _) hbA) q1⟩ (fun hHeld => ?_)
      clear hK K
      refine norm_ (a' := ?_) ?_ ?_
      rotate_left
      · show Act.put _ (some 12) _ = _
        simp only [Act.put, List.setIfInBounds_toArray, List.set_cons_zero, List.set_cons_succ, i64_w, i32_w]
        rfl
      refine two_ (i := 5) (j := 7) (Ni := some 15) (Nj := some 17) #[true, true, true, true, true, true, false, false, false, false, false, false] #[true, true, true, true, true, false, false, true, false, false, false, false] rfl rfl rfl rfl (by kernel_rfl) (by decide) (by decide) (fun K hK => ?_) (fun K hK => ?_)
      · skip
        refine goes_ Try.func87 (by kernel_rfl) rfl #[.slice A1 faults.length c1] (by rfl) rfl rfl (by simp only [List.map_toArray, List.map_cons, List.map_nil]; rfl) ?_
        with_reducible refine (slices_Clone_faults.calls A1 c1 faults faults _ (Kd.C_below hC1.out (below_step (Below.refl _ _) hbA)) hcap1.out (by unfold slices_Clone_faults.f; rw [if_pos hl1.out])).mono ?_
        rintro e wB ⟨vB, rfl, hRB, hbB⟩
        refine ⟨_, rfl, ?_⟩
        obtain ⟨AB, cB, eB⟩ := Kd.R_slice hRB
        subst eB
        refine hK.out _ _ ⟨pw_cell_below (below_step (below_step (Below.refl _ _) hbA) hbB) q0, pw_cell_below (below_step (below_step (Below.refl _ _) hbA) hbB) q1⟩ (fun hHeld => ?_)
        clear hK K
        refine norm_ (a' := ?_) ?_ ?_
        rotate_left
        · show Act.put _ (some 15) _ = _
          simp only [Act.put, List.setIfInBounds_toArray, List.set_cons_zero, List.set_cons_succ, i64_w, i32_w]
          rfl
        refine pure_ (i := 6) (N := some 16) (v := ?_) (a' := ?_) #[true, true, true, true, true, true, true, false, false, false, false, false] rfl rfl (by kernel_rfl) (fun _ _ _ h => h) (Or.inl ⟨by rfl, ?_⟩) ?_ ?_
        rotate_left
        · intro w'
          go_simp
          with_reducible rfl
        rotate_left
        · simp only [Act.put, List.setIfInBounds_toArray, List.set_cons_zero, List.set_cons_succ, i64_w, i32_w]
          rfl
        refine one_ (i := 7) (N := some 17) #[true, true, true, true, true, true, true, true, false, false, false, false] rfl rfl (by kernel_rfl) (by decide) (fun K hK => ?_)
        obtain ⟨wM, hwM⟩ : ∃ z, z = wB.alloc (.map #[] 0) := ⟨_, rfl⟩
        refine value_ (w1 := ?_) (v := ?_) (by rfl) rfl ?_ ?_
        rotate_left 2
        · go_simp
          constructor
          · rfl
          · rfl
        have hmM := MapIs.made wB
        have hbM := below_alloc (Below.refl wB.heap.size wB) (.map #[] 0)
        rw [← hwM] at hmM hbM ⊢
        have hszM : wM.heap.size = wB.heap.size + 1 := by rw [hwM]; simp [World.alloc_eq]
        refine hK.out _ _ ⟨pw_cell_below (below_step (below_step (below_step (Below.refl _ _) hbA) hbB) hbM) q0, pw_cell_below (below_step (below_step (below_step (Below.refl _ _) hbA) hbB) hbM) q1⟩ (fun hHeld => ?_)
        clear hK K
        refine norm_ (a' := ?_) ?_ ?_
        rotate_left
        · show Act.put _ (some 17) _ = _
          simp only [Act.put, List.setIfInBounds_toArray, List.set_cons_zero, List.set_cons_succ, i64_w, i32_w]
          rfl
        exact norm_ (by simp only [putAll, Act.put, List.setIfInBounds_toArray, List.set_cons_zero, List.set_cons_succ]) (hCont (AA, cA, AB, cB, wB.heap.size) _ ⟨newF_2 (w := wD) hRA hRB hbA hbB hbM hmM hszM, pw_cell_below (below_step (below_step (below_step (Below.refl _ _) hbA) hbB) hbM) q0, pw_cell_below (below_step (below_step (below_step (Below.refl _ _) hbA) hbB) hbM) q1⟩)
      · skip
        obtain ⟨wM, hwM⟩ : ∃ z, z = wA.alloc (.map #[] 0) := ⟨_, rfl⟩
        refine value_ (w1 := ?_) (v := ?_) (by rfl) rfl ?_ ?_
        rotate_left 2
        · go_simp
          constructor
          · rfl
          · rfl
        have hmM := MapIs.made wA
        have hbM := below_alloc (Below.refl wA.heap.size wA) (.map #[] 0)
        rw [← hwM] at hmM hbM ⊢
        have hszM : wM.heap.size = wA.heap.size + 1 := by rw [hwM]; simp [World.alloc_eq]
        refine hK.out _ _ ⟨pw_cell_below (below_step (below_step (Below.refl _ _) hbA) hbM) q0, pw_cell_below (below_step (below_step (Below.refl _ _) hbA) hbM) q1⟩ (fun hHeld => ?_)
        clear hK K
        refine norm_ (a' := ?_) ?_ ?_
        rotate_left
        · show Act.put _ (some 17) _ = _
          simp only [Act.put, List.setIfInBounds_toArray, List.set_cons_zero, List.set_cons_succ, i64_w, i32_w]
          rfl
        refine one_ (i := 5) (N := some 15) #[true, true, true, true, true, true, false, true, false, false, false, false] rfl rfl (by kernel_rfl) (by decide) (fun K hK => ?_)
        refine goes_ Try.func87 (by kernel_rfl) rfl #[.slice A1 faults.length c1] (by rfl) rfl rfl (by simp only [List.map_toArray, List.map_cons, List.map_nil]; rfl) ?_
        with_reducible refine (slices_Clone_faults.calls A1 c1 faults faults _ (Kd.C_below hC1.out (below_step (below_step (Below.refl _ _) hbA) hbM)) hcap1.out (by unfold slices_Clone_faults.f; rw [if_pos hl1.out])).mono ?_
        rintro e wB ⟨vB, rfl, hRB, hbB⟩
        refine ⟨_, rfl, ?_⟩
        obtain ⟨AB, cB, eB⟩ := Kd.R_slice hRB
        subst eB
        refine hK.out _ _ ⟨pw_cell_below (below_step (below_step (below_step (Below.refl _ _) hbA) hbM) hbB) q0, pw_cell_below (below_step (below_step (below_step (Below.refl _ _) hbA) hbM) hbB) q1⟩ (fun hHeld => ?_)
        clear hK K
        refine norm_ (a' := ?_) ?_ ?_
        rotate_left
        · show Act.put _ (some 15) _ = _
          simp only [Act.put, List.setIfInBounds_toArray, List.set_cons_zero, List.set_cons_succ, i64_w, i32_w]
          rfl
        refine pure_ (i := 6) (N := some 16) (v := ?_) (a' := ?_) #[true, true, true, true, true, true, true, true, false, false, false, false] rfl rfl (by kernel_rfl) (fun _ _ _ h => h) (Or.inl ⟨by rfl, ?_⟩) ?_ ?_
        rotate_left
        · intro w'
          go_simp
          with_reducible rfl
        rotate_left
        · simp only [Act.put, List.setIfInBounds_toArray, List.set_cons_zero, List.set_cons_succ, i64_w, i32_w]
          rfl
        exact norm_ (by simp only [putAll, Act.put, List.setIfInBounds_toArray, List.set_cons_zero, List.set_cons_succ]) (hCont (AA, cA, AB, cB, wA.heap.size) _ ⟨newF_1 (w := wD) hRA hRB hbA hbB hbM hmM hszM, pw_cell_below (below_step (below_step (below_step (Below.refl _ _) hbA) hbM) hbB) q0, pw_cell_below (below_step (below_step (below_step (Below.refl _ _) hbA) hbM) hbB) q1⟩)
    · skip
      obtain ⟨wM, hwM⟩ : ∃ z, z = wD.alloc (.map #[] 0) := ⟨_, rfl⟩
      refine value_ (w1 := ?_) (v := ?_) (by rfl) rfl ?_ ?_
      rotate_left 2
      · go_simp
        constructor
        · rfl
        · rfl
      have hmM := MapIs.made wD
      have hbM := below_alloc (Below.refl wD.heap.size wD) (.map #[] 0)
      rw [← hwM] at hmM hbM ⊢
      have hszM : wM.heap.size = wD.heap.size + 1 := by rw [hwM]; simp [World.alloc_eq]
      refine hK.out _ _ ⟨pw_cell_below (below_step (Below.refl _ _) hbM) q0, pw_cell_below (below_step (Below.refl _ _) hbM) q1⟩ (fun hHeld => ?_)
      clear hK K
      refine norm_ (a' := ?_) ?_ ?_
      rotate_left
      · show Act.put _ (some 17) _ = _
        simp only [Act.put, List.setIfInBounds_toArray, List.set_cons_zero, List.set_cons_succ, i64_w, i32_w]
        rfl
      refine one_ (i := 2) (N := some 12) #[true, true, true, true, true, false, false, true, false, false, false, false] rfl rfl (by kernel_rfl) (by decide) (fun K hK => ?_)
      refine goes_ Try.func82 (by kernel_rfl) rfl #[.slice A0 data.length c0] (by rfl) rfl rfl (by simp only [List.map_toArray, List.map_cons, List.map_nil]; rfl) ?_
      with_reducible refine (slices_Clone_byte.calls A0 c0 data data _ (Kd.C_below hC0.out (below_step (Below.refl _ _) hbM)) hcap0.out (by unfold slices_Clone_byte.f; rw [if_pos hl0.out])).mono ?_
      rintro e wA ⟨vA, rfl, hRA, hbA⟩
      refine ⟨_, rfl, ?_⟩
      obtain ⟨AA, cA, eA⟩ := Kd.R_slice hRA
      subst eA
      refine hK.out _ _ ⟨pw_cell_below (below_step (below_step (Below.refl _ _) hbM) hbA) q0, pw_cell_below (below_step (below_step (Below.refl _ _) hbM) hbA) q1⟩ (fun hHeld => ?_)
      clear hK K
      refine norm_ (a' := ?_) ?_ ?_
      rotate_left
      · show Act.put _ (some 12) _ = _
        simp only [Act.put, List.setIfInBounds_toArray, List.set_cons_zero, List.set_cons_succ, i64_w, i32_w]
        rfl
      refine one_ (i := 5) (N := some 15) #[true, true, true, true, true, true, false, true, false, false, false, false] rfl rfl (by kernel_rfl) (by decide) (fun K hK => ?_)
      refine goes_ Try.func87 (by kernel_rfl) rfl #[.slice A1 faults.length c1] (by rfl) rfl rfl (by simp only [List.map_toArray, List.map_cons, List.map_nil]; rfl) ?_
      with_reducible refine (slices_Clone_faults.calls A1 c1 faults faults _ (Kd.C_below hC1.out (below_step (below_step (Below.refl _ _) hbM) hbA)) hcap1.out (by unfold slices_Clone_faults.f; rw [if_pos hl1.out])).mono ?_
      rintro e wB ⟨vB, rfl, hRB, hbB⟩
      refine ⟨_, rfl, ?_⟩
      obtain ⟨AB, cB, eB⟩ := Kd.R_slice hRB
      subst eB
      refine hK.out _ _ ⟨pw_cell_below (below_step (below_step (below_step (Below.refl _ _) hbM) hbA) hbB) q0, pw_cell_below (below_step (below_step (below_step (Below.refl _ _) hbM) hbA) hbB) q1⟩ (fun hHeld => ?_)
      clear hK K
      refine norm_ (a' := ?_) ?_ ?_
      rotate_left
      · show Act.put _ (some 15) _ = _
        simp only [Act.put, List.setIfInBounds_toArray, List.set_cons_zero, List.set_cons_succ, i64_w, i32_w]
        rfl
      refine pure_ (i := 6) (N := some 16) (v := ?_) (a' := ?_) #[true, true, true, true, true, true, true, true, false, false, false, false] rfl rfl (by kernel_rfl) (fun _ _ _ h => h) (Or.inl ⟨by rfl, ?_⟩) ?_ ?_
      rotate_left
      · intro w'
        go_simp
        with_reducible rfl
      rotate_left
      · simp only [Act.put, List.setIfInBounds_toArray, List.set_cons_zero, List.set_cons_succ, i64_w, i32_w]
        rfl
      exact norm_ (by simp only [putAll, Act.put, List.setIfInBounds_toArray, List.set_cons_zero, List.set_cons_succ]) (hCont (AA, cA, AB, cB, wD.heap.size) _ ⟨newF_0 (w := wD) hRA hRB hbA hbB hbM hmM hszM, pw_cell_below (below_step (below_step (below_step (Below.refl _ _) hbM) hbA) hbB) q0, pw_cell_below (below_step (below_step (below_step (Below.refl _ _) hbM) hbA) hbB) q1⟩)
  rintro ⟨AN, cN, AF, cF, MN⟩ w5 ⟨hnew, hHeld⟩
  simp only at hnew
  refine norm_ (a' := ?_) ?_ ?_
  rotate_left
  · simp only [putAll, Act.put, List.setIfInBounds_toArray, List.set_cons_zero, List.set_cons_succ]
    rfl
  refine pure_ (i := 8) (N := some 18) (v := ?_) (a' := ?_) #[true, true, true, true, true, true, true, true, true, false, false, false] rfl rfl (by kernel_rfl) (fun _ _ _ h => h) (Or.inl ⟨by rfl, ?_⟩) ?_ ?_
  rotate_left
  · intro w'
    go_simp
    with_reducible rfl
  rotate_left
  · simp only [Act.put, List.setIfInBounds_toArray, List.set_cons_zero, List.set_cons_succ, i64_w, i32_w]
    rfl
  refine one_ (i := 9) (N := some 19) #[true, true, true, true, true, true, true, true, true, true, false, false] rfl rfl (by kernel_rfl) (by decide) (fun K hK => ?_)
  refine value_ (w1 := ?_) (v := ?_) (by rfl) rfl ?_ ?_
  rotate_left 2
  · go_simp
    constructor
    · rfl
    · rfl
  refine hK.out _ _ ⟨pw_cell_below (below_alloc (Below.refl w5.heap.size w5) _) hHeld.1, pw_cell_below (below_alloc (Below.refl w5.heap.size w5) _) hHeld.2⟩ (fun hHeld => ?_)
  clear hK K
  refine norm_ (a' := ?_) ?_ ?_
  rotate_left
  · show Act.put _ (some 19) _ = _
    simp only [Act.put, List.setIfInBounds_toArray, List.set_cons_zero, List.set_cons_succ, i64_w, i32_w]
    rfl
  refine pure_ (i := 10) (N := some 2) (v := ?_) (a' := ?_) #[true, true, true, true, true, true, true, true, true, true, true, false] rfl rfl (by kernel_rfl) (fun _ _ _ h => h) (Or.inl ⟨by rfl, ?_⟩) ?_ ?_
  rotate_left
  · intro w'
    go_simp
    with_reducible rfl
  rotate_left
  · simp only [Act.put, List.setIfInBounds_toArray, List.set_cons_zero, List.set_cons_succ, i64_w, i32_w]
    rfl
  refine pure_ (i := 11) (N := some 3) (v := ?_) (a' := ?_) #[true, true, true, true, true, true, true, true, true, true, true, true] rfl rfl (by kernel_rfl) (fun _ _ _ h => h) (Or.inl ⟨by rfl, ?_⟩) ?_ ?_
  rotate_left
  · intro w'
    go_simp
    with_reducible rfl
  rotate_left
  · simp only [Act.put, List.setIfInBounds_toArray, List.set_cons_zero, List.set_cons_succ, i64_w, i32_w]
    rfl
  refine done_ (by kernel_rfl) ?_
  obtain ⟨n1, n2, n3, n4, n5, n6, n7⟩ := hnew
  have hsz6 : (w5.alloc (.cells #[.slice AN data.length cN, .slice AF faults.length cF, .map (some MN), .int .i64 0] 128)).heap.size = w5.heap.size + 1 := by simp [World.alloc_eq]
  have hb6 : Below w5.heap.size w5 (w5.alloc (.cells #[.slice AN data.length cN, .slice AF faults.length cF, .map (some MN), .int .i64 0] 128)) := below_alloc (Below.refl _ _) _
  have hw2 : w.heap.size ≤ wD.heap.size := HBD.out.size
  have hdisk : IsDisk (w5.alloc (.cells #[.slice AN data.length cN, .slice AF faults.length cF, .map (some MN), .int .i64 0] 128)) (w5.alloc (.cells #[.slice AN data.length cN, .slice AF faults.length cF, .map (some MN), .int .i64 0] 128)).heap.size w5.heap.size MN AN cN data AF cF faults (fun _ => 0) 0 0 := by
    refine ⟨heap_alloc_new w5 _, by omega, by omega, by omega, Nat.le_refl _, n1.same (hb6.block _ n2), n5, n6, fun W hW => n7 W fun i hi hM => (hW i (by omega) (by omega) hM).trans (hb6.block i hi)⟩
  have hbel := below_step (below_step HBD.out n4) hb6
  replace hdisk := Aside0.mk hdisk
  replace hbel := Aside0.mk hbel
  have h4 := n4.size
  try go_wp2
  go_ret2
  exact ⟨w5.heap.size, MN, AN, cN, AF, cF, rfl, by omega, by omega, hdisk.out, hbel.out⟩
set_option maxHeartbeats 8000000 in
set_option maxRecDepth 100000 in
theorem new_err (k : Nat) (A0 : Option Addr) (c0 : Nat) (data : List Int) (A1 : Option Addr) (c1 : Nat) (faults : List S121) (q : Int) (w : World) (hr0 : Kd.C (Kd.int .u8) w A0 data.length data) (hc0 : data.length ≤ c0) (hr1 : Kd.C k121 w A1 faults.length faults) (hc1 : faults.length ≤ c1) (he : drive_Check.f k data faults = some q) (hq : q ≠ 0) :
    Calls Try.prog 43 #[.agg #[.slice A0 data.length c0, .slice A1 faults.length c1]] w fun e w' => e = .returned (.tuple #[.pointer none, .int .i64 q]) ∧ Below w.heap.size w w' := by
  have hu46 := Try.underlying46
  have HR0 := Aside0.mk hr0
  have HR1 := Aside0.mk hr1
  have hcap0 := Aside0.mk hc0
  have hcap1 := Aside0.mk hc1
  have HE := Aside0.mk he
  have he1 : (q != 0) = true := bne_iff_ne.mpr hq
  clear hr0 hr1 hc0 hc1 he hq
  have HB := Aside0.mk (Below.refl w.heap.size w)
  go_enter Try.func43, Try.ntmps43
  go_wp2_with (first
    | ((with_reducible refine gate_dst (N := 1) rfl ?_); refine box_event ?hg (N := 1) ?hd (cs := #[.slice A0 data.length c0, .slice A1 faults.length c1]) (t := 46) ?hr ?_; (case hd => rfl); (case hg => rfl); (case hr => first | (go_simp; done) | (go_simp; rfl)); intro gb hg w1 hbox hb; have HB1 := Aside0.mk (below_step HB.out hb); have BK := Aside0.mk hbox; clear hg hb hbox HB; have HB := HB1; clear HB1; have hcz0 : w1.cell? ⟨gb, 0, none⟩ = some (.slice A0 data.length c0) := (blk_cell BK.out 0).trans rfl; have hcz1 : w1.cell? ⟨gb, 1, none⟩ = some (.slice A1 faults.length c1) := (blk_cell BK.out 1).trans rfl)
    | (go_at_call 32; refine (drive_Check.calls k A0 c0 data A1 c1 faults q _ (Kd.C_below HR0.out HB.out) hcap0.out (Kd.C_below HR1.out HB.out) hcap1.out HE.out).mono ?_; rintro e w2 ⟨rfl, hb⟩; have HB1 := Aside0.mk (below_step HB.out hb); clear hb HB BK hcz0 hcz1; have HB := HB1; clear HB1))
  go_ret2
  exact ⟨rfl, HB.out⟩
def drive_New.f (l0 : List Int) : Option Int := none


section
variable {w W : World} {L g M : Nat} {A0 : Option Addr} {c0 : Nat} {data : List Int} {A1 : Option Addr} {c1 : Nat} {faults : List S121} {T : Int → Int} {t : Int} {N : Nat}
set_option maxHeartbeats 2000000 in
set_option maxRecDepth 100000 in
theorem read_out (h : IsDisk w L g M A0 c0 data A1 c1 faults T t N) (hl : data.length ≤ 140737488351232) (x : Int) (hx : x < 0 ∨ x ≥ (data.length : Int) / 64) :
    Calls Try.prog 45 #[.pointer (some ⟨g, 0, none⟩), .int .i64 x] w fun e w' => e = .returned (.tuple #[.slice none 0 0, .int .i64 4]) ∧ w' = w := by
  have hblocks := blocks_calls h hl
  clear h
  by_cases hneg : x < 0
  · have hn1 := decide_eq_true hneg
    go_enter Try.func45, Try.ntmps45
    go_wp2
    go_ret2
    exact ⟨rfl, rfl⟩
  · have hn1 := decide_eq_false hneg
    have hn2 : decide ((data.length : Int) / 64 ≤ x) = true := decide_eq_true (by omega)
    go_enter Try.func45, Try.ntmps45
    go_wp2_with (first | (go_at_call 44; refine hblocks.mono ?_; rintro e w' ⟨rfl, rfl⟩))
    go_ret2
    exact ⟨rfl, rfl⟩
set_option maxHeartbeats 8000000 in
set_option maxRecDepth 100000 in
theorem read_in (h : IsDisk w L g M A0 c0 data A1 c1 faults T t N) (hl : data.length ≤ 140737488351232) (x f0 f1 f2 : Int) (hf : drive_fault.f data faults x = some (f0, f1, f2)) (hx0 : 0 ≤ x) (hx1 : (x + 1) * 64 ≤ data.length) (hN : N < 4611686018427387904) (hT0 : 0 ≤ T x) (hT1 : T x ≤ 4611686018427387904) :
    Calls Try.prog 45 #[.pointer (some ⟨g, 0, none⟩), .int .i64 x] w fun e w' => ∃ v0_, e = .returned (.tuple #[v0_, .int .i64 (if ansBad f1 f2 (T x + 1) = true then 19 else 0)]) ∧ Kd.R (Kd.int .u8) 5 w' w.heap.size (fun _ => True) v0_ (if ansBad f1 f2 (T x + 1) = true then [] else (data.take ((x + 1) * 64).toNat).drop (x * 64).toNat) ∧
      IsDisk w' L g M A0 c0 data A1 c1 faults (fun j => if j = x then T x + 1 else T j) (wrap64 (t + ansTime f1 f2)) (N + 1) ∧ (∀ B, B ≤ g → B ≤ M → B ≤ w.heap.size → Below B w w') ∧ ∀ i, i < w.heap.size → i ≠ g → i ≠ M → w'.heap[i]? = w.heap[i]? := by
  have hwx : (Lit.int .i64 x).wf = true := wf_i64 (by omega) (by omega)
  have k0 : w.cell? ⟨g, 0, none⟩ = some (.slice A0 data.length c0) := (blk_cell h.cells 0).trans rfl
  have k2 : w.cell? ⟨g, 2, none⟩ = some (.map (some M)) := (blk_cell h.cells 2).trans rfl
  have hblocks := blocks_calls h hl
  have hlook := h.map.look x hwx
  obtain ⟨u, hu⟩ : ∃ u, T x + 1 = u := ⟨_, rfl⟩
  have hwu : IntKind.i64.wrap (T x + 1) = u := by rw [i64_w]; unfold wrap64; omega
  obtain ⟨w1, hu1, hm1, hg1⟩ := h.map.upd (by unfold maxLen; omega) x u hwx (wf_i64 (by omega) (by omega))
  have hgw := Nat.lt_of_lt_of_le h.gl h.ll
  have hMw := h.map.lt
  have hcell1 : w1.heap[g]? = some (.cells #[.slice A0 data.length c0, .slice A1 faults.length c1, .map (some M), .int .i64 t] 128 (0, 0)) := (hg1.block g hgw (by simpa using h.ne)).trans h.cells
  have q0 : w1.drew.cell? ⟨g, 0, none⟩ = some (.slice A0 data.length c0) := (blk_cell (blk_drew hcell1) 0).trans rfl
  have q1 : w1.drew.cell? ⟨g, 1, none⟩ = some (.slice A1 faults.length c1) := (blk_cell (blk_drew hcell1) 1).trans rfl
  have q2 : w1.drew.cell? ⟨g, 2, none⟩ = some (.map (some M)) := (blk_cell (blk_drew hcell1) 2).trans rfl
  have q3 : (Instr.lookup 67 (.map (some M)) (.int .i64 x) false).run Try.prog w1.drew = .ok (.int .i64 u) w1.drew := by
    have hm2 : MapIs w1.drew M (fun j => if j = x then u else T j) (N + 1) := hm1.same rfl
    have := hm2.look x hwx
    simpa using this
  have hC1 := Aside0.mk (h.rows w1.drew fun i hi hg hM => (hg1.block i (Nat.lt_of_lt_of_le hi h.ll) (by simpa using hM) : w1.heap[i]? = _))
  have hn1 : decide (x < 0) = false := decide_eq_false (by omega)
  have hn2 : decide ((data.length : Int) / 64 ≤ x) = false := decide_eq_false (by omega)
  have hbad : (f1 == 1 || (f1 == 2 && decide (u < f2))) = ansBad f1 f2 u := rfl
  have htime : (if (f1 == 3) = true then f2 else 1) = ansTime f1 f2 := by
    unfold ansTime
    by_cases h : f1 = 3 <;> simp [h]
  have hans := fun W (p0 : Kd.C (Kd.int .u8) W A0 data.length data) (p1 : Kd.C k121 W A1 faults.length faults) => answer_walk A0 c0 data A1 c1 faults x u f0 f1 f2 W p0 h.cap0 p1 h.cap1 hf hx0 hx1 hl _ _ _ _ rfl rfl rfl rfl
  simp only [hbad, htime] at hans
  rw [hu]
  obtain ⟨bd, hbd⟩ : ∃ b, ansBad f1 f2 u = b := ⟨_, rfl⟩
  obtain ⟨tm, htm⟩ : ∃ b, ansTime f1 f2 = b := ⟨_, rfl⟩
  rw [hbd, htm] at hans
  rw [hbd, htm]
  clear hbad htime
  obtain ⟨r1, hr1⟩ : ∃ r : List Int, (if bd = true then [] else (data.take ((x + 1) * 64).toNat).drop (x * 64).toNat) = r := ⟨_, rfl⟩
  obtain ⟨er, her⟩ : ∃ e : Int, (if bd = true then 19 else 0) = e := ⟨_, rfl⟩
  rw [hr1, her]
  rw [her] at hans
  have hV : ∀ W : World, Kd.C (Kd.int .u8) W A0 data.length data → ∃ A c, ansV A0 c0 x bd = .slice A r1.length c ∧ r1.length ≤ c ∧ r1.length ≤ 140737488355328 ∧ Kd.C (Kd.int .u8) W A r1.length r1 := by
    intro W hW
    unfold ansV
    by_cases hb : bd = true
    · rw [if_pos hb] at hr1 ⊢
      subst hr1
      exact ⟨none, 0, rfl, by simp, by simp, rfl, by simp, fun h => absurd h (by simp)⟩
    · rw [if_neg hb] at hr1 ⊢
      have hc := h.cap0
      have hm := Kd.C_mid (lo := (x * 64).toNat) (hi := ((x + 1) * 64).toNat) hW (by omega) (by omega) hc
      rw [hr1] at hm
      have hl64 : r1.length = 64 := by rw [← hr1, List.length_drop, List.length_take]; omega
      refine ⟨_, c0 - (x * 64).toNat, ?_, by omega, by omega, hm⟩
      rw [hl64]; rfl
  obtain ⟨V, hVe⟩ : ∃ V, ansV A0 c0 x bd = V := ⟨_, rfl⟩
  rw [hVe] at hans hV
  have HD := Aside0.mk h
  have HM1 := Aside0.mk hm1
  have HG1 := Aside0.mk hg1
  have HCELL := Aside0.mk hcell1
  have HU := Aside0.mk hu
  replace hbd := Aside0.mk hbd
  replace htm := Aside0.mk htm
  replace hr1 := Aside0.mk hr1
  replace her := Aside0.mk her
  replace hVe := Aside0.mk hVe
  replace hf := Aside0.mk hf
  have HGW := Aside0.mk hgw
  have HMW := Aside0.mk hMw
  clear h hm1 hg1 hcell1 hu hgw hMw hx0 hx1 hl hN hT0 hT1 hwx
  go_enter Try.func45, Try.ntmps45
  go_wp2_with (first | (go_at_call 44; refine hblocks.mono ?_; rintro e w' ⟨rfl, hw⟩; replace hw := hw.symm; subst hw))
  refine start_ (n := 19) (S := fun w' => w'.cell? ⟨g, 0, none⟩ = some (.slice A0 data.length c0) ∧ w'.cell? ⟨g, 1, none⟩ = some (.slice A1 faults.length c1) ∧ w'.cell? ⟨g, 2, none⟩ = some (.map (some M)) ∧ (Instr.lookup 67 (.map (some M)) (.int .i64 x) false).run Try.prog w' = .ok (.int .i64 u) w') (ds := [11]) #[false, false, false, false, false, false, false, false, false, false, false, false, false, false, false, false, false, false, false] (by kernel_rfl) rfl rfl ⟨q0, q1, q2, q3⟩ (fun hHeld => ?_)
  refine pure_ (i := 0) (N := some 25) (v := ?_) (a' := ?_) #[true, false, false, false, false, false, false, false, false, false, false, false, false, false, false, false, false, false, false] rfl rfl (by kernel_rfl) (fun _ _ _ h => h) (Or.inl ⟨by rfl, ?_⟩) ?_ ?_
  rotate_left
  · intro w'
    go_simp
    with_reducible rfl
  rotate_left
  · simp only [Act.put, List.setIfInBounds_toArray, List.set_cons_zero, List.set_cons_succ, i64_w, i32_w]
    rfl
  refine pure_ (i := 1) (N := some 26) (v := ?_) (a' := ?_) #[true, true, false, false, false, false, false, false, false, false, false, false, false, false, false, false, false, false, false] rfl rfl (by kernel_rfl) (fun _ _ _ h => h) (Or.inl ⟨by rfl, ?_⟩) ?_ ?_
  rotate_left
  · intro w'
    go_simp
    with_reducible rfl
  rotate_left
  · simp only [Act.put, List.setIfInBounds_toArray, List.set_cons_zero, List.set_cons_succ, i64_w, i32_w]
    rfl
  refine pure_ (i := 2) (N := some 27) (v := ?_) (a' := ?_) #[true, true, true, false, false, false, false, false, false, false, false, false, false, false, false, false, false, false, false] rfl rfl (by kernel_rfl) (fun _ _ _ h => h) (Or.inl ⟨by rfl, ?_⟩) ?_ ?_
  rotate_left
  · intro w'
    go_simp
    with_reducible rfl
  rotate_left
  · simp only [Act.put, List.setIfInBounds_toArray, List.set_cons_zero, List.set_cons_succ, i64_w, i32_w]
    rfl
  refine pure_ (i := 4) (N := some 29) (v := ?_) (a' := ?_) #[true, true, true, false, true, false, false, false, false, false, false, false, false, false, false, false, false, false, false] rfl rfl (by kernel_rfl) (fun _ _ _ h => h) (Or.inl ⟨by rfl, ?_⟩) ?_ ?_
  rotate_left
  · intro w'
    go_simp
    with_reducible rfl
  rotate_left
  · simp only [Act.put, List.setIfInBounds_toArray, List.set_cons_zero, List.set_cons_succ, i64_w, i32_w]
    rfl
  refine pure_ (i := 5) (N := some 30) (v := ?_) (a' := ?_) #[true, true, true, false, true, true, false, false, false, false, false, false, false, false, false, false, false, false, false] rfl rfl (by kernel_rfl) (fun _ _ _ h => h) (Or.inl ⟨by rfl, ?_⟩) ?_ ?_
  rotate_left
  · intro w'
    go_simp
    with_reducible rfl
  rotate_left
  · simp only [Act.put, List.setIfInBounds_toArray, List.set_cons_zero, List.set_cons_succ, i64_w, i32_w]
    rfl
  refine pure_ (i := 6) (N := some 31) (v := ?_) (a' := ?_) #[true, true, true, false, true, true, true, false, false, false, false, false, false, false, false, false, false, false, false] rfl rfl (by kernel_rfl) (fun _ _ _ h => h) (Or.inl ⟨by rfl, ?_⟩) ?_ ?_
  rotate_left
  · intro w'
    go_simp
    with_reducible rfl
  rotate_left
  · simp only [Act.put, List.setIfInBounds_toArray, List.set_cons_zero, List.set_cons_succ, i64_w, i32_w]
    rfl
  refine pure_ (i := 7) (N := some 32) (v := ?_) (a' := ?_) #[true, true, true, false, true, true, true, true, false, false, false, false, false, false, false, false, false, false, false] rfl rfl (by kernel_rfl) (fun _ _ _ h => h) (Or.inl ⟨by rfl, ?_⟩) ?_ ?_
  rotate_left
  · intro w'
    go_simp
    with_reducible rfl
  rotate_left
  · simp only [Act.put, List.setIfInBounds_toArray, List.set_cons_zero, List.set_cons_succ, i64_w, i32_w]
    rfl
  refine pure_ (i := 9) (N := some 34) (v := ?_) (a' := ?_) #[true, true, true, false, true, true, true, true, false, true, false, false, false, false, false, false, false, false, false] rfl rfl (by kernel_rfl) (fun _ _ _ h => h) (Or.inl ⟨by rfl, ?_⟩) ?_ ?_
  rotate_left
  · intro w'
    go_simp
    with_reducible rfl
  rotate_left
  · simp only [Act.put, List.setIfInBounds_toArray, List.set_cons_zero, List.set_cons_succ, i64_w, i32_w]
    rfl
  refine take_ (i := 3) (N := some 28) (v := ?_) (a' := ?_) #[true, true, true, true, true, true, true, true, false, true, false, false, false, false, false, false, false, false, false] rfl rfl (by kernel_rfl) (fun _ _ _ h => h) (Or.inl ⟨by rfl, ?_⟩) hHeld ?_ ?_
  rotate_left
  · rintro w' ⟨s0, s1, s2, s3⟩
    go_simp
    with_reducible rfl
  rotate_left
  · simp only [Act.put, List.setIfInBounds_toArray, List.set_cons_zero, List.set_cons_succ, i64_w, i32_w]
    rfl
  refine take_ (i := 8) (N := some 33) (v := ?_) (a' := ?_) #[true, true, true, true, true, true, true, true, true, true, false, false, false, false, false, false, false, false, false] rfl rfl (by kernel_rfl) (fun _ _ _ h => h) (Or.inl ⟨by rfl, ?_⟩) hHeld ?_ ?_
  rotate_left
  · rintro w' ⟨s0, s1, s2, s3⟩
    go_simp
    with_reducible rfl
  rotate_left
  · simp only [Act.put, List.setIfInBounds_toArray, List.set_cons_zero, List.set_cons_succ, i64_w, i32_w]
    rfl
  refine take_ (i := 10) (N := some 35) (v := ?_) (a' := ?_) #[true, true, true, true, true, true, true, true, true, true, true, false, false, false, false, false, false, false, false] rfl rfl (by kernel_rfl) (fun _ _ _ h => h) (Or.inl ⟨by rfl, ?_⟩) hHeld ?_ ?_
  rotate_left
  · rintro w' ⟨s0, s1, s2, s3⟩
    go_simp
    with_reducible rfl
  rotate_left
  · simp only [Act.put, List.setIfInBounds_toArray, List.set_cons_zero, List.set_cons_succ, i64_w, i32_w]
    rfl
  refine last_ (i := 11) (N := some 36) #[true, true, true, true, true, true, true, true, true, true, true, true, false, false, false, false, false, false, false] rfl rfl (by kernel_rfl) (by decide) (fun K hK => ?_)
  refine goes_ Try.func81 (by kernel_rfl) rfl #[.agg #[.slice A0 data.length c0, .slice A1 faults.length c1], .int .i64 x, .int .i64 u] (by rfl) rfl rfl (by simp only [List.map_toArray, List.map_cons, List.map_nil]; rfl) ?_
  with_reducible refine (hans _ hC1.out.1 hC1.out.2).mono ?_
  rintro e w3 ⟨rfl, hb3⟩
  refine ⟨_, rfl, ?_⟩
  refine hK.out _ _ ?_
  clear hK K
  refine norm_ (a' := ?_) ?_ ?_
  rotate_left
  · show Act.put _ (some 36) _ = _
    simp only [Act.put, List.setIfInBounds_toArray, List.set_cons_zero, List.set_cons_succ, i64_w, i32_w]
    rfl
  refine pure_ (i := 12) (N := some 24) (v := ?_) (a' := ?_) #[true, true, true, true, true, true, true, true, true, true, true, true, true, false, false, false, false, false, false] rfl rfl (by kernel_rfl) (fun _ _ _ h => h) (Or.inl ⟨by rfl, ?_⟩) ?_ ?_
  rotate_left
  · intro w'
    go_simp
    with_reducible rfl
  rotate_left
  · simp only [Act.put, List.setIfInBounds_toArray, List.set_cons_zero, List.set_cons_succ, i64_w, i32_w]
    rfl
  refine pure_ (i := 13) (N := some 37) (v := ?_) (a' := ?_) #[true, true, true, true, true, true, true, true, true, true, true, true, true, true, false, false, false, false, false] rfl rfl (by kernel_rfl) (fun _ _ _ h => h) (Or.inl ⟨by rfl, ?_⟩) ?_ ?_
  rotate_left
  · intro w'
    go_simp
    with_reducible rfl
  rotate_left
  · simp only [Act.put, List.setIfInBounds_toArray, List.set_cons_zero, List.set_cons_succ, i64_w, i32_w]
    rfl
  refine pure_ (i := 14) (N := some 38) (v := ?_) (a' := ?_) #[true, true, true, true, true, true, true, true, true, true, true, true, true, true, true, false, false, false, false] rfl rfl (by kernel_rfl) (fun _ _ _ h => h) (Or.inl ⟨by rfl, ?_⟩) ?_ ?_
  rotate_left
  · intro w'
    go_simp
    with_reducible rfl
  rotate_left
  · simp only [Act.put, List.setIfInBounds_toArray, List.set_cons_zero, List.set_cons_succ, i64_w, i32_w]
    rfl
  refine pure_ (i := 15) (N := some 39) (v := ?_) (a' := ?_) #[true, true, true, true, true, true, true, true, true, true, true, true, true, true, true, true, false, false, false] rfl rfl (by kernel_rfl) (fun _ _ _ h => h) (Or.inl ⟨by rfl, ?_⟩) ?_ ?_
  rotate_left
  · intro w'
    go_simp
    with_reducible rfl
  rotate_left
  · simp only [Act.put, List.setIfInBounds_toArray, List.set_cons_zero, List.set_cons_succ, i64_w, i32_w]
    rfl
  refine pure_ (i := 16) (N := some 6) (v := ?_) (a' := ?_) #[true, true, true, true, true, true, true, true, true, true, true, true, true, true, true, true, true, false, false] rfl rfl (by kernel_rfl) (fun _ _ _ h => h) (Or.inl ⟨by rfl, ?_⟩) ?_ ?_
  rotate_left
  · intro w'
    go_simp
    with_reducible rfl
  rotate_left
  · simp only [Act.put, List.setIfInBounds_toArray, List.set_cons_zero, List.set_cons_succ, i64_w, i32_w]
    rfl
  refine pure_ (i := 17) (N := some 7) (v := ?_) (a' := ?_) #[true, true, true, true, true, true, true, true, true, true, true, true, true, true, true, true, true, true, false] rfl rfl (by kernel_rfl) (fun _ _ _ h => h) (Or.inl ⟨by rfl, ?_⟩) ?_ ?_
  rotate_left
  · intro w'
    go_simp
    with_reducible rfl
  rotate_left
  · simp only [Act.put, List.setIfInBounds_toArray, List.set_cons_zero, List.set_cons_succ, i64_w, i32_w]
    rfl
  refine pure_ (i := 18) (N := some 8) (v := ?_) (a' := ?_) #[true, true, true, true, true, true, true, true, true, true, true, true, true, true, true, true, true, true, true] rfl rfl (by kernel_rfl) (fun _ _ _ h => h) (Or.inl ⟨by rfl, ?_⟩) ?_ ?_
  rotate_left
  · intro w'
    go_simp
    with_reducible rfl
  rotate_left
  · simp only [Act.put, List.setIfInBounds_toArray, List.set_cons_zero, List.set_cons_succ, i64_w, i32_w]
    rfl
  refine done_ (by kernel_rfl) ?_
  have hcell3 := blk_below (blk_drew HCELL.out) hb3
  have k3 : w3.cell? ⟨g, 3, none⟩ = some (.int .i64 t) := (blk_cell hcell3 3).trans rfl
  have kf3 := blk_frozen hcell3 3
  obtain ⟨tn, htn⟩ : ∃ tn, IntKind.i64.wrap (t + tm) = tn := ⟨_, rfl⟩
  have hh1 : w1.heap.size ≤ w3.heap.size := hb3.size
  have hsz1 := HG1.out.size
  have hw4 : IsDisk (w3.setCell ⟨g, 3, none⟩ (.int .i64 tn)) L g M A0 c0 data A1 c1 faults (fun j => if j = x then u else T j) tn (N + 1) ∧ (∀ i, i < w.heap.size → i ≠ g → i ≠ M → (w3.setCell ⟨g, 3, none⟩ (.int .i64 tn)).heap[i]? = w.heap[i]?) := by
    have hD := HD.out
    have hoth : ∀ i, i < w.heap.size → i ≠ g → i ≠ M → (w3.setCell ⟨g, 3, none⟩ (.int .i64 tn)).heap[i]? = w.heap[i]? := fun i hi hg hM =>
      ((Below.heap_setCell w3 ⟨g, 3, none⟩ (.int .i64 tn) i hg).trans (hb3.block i (Nat.lt_of_lt_of_le hi hsz1))).trans (HG1.out.block i hi (by simpa using hM))
    refine ⟨⟨blk_put hcell3 3 _ rfl, hD.ne, hD.gl, hD.ml, ?_, ?_, hD.cap0, hD.cap1, fun W2 h2 => hD.rows W2 fun i hi hg hM => (h2 i hi hg hM).trans (hoth i (Nat.lt_of_lt_of_le hi hD.ll) hg hM)⟩, hoth⟩
    · have : (w3.setCell ⟨g, 3, none⟩ (.int .i64 tn)).heap.size = w3.heap.size := by simp [World.setCell]
      rw [this]; exact Nat.le_trans hD.ll (Nat.le_trans hsz1 hh1)
    · exact HM1.out.same ((Below.heap_setCell w3 ⟨g, 3, none⟩ (.int .i64 tn) M hD.ne.symm).trans (hb3.block M (Nat.lt_of_lt_of_le HMW.out hsz1)))
  have hB4 : ∀ B, B ≤ g → B ≤ M → B ≤ w.heap.size → Below B w (w3.setCell ⟨g, 3, none⟩ (.int .i64 tn)) := by
    intro B hBg hBM hBw
    refine ⟨hb3.os.trans HG1.out.os, hb3.tape.trans HG1.out.tape, hb3.output.trans HG1.out.output, ?_, fun k hk => hw4.2 k (by omega) (by omega) (by omega)⟩
    have : (w3.setCell ⟨g, 3, none⟩ (.int .i64 tn)).heap.size = w3.heap.size := by simp [World.setCell]
    rw [this]; exact Nat.le_trans hsz1 hh1
  obtain ⟨AV, cV, hVs, hVc, hVl, hVC⟩ := hV (w3.setCell ⟨g, 3, none⟩ (.int .i64 tn)) (hw4.1.rows _ fun _ _ _ _ => rfl).1
  subst hVs
  have hsz4 : w.heap.size ≤ (w3.setCell ⟨g, 3, none⟩ (.int .i64 tn)).heap.size := by
    have : (w3.setCell ⟨g, 3, none⟩ (.int .i64 tn)).heap.size = w3.heap.size := by simp [World.setCell]
    rw [this]; exact Nat.le_trans hsz1 hh1
  replace hw4 := Aside0.mk hw4
  replace hB4 := Aside0.mk hB4
  replace hsz4 := Aside0.mk hsz4
  replace hcell3 := Aside0.mk hcell3
  replace hVC := Aside0.mk hVC
  go_wp2_with (first | (go_at_call 82; refine (slices_Clone_byte.calls AV cV r1 r1 _ hVC.out hVc (by unfold slices_Clone_byte.f; rw [if_pos hVl])).mono ?_; rintro e w5 ⟨v0_, rfl, hR, hb5⟩))
  go_ret2
  have e1 : tn = wrap64 (t + tm) := by rw [← htn, i64_w]
  rw [← e1]
  exact ⟨_, rfl, Kd.R_lower hR hsz4.out, hw4.out.1.below hb5, fun B h1 h2 h3 => below_then (hB4.out B h1 h2 h3) (Nat.le_trans h3 hsz4.out) hb5, fun i hi hg hM => (hb5.block i (Nat.lt_of_lt_of_le hi hsz4.out)).trans (hw4.out.2 i hi hg hM)⟩
end
def drive_Disk_Read.f (l0 : List Int) : Option Int := none


set_option maxHeartbeats 2000000 in
set_option maxRecDepth 100000 in
theorem time_calls {w : World} {L g M : Nat} {A0 : Option Addr} {c0 : Nat} {data : List Int} {A1 : Option Addr} {c1 : Nat} {faults : List S121} {T : Int → Int} {t : Int} {N : Nat} (h : IsDisk w L g M A0 c0 data A1 c1 faults T t N) :
    Calls Try.prog 46 #[.pointer (some ⟨g, 0, none⟩)] w fun e w' => e = .returned (.int .i64 t) ∧ w' = w := by
  have hc0 : w.cell? ⟨g, 3, none⟩ = some (.int .i64 t) := (blk_cell h.cells 3).trans rfl
  clear h
  go_enter Try.func46, Try.ntmps46
  go_wp2
  go_ret
  exact ⟨rfl, rfl⟩
def drive_Disk_Time.f (l0 : List Int) : Option Int := none


set_option maxHeartbeats 2000000 in
set_option maxRecDepth 100000 in
theorem tries_calls {w : World} {L g M : Nat} {A0 : Option Addr} {c0 : Nat} {data : List Int} {A1 : Option Addr} {c1 : Nat} {faults : List S121} {T : Int → Int} {t : Int} {N : Nat} (h : IsDisk w L g M A0 c0 data A1 c1 faults T t N) (x : Int) (hx : (Lit.int .i64 x).wf = true) :
    Calls Try.prog 47 #[.pointer (some ⟨g, 0, none⟩), .int .i64 x] w fun e w' => e = .returned (.int .i64 (T x)) ∧ w' = w := by
  have hc0 : w.cell? ⟨g, 2, none⟩ = some (.map (some M)) := (blk_cell h.cells 2).trans rfl
  have hlook := h.map.look x hx
  clear h
  generalize T x = v at hlook ⊢
  go_enter Try.func47, Try.ntmps47
  go_wp2
  go_ret
  exact ⟨rfl, rfl⟩
def drive_Disk_Tries.f (l0 : List Int) : Option Int := none


-- NOT PRINTED: function 8 (wracklaw1_DriveReads)

end Go.Proofs.Ytdgkbpoljcndgaa.QDriveReads
