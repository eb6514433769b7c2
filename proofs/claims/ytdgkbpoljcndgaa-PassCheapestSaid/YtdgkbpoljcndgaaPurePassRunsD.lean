/- The reference's passes. No condition. -/
import Derived.Test.YtdgkbpoljcndgaaPurePassRunsB
import Derived.Test.YtdgkbpoljcndgaaPurePassRunsC
namespace Go.Proofs.Ytdgkbpoljcndgaa.Pure
open Go Go.RowKit Go.Maps Go.Proofs.Ytdgkbpoljcndgaa.QPassRuns Go.Proofs.YtdgkbpoljcndgaaW.PrintWords Go.Proofs.YtdgkbpoljcndgaaW.PrintLast Go.Proofs.YtdgkbpoljcndgaaW.PrintMore
set_option linter.unusedVariables false
set_option linter.unusedSimpArgs false
/-- what the reference has made at its start -/
structure RefF (wD w' : World) (n m : Nat) (AS : Option Addr) (cS : Nat) (AD : Option Addr) (cD ob : Nat) : Prop where
  S : (Kd.int .i64).R 3 w' wD.heap.size (fun _ => True) (.slice AS n cS) (List.replicate n 0)
  D : (Kd.int .u8).R 5 w' wD.heap.size (fun _ => True) (.slice AD m cD) (List.replicate m 0)
  o : w'.heap[ob]? = some (.cells #[.slice none 0 0, .slice none 0 0, .slice none 0 0, .int .i64 0] 82 (0, 0))
  ow : wD.heap.size ≤ ob
  b : Below wD.heap.size wD w'
/-- where a loop of the reference stands -/
structure RAt (E : RE) (w0 wr : World) (v : Value) (s : PS) (N : Nat) : Prop where
  job : IsRef E w0 wr v s
  sized : Sized E.n N s
section
variable {E : RE} {w0 w : World} {v : Value} {s : PS} {N : Nat}
theorem RAt.more (h : RAt E w0 w v s N) {N' : Nat} (hN : N ≤ N') : RAt E w0 w v s N' := ⟨h.job, h.sized.more hN⟩
theorem RAt.row (h : RAt E w0 w v s N) (hn : 0 < E.n) : ∃ S, E.AS = some ⟨S, 0, none⟩ := by
  obtain ⟨S, cS, hv, hb, _, _⟩ := Kd.R_form h.job.S (by rw [h.sized.st]; exact hn)
  simp only [RE.vS, Value.slice.injEq] at hv
  exact ⟨S, hv.1⟩
theorem RAt.cell (h : RAt E w0 w v s N) {S : Nat} (hS : E.AS = some ⟨S, 0, none⟩) (i : Nat) (hi : i < E.n) : w.cell? ⟨S, i, none⟩ = some (.int .i64 (s.st.getD i 0)) ∧ w.frozen? ⟨S, i, none⟩ = false := by
  have := h.job.S
  unfold RE.vS at this
  rw [hS] at this
  have := Kd.R_celln (enc := Value.int .i64) (h1 := fun _ => rfl) (0 : Int) this (i : Int) (by omega) (by omega)
  simpa [rdOf] using this
theorem RAt.states (h : RAt E w0 w v s N) : w.cell? ⟨E.ob, 0, none⟩ = some (.slice E.AS E.n E.cS) := (blk_cell h.job.o 0).trans rfl
theorem RAt.att (h : RAt E w0 w v s N) (hE : RightR E) (hN : N ≤ 1000000) (k : Nat) (hk : k < E.n) :
    Calls Try.prog 96 #[.int .i64 (k : Int), .pointer (some ⟨E.db, 0, none⟩), .pointer (some ⟨E.tb, 0, none⟩), .pointer (some ⟨E.ob, 0, none⟩)] w fun e w' => e = .returned (.bool (Pure.att E.data E.faults s k).2) ∧ ∃ v', RAt E w0 w' v' (Pure.att E.data E.faults s k).1 (N + 1) :=
  (att_calls h.job h.sized hE hN k hk).mono fun e w' ⟨h1, v', h2⟩ => ⟨h1, v', h2, h.sized.att _ _ hE.len k hk⟩
end
set_option maxHeartbeats 16000000 in
set_option maxRecDepth 100000 in
/-- the reference's passes -/
theorem passes_calls (A0 : Option Addr) (c0 : Nat) (data : List Int) (A1 : Option Addr) (c1 : Nat) (faults : List S121) (skip tries : Int) (w : World)
    (hr0 : Kd.C (Kd.int .u8) w A0 data.length data) (hc0 : data.length ≤ c0) (hr1 : Kd.C k121 w A1 faults.length faults) (hc1 : faults.length ≤ c1) (hn : faults.length ≤ 5864062014805) (he : errD data faults = 0) (hs0 : 0 ≤ skip ∧ skip ≤ 64 ∧ 1 ≤ tries ∧ tries ≤ 16) :
    Calls Try.prog 58 #[.agg #[.slice A0 data.length c0, .slice A1 faults.length c1], .agg #[.int .i64 skip, .int .i64 tries]] w fun e w' =>
      ∃ v0 v1 v2, e = .returned (.agg #[v0, v1, v2, .int .i64 (passes data faults (data.length / 64) skip tries).tm]) ∧
        (Kd.int .i64).R 3 w' w.heap.size (fun _ => True) v0 (passes data faults (data.length / 64) skip tries).st ∧ (Kd.int .u8).R 5 w' w.heap.size (fun _ => True) v1 (passes data faults (data.length / 64) skip tries).dat ∧
        (Kd.int .i64).R 3 w' w.heap.size (fun _ => True) v2 (passes data faults (data.length / 64) skip tries).rd ∧ Below w.heap.size w w' := by
  obtain ⟨e1, e2, e3⟩ := err_right data faults he
  have hu46 := Try.underlying46
  have hu80 := Try.underlying80
  have hu82 := Try.underlying82
  have HR0 := Aside0.mk hr0
  have HR1 := Aside0.mk hr1
  have HC0 := Aside0.mk hc0
  have HC1 := Aside0.mk hc1
  have HRT := Aside0.mk e3
  have HLEN := Aside0.mk e1
  have HMOD := Aside0.mk e2
  have HN := Aside0.mk hn
  have HS := Aside0.mk hs0
  obtain ⟨n, hnn⟩ : ∃ n : Nat, data.length / 64 = n := ⟨_, rfl⟩
  rw [hnn]
  obtain ⟨m, hm⟩ : ∃ m : Nat, 64 * n = m := ⟨_, rfl⟩
  have hn1 : n ≤ 1024 := by have := HLEN.out; omega
  have hmul : wrap64 (64 * (n : Int)) = (m : Int) := by unfold wrap64; omega
  have hq : Int.tdiv (data.length : Int) 64 = (n : Int) := by rw [Int.tdiv_eq_ediv_of_nonneg (by omega)]; omega
  have hq2 : IntKind.i64.wrap (n : Int) = (n : Int) := by rw [i64_w]; unfold wrap64; omega
  have HNN := Aside0.mk hnn
  have HMM := Aside0.mk hm
  clear hr0 hr1 hc0 hc1 e1 e2 e3 hn he hs0 hnn hm
  have HB := Aside0.mk (Below.refl w.heap.size w)
  go_enter Try.func58, Try.ntmps58
  go_wp2_with (first
    | ((with_reducible refine gate_dst (N := 2) rfl ?_); refine box_event ?hg (N := 2) ?hd (cs := #[.slice A0 data.length c0, .slice A1 faults.length c1]) (t := 46) ?hr ?_; (case hd => rfl); (case hg => rfl); (case hr => first | (go_simp; done) | (go_simp; rfl)); intro db hg w1 hbox hb; have HB1 := Aside0.mk (below_step HB.out hb); have BD := Aside0.mk hbox; have hdw : w.heap.size ≤ db := (by omega); clear hg hb hbox)
    | ((with_reducible refine gate_dst (N := 3) rfl ?_); refine box_event ?hg (N := 3) ?hd (cs := #[.int .i64 skip, .int .i64 tries]) (t := 80) ?hr ?_; (case hd => rfl); (case hg => rfl); (case hr => first | (go_simp; done) | (go_simp; rfl)); intro pb hg w2 hbox hb; have HB2 := Aside0.mk (below_step HB1.out hb); have BP2 := Aside0.mk hbox; have BD2 := Aside0.mk (blk_below BD.out hb); have hpw : w.heap.size ≤ pb := (by have := HB1.out.size; omega); clear hg hb hbox)
    | ((with_reducible refine gate_dst (N := 4) rfl ?_); refine box_event ?hg (N := 4) ?hd (cs := #[.slice none 0 0, .slice none 0 0, .slice none 0 0, .int .i64 0]) (t := 82) ?hr ?_; (case hd => rfl); (case hg => rfl); (case hr => first | (go_simp; done) | (go_simp; rfl)); intro rb hg w3 hbox hb; have HB3 := Aside0.mk (below_step HB2.out hb); have BP3 := Aside0.mk (blk_below BP2.out hb); have BR3 := Aside0.mk hbox; have BD3 := Aside0.mk (blk_below BD2.out hb); have hrw : w.heap.size ≤ rb := (by have := HB2.out.size; omega); have cd0 : w3.cell? ⟨db, 0, none⟩ = some (.slice A0 data.length c0) := (blk_cell BD3.out 0).trans rfl; clear hg hb hbox HB HB1 HB2 BP2 BD BD2))
  have hB3 := Aside0.mk (below_drew HB3.out)
  have hd3 := Aside0.mk (blk_drew BD3.out)
  have hp3 := Aside0.mk (blk_drew BP3.out)
  have hr3 := Aside0.mk (blk_drew BR3.out)
  clear HB3 BD3 BP3 BR3 cd0
  refine start_ (n := 8) (S := fun w' => True) (ds := []) #[false, false, false, false, false, false, false, false] (by kernel_rfl) rfl rfl trivial (fun hHeld => ?_)
  generalize w3.drew = wD at hB3 hd3 hp3 hr3 hHeld ⊢
  refine pure_ (i := 0) (N := some 19) (v := ?_) (a' := ?_) #[true, false, false, false, false, false, false, false] rfl rfl (by kernel_rfl) (fun _ _ _ h => h) (Or.inl ⟨by rfl, ?_⟩) ?_ ?_
  rotate_left
  · intro w'
    go_simp
    with_reducible rfl
  rotate_left
  · simp only [Act.put, List.setIfInBounds_toArray, List.set_cons_zero, List.set_cons_succ, i64_w, i32_w]
    rfl
  refine pure_ (i := 2) (N := some 21) (v := ?_) (a' := ?_) #[true, false, true, false, false, false, false, false] rfl rfl (by kernel_rfl) (fun _ _ _ h => h) (Or.inl ⟨by rfl, ?_⟩) ?_ ?_
  rotate_left
  · intro w'
    go_simp
    with_reducible rfl
  rotate_left
  · simp only [Act.put, List.setIfInBounds_toArray, List.set_cons_zero, List.set_cons_succ, i64_w, i32_w]
    rfl
  refine pure_ (i := 3) (N := some 22) (v := ?_) (a' := ?_) #[true, false, true, true, false, false, false, false] rfl rfl (by kernel_rfl) (fun _ _ _ h => h) (Or.inl ⟨by rfl, ?_⟩) ?_ ?_
  rotate_left
  · intro w'
    go_simp
    with_reducible rfl
  rotate_left
  · simp only [Act.put, List.setIfInBounds_toArray, List.set_cons_zero, List.set_cons_succ, i64_w, i32_w]
    rfl
  refine join_ (σ := Option Addr × Nat × Option Addr × Nat × Nat) 1 #[true, true, true, true, true, true, true, false] (fun s_ => [(20, .slice s_.1 n s_.2.1), (23, .slice s_.2.2.1 m s_.2.2.2.1), (6, .pointer (some ⟨s_.2.2.2.2, 0, none⟩)), (24, .agg #[.slice s_.1 n s_.2.1, .slice s_.2.2.1 m s_.2.2.2.1, .slice none 0 0, .int .i64 0])]) (fun s_ w' => RefF wD w' n m s_.1 s_.2.1 s_.2.2.1 s_.2.2.2.1 s_.2.2.2.2) ?_ ?_
  rotate_left
  · intro hCont
    refine three_ (i := 1) (j := 4) (k := 6) (Ni := some 20) (Nj := some 23) (Nk := some 6) #[true, true, true, true, false, false, false, false] #[true, false, true, true, true, false, false, false] #[true, false, true, true, false, false, true, false] rfl rfl rfl rfl rfl rfl (by kernel_rfl) (by decide) (by decide) (by decide) (fun K hK => ?_) (fun K hK => ?_) (fun K hK => ?_)
    · skip
      refine Kd.R_make_step (Kd.int .i64) (w0 := wD) wD.heap.size 3 (by rfl) (N := 20) rfl 37 _ _ rfl (n : Int) rfl rfl Try.underlying37 (.int .i64 0) 8 info3 rfl (by decide) (by decide) 0 (ok := fun _ => True) (okp := fun _ => True) rfl (fun _ hk => hk) trivial (by omega) (by rw [Int.toNat_natCast]; omega) (Below.refl wD.heap.size wD) (Below.refl wD.heap.size wD).size ?_
      intro vS wS hRS hBS hGS hnS
      rw [Int.toNat_natCast] at hRS
      obtain ⟨AS, cS, eS⟩ := Kd.R_slice hRS
      rw [List.length_replicate] at eS
      subst eS
      refine hK.out _ _ trivial (fun hHeld => ?_)
      clear hK K
      refine norm_ (a' := ?_) ?_ ?_
      rotate_left
      · show Act.put _ (some 20) _ = _
        simp only [Act.put, List.setIfInBounds_toArray, List.set_cons_zero, List.set_cons_succ, i64_w, i32_w]
        rfl
      refine two_ (i := 4) (j := 6) (Ni := some 23) (Nj := some 6) #[true, true, true, true, true, false, false, false] #[true, true, true, true, false, false, true, false] rfl rfl rfl rfl (by kernel_rfl) (by decide) (by decide) (fun K hK => ?_) (fun K hK => ?_)
      · skip
        refine Kd.R_make_step (Kd.int .u8) (w0 := wD) wD.heap.size 5 (by rfl) (N := 23) rfl 22 _ _ rfl (wrap64 (64 * (n : Int))) rfl rfl Try.underlying22 (.int .u8 0) 1 info5 rfl (by decide) (by decide) 0 (ok := fun _ => True) (okp := fun _ => True) rfl (fun _ hk => hk) trivial (by rw [hmul]; omega) (by rw [hmul, Int.toNat_natCast]; have := HMM.out; omega) hBS hBS.size ?_
        intro vD wE hRD hBE hGD hnD
        rw [hmul, Int.toNat_natCast] at hRD
        obtain ⟨AD, cD, eD⟩ := Kd.R_slice hRD
        rw [List.length_replicate] at eD
        subst eD
        refine hK.out _ _ trivial (fun hHeld => ?_)
        clear hK K
        refine norm_ (a' := ?_) ?_ ?_
        rotate_left
        · show Act.put _ (some 23) _ = _
          simp only [Act.put, List.setIfInBounds_toArray, List.set_cons_zero, List.set_cons_succ, i64_w, i32_w]
          rfl
        refine pure_ (i := 5) (N := some 24) (v := ?_) (a' := ?_) #[true, true, true, true, true, true, false, false] rfl rfl (by kernel_rfl) (fun _ _ _ h => h) (Or.inl ⟨by rfl, ?_⟩) ?_ ?_
        rotate_left
        · intro w'
          go_simp
          with_reducible rfl
        rotate_left
        · simp only [Act.put, List.setIfInBounds_toArray, List.set_cons_zero, List.set_cons_succ, i64_w, i32_w]
          rfl
        refine one_ (i := 6) (N := some 6) #[true, true, true, true, true, true, true, false] rfl rfl (by kernel_rfl) (by decide) (fun K hK => ?_)
        obtain ⟨wO, hwO⟩ : ∃ z, z = wE.alloc (.cells #[.slice none 0 0, .slice none 0 0, .slice none 0 0, .int .i64 0] 82) := ⟨_, rfl⟩
        refine value_ (w1 := ?_) (v := ?_) (by rfl) rfl ?_ ?_
        rotate_left 2
        · go_simp
          constructor
          · rfl
          · rfl
        have hO := blk_new wE (.cells #[.slice none 0 0, .slice none 0 0, .slice none 0 0, .int .i64 0] 82)
        have hBO := below_alloc (Below.refl wE.heap.size wE) (.cells #[.slice none 0 0, .slice none 0 0, .slice none 0 0, .int .i64 0] 82)
        rw [← hwO] at hO hBO ⊢
        have hBDO := below_step hBE hBO
        have hszO := (hBE).size
        refine hK.out _ _ trivial (fun hHeld => ?_)
        clear hK K
        refine norm_ (a' := ?_) ?_ ?_
        rotate_left
        · show Act.put _ (some 6) _ = _
          simp only [Act.put, List.setIfInBounds_toArray, List.set_cons_zero, List.set_cons_succ, i64_w, i32_w]
          rfl
        exact norm_ (by simp only [putAll, Act.put, List.setIfInBounds_toArray, List.set_cons_zero, List.set_cons_succ]) (hCont (AS, cS, AD, cD, wE.heap.size) _ ⟨(Kd.R_below (Kd.R_grown hRS hGD (fun _ _ => by simp)) hBO), (Kd.R_below hRD hBO), hO, hszO, hBDO⟩)
      · skip
        obtain ⟨wO, hwO⟩ : ∃ z, z = wS.alloc (.cells #[.slice none 0 0, .slice none 0 0, .slice none 0 0, .int .i64 0] 82) := ⟨_, rfl⟩
        refine value_ (w1 := ?_) (v := ?_) (by rfl) rfl ?_ ?_
        rotate_left 2
        · go_simp
          constructor
          · rfl
          · rfl
        have hO := blk_new wS (.cells #[.slice none 0 0, .slice none 0 0, .slice none 0 0, .int .i64 0] 82)
        have hBO := below_alloc (Below.refl wS.heap.size wS) (.cells #[.slice none 0 0, .slice none 0 0, .slice none 0 0, .int .i64 0] 82)
        rw [← hwO] at hO hBO ⊢
        have hBDO := below_step hBS hBO
        have hszO := (hBS).size
        refine hK.out _ _ trivial (fun hHeld => ?_)
        clear hK K
        refine norm_ (a' := ?_) ?_ ?_
        rotate_left
        · show Act.put _ (some 6) _ = _
          simp only [Act.put, List.setIfInBounds_toArray, List.set_cons_zero, List.set_cons_succ, i64_w, i32_w]
          rfl
        refine one_ (i := 4) (N := some 23) #[true, true, true, true, true, false, true, false] rfl rfl (by kernel_rfl) (by decide) (fun K hK => ?_)
        refine Kd.R_make_step (Kd.int .u8) (w0 := wD) wD.heap.size 5 (by rfl) (N := 23) rfl 22 _ _ rfl (wrap64 (64 * (n : Int))) rfl rfl Try.underlying22 (.int .u8 0) 1 info5 rfl (by decide) (by decide) 0 (ok := fun _ => True) (okp := fun _ => True) rfl (fun _ hk => hk) trivial (by rw [hmul]; omega) (by rw [hmul, Int.toNat_natCast]; have := HMM.out; omega) hBDO hBDO.size ?_
        intro vD wE hRD hBE hGD hnD
        rw [hmul, Int.toNat_natCast] at hRD
        obtain ⟨AD, cD, eD⟩ := Kd.R_slice hRD
        rw [List.length_replicate] at eD
        subst eD
        refine hK.out _ _ trivial (fun hHeld => ?_)
        clear hK K
        refine norm_ (a' := ?_) ?_ ?_
        rotate_left
        · show Act.put _ (some 23) _ = _
          simp only [Act.put, List.setIfInBounds_toArray, List.set_cons_zero, List.set_cons_succ, i64_w, i32_w]
          rfl
        refine pure_ (i := 5) (N := some 24) (v := ?_) (a' := ?_) #[true, true, true, true, true, true, true, false] rfl rfl (by kernel_rfl) (fun _ _ _ h => h) (Or.inl ⟨by rfl, ?_⟩) ?_ ?_
        rotate_left
        · intro w'
          go_simp
          with_reducible rfl
        rotate_left
        · simp only [Act.put, List.setIfInBounds_toArray, List.set_cons_zero, List.set_cons_succ, i64_w, i32_w]
          rfl
        exact norm_ (by simp only [putAll, Act.put, List.setIfInBounds_toArray, List.set_cons_zero, List.set_cons_succ]) (hCont (AS, cS, AD, cD, wS.heap.size) _ ⟨(Kd.R_grown (Kd.R_below hRS hBO) hGD (fun _ _ => by simp)), hRD, (blk_grown hO hGD (by simp)), hszO, hBE⟩)
    · skip
      refine Kd.R_make_step (Kd.int .u8) (w0 := wD) wD.heap.size 5 (by rfl) (N := 23) rfl 22 _ _ rfl (wrap64 (64 * (n : Int))) rfl rfl Try.underlying22 (.int .u8 0) 1 info5 rfl (by decide) (by decide) 0 (ok := fun _ => True) (okp := fun _ => True) rfl (fun _ hk => hk) trivial (by rw [hmul]; omega) (by rw [hmul, Int.toNat_natCast]; have := HMM.out; omega) (Below.refl wD.heap.size wD) (Below.refl wD.heap.size wD).size ?_
      intro vD wE hRD hBE hGD hnD
      rw [hmul, Int.toNat_natCast] at hRD
      obtain ⟨AD, cD, eD⟩ := Kd.R_slice hRD
      rw [List.length_replicate] at eD
      subst eD
      refine hK.out _ _ trivial (fun hHeld => ?_)
      clear hK K
      refine norm_ (a' := ?_) ?_ ?_
      rotate_left
      · show Act.put _ (some 23) _ = _
        simp only [Act.put, List.setIfInBounds_toArray, List.set_cons_zero, List.set_cons_succ, i64_w, i32_w]
        rfl
      refine two_ (i := 1) (j := 6) (Ni := some 20) (Nj := some 6) #[true, true, true, true, true, false, false, false] #[true, false, true, true, true, false, true, false] rfl rfl rfl rfl (by kernel_rfl) (by decide) (by decide) (fun K hK => ?_) (fun K hK => ?_)
      · skip
        refine Kd.R_make_step (Kd.int .i64) (w0 := wD) wD.heap.size 3 (by rfl) (N := 20) rfl 37 _ _ rfl (n : Int) rfl rfl Try.underlying37 (.int .i64 0) 8 info3 rfl (by decide) (by decide) 0 (ok := fun _ => True) (okp := fun _ => True) rfl (fun _ hk => hk) trivial (by omega) (by rw [Int.toNat_natCast]; omega) hBE hBE.size ?_
        intro vS wS hRS hBS hGS hnS
        rw [Int.toNat_natCast] at hRS
        obtain ⟨AS, cS, eS⟩ := Kd.R_slice hRS
        rw [List.length_replicate] at eS
        subst eS
        refine hK.out _ _ trivial (fun hHeld => ?_)
        clear hK K
        refine norm_ (a' := ?_) ?_ ?_
        rotate_left
        · show Act.put _ (some 20) _ = _
          simp only [Act.put, List.setIfInBounds_toArray, List.set_cons_zero, List.set_cons_succ, i64_w, i32_w]
          rfl
        refine pure_ (i := 5) (N := some 24) (v := ?_) (a' := ?_) #[true, true, true, true, true, true, false, false] rfl rfl (by kernel_rfl) (fun _ _ _ h => h) (Or.inl ⟨by rfl, ?_⟩) ?_ ?_
        rotate_left
        · intro w'
          go_simp
          with_reducible rfl
        rotate_left
        · simp only [Act.put, List.setIfInBounds_toArray, List.set_cons_zero, List.set_cons_succ, i64_w, i32_w]
          rfl
        refine one_ (i := 6) (N := some 6) #[true, true, true, true, true, true, true, false] rfl rfl (by kernel_rfl) (by decide) (fun K hK => ?_)
        obtain ⟨wO, hwO⟩ : ∃ z, z = wS.alloc (.cells #[.slice none 0 0, .slice none 0 0, .slice none 0 0, .int .i64 0] 82) := ⟨_, rfl⟩
        refine value_ (w1 := ?_) (v := ?_) (by rfl) rfl ?_ ?_
        rotate_left 2
        · go_simp
          constructor
          · rfl
          · rfl
        have hO := blk_new wS (.cells #[.slice none 0 0, .slice none 0 0, .slice none 0 0, .int .i64 0] 82)
        have hBO := below_alloc (Below.refl wS.heap.size wS) (.cells #[.slice none 0 0, .slice none 0 0, .slice none 0 0, .int .i64 0] 82)
        rw [← hwO] at hO hBO ⊢
        have hBDO := below_step hBS hBO
        have hszO := (hBS).size
        refine hK.out _ _ trivial (fun hHeld => ?_)
        clear hK K
        refine norm_ (a' := ?_) ?_ ?_
        rotate_left
        · show Act.put _ (some 6) _ = _
          simp only [Act.put, List.setIfInBounds_toArray, List.set_cons_zero, List.set_cons_succ, i64_w, i32_w]
          rfl
        exact norm_ (by simp only [putAll, Act.put, List.setIfInBounds_toArray, List.set_cons_zero, List.set_cons_succ]) (hCont (AS, cS, AD, cD, wS.heap.size) _ ⟨(Kd.R_below hRS hBO), (Kd.R_below (Kd.R_grown hRD hGS (fun _ _ => by simp)) hBO), hO, hszO, hBDO⟩)
      · skip
        obtain ⟨wO, hwO⟩ : ∃ z, z = wE.alloc (.cells #[.slice none 0 0, .slice none 0 0, .slice none 0 0, .int .i64 0] 82) := ⟨_, rfl⟩
        refine value_ (w1 := ?_) (v := ?_) (by rfl) rfl ?_ ?_
        rotate_left 2
        · go_simp
          constructor
          · rfl
          · rfl
        have hO := blk_new wE (.cells #[.slice none 0 0, .slice none 0 0, .slice none 0 0, .int .i64 0] 82)
        have hBO := below_alloc (Below.refl wE.heap.size wE) (.cells #[.slice none 0 0, .slice none 0 0, .slice none 0 0, .int .i64 0] 82)
        rw [← hwO] at hO hBO ⊢
        have hBDO := below_step hBE hBO
        have hszO := (hBE).size
        refine hK.out _ _ trivial (fun hHeld => ?_)
        clear hK K
        refine norm_ (a' := ?_) ?_ ?_
        rotate_left
        · show Act.put _ (some 6) _ = _
          simp only [Act.put, List.setIfInBounds_toArray, List.set_cons_zero, List.set_cons_succ, i64_w, i32_w]
          rfl
        refine one_ (i := 1) (N := some 20) #[true, true, true, true, true, false, true, false] rfl rfl (by kernel_rfl) (by decide) (fun K hK => ?_)
        refine Kd.R_make_step (Kd.int .i64) (w0 := wD) wD.heap.size 3 (by rfl) (N := 20) rfl 37 _ _ rfl (n : Int) rfl rfl Try.underlying37 (.int .i64 0) 8 info3 rfl (by decide) (by decide) 0 (ok := fun _ => True) (okp := fun _ => True) rfl (fun _ hk => hk) trivial (by omega) (by rw [Int.toNat_natCast]; omega) hBDO hBDO.size ?_
        intro vS wS hRS hBS hGS hnS
        rw [Int.toNat_natCast] at hRS
        obtain ⟨AS, cS, eS⟩ := Kd.R_slice hRS
        rw [List.length_replicate] at eS
        subst eS
        refine hK.out _ _ trivial (fun hHeld => ?_)
        clear hK K
        refine norm_ (a' := ?_) ?_ ?_
        rotate_left
        · show Act.put _ (some 20) _ = _
          simp only [Act.put, List.setIfInBounds_toArray, List.set_cons_zero, List.set_cons_succ, i64_w, i32_w]
          rfl
        refine pure_ (i := 5) (N := some 24) (v := ?_) (a' := ?_) #[true, true, true, true, true, true, true, false] rfl rfl (by kernel_rfl) (fun _ _ _ h => h) (Or.inl ⟨by rfl, ?_⟩) ?_ ?_
        rotate_left
        · intro w'
          go_simp
          with_reducible rfl
        rotate_left
        · simp only [Act.put, List.setIfInBounds_toArray, List.set_cons_zero, List.set_cons_succ, i64_w, i32_w]
          rfl
        exact norm_ (by simp only [putAll, Act.put, List.setIfInBounds_toArray, List.set_cons_zero, List.set_cons_succ]) (hCont (AS, cS, AD, cD, wE.heap.size) _ ⟨hRS, (Kd.R_grown (Kd.R_below hRD hBO) hGS (fun _ _ => by simp)), (blk_grown hO hGS (by simp)), hszO, hBS⟩)
    · skip
      obtain ⟨wO, hwO⟩ : ∃ z, z = wD.alloc (.cells #[.slice none 0 0, .slice none 0 0, .slice none 0 0, .int .i64 0] 82) := ⟨_, rfl⟩
      refine value_ (w1 := ?_) (v := ?_) (by rfl) rfl ?_ ?_
      rotate_left 2
      · go_simp
        constructor
        · rfl
        · rfl
      have hO := blk_new wD (.cells #[.slice none 0 0, .slice none 0 0, .slice none 0 0, .int .i64 0] 82)
      have hBO := below_alloc (Below.refl wD.heap.size wD) (.cells #[.slice none 0 0, .slice none 0 0, .slice none 0 0, .int .i64 0] 82)
      rw [← hwO] at hO hBO ⊢
      have hBDO := below_step (Below.refl wD.heap.size wD) hBO
      have hszO := ((Below.refl wD.heap.size wD)).size
      refine hK.out _ _ trivial (fun hHeld => ?_)
      clear hK K
      refine norm_ (a' := ?_) ?_ ?_
      rotate_left
      · show Act.put _ (some 6) _ = _
        simp only [Act.put, List.setIfInBounds_toArray, List.set_cons_zero, List.set_cons_succ, i64_w, i32_w]
        rfl
      refine two_ (i := 1) (j := 4) (Ni := some 20) (Nj := some 23) #[true, true, true, true, false, false, true, false] #[true, false, true, true, true, false, true, false] rfl rfl rfl rfl (by kernel_rfl) (by decide) (by decide) (fun K hK => ?_) (fun K hK => ?_)
      · skip
        refine Kd.R_make_step (Kd.int .i64) (w0 := wD) wD.heap.size 3 (by rfl) (N := 20) rfl 37 _ _ rfl (n : Int) rfl rfl Try.underlying37 (.int .i64 0) 8 info3 rfl (by decide) (by decide) 0 (ok := fun _ => True) (okp := fun _ => True) rfl (fun _ hk => hk) trivial (by omega) (by rw [Int.toNat_natCast]; omega) hBDO hBDO.size ?_
        intro vS wS hRS hBS hGS hnS
        rw [Int.toNat_natCast] at hRS
        obtain ⟨AS, cS, eS⟩ := Kd.R_slice hRS
        rw [List.length_replicate] at eS
        subst eS
        refine hK.out _ _ trivial (fun hHeld => ?_)
        clear hK K
        refine norm_ (a' := ?_) ?_ ?_
        rotate_left
        · show Act.put _ (some 20) _ = _
          simp only [Act.put, List.setIfInBounds_toArray, List.set_cons_zero, List.set_cons_succ, i64_w, i32_w]
          rfl
        refine one_ (i := 4) (N := some 23) #[true, true, true, true, true, false, true, false] rfl rfl (by kernel_rfl) (by decide) (fun K hK => ?_)
        refine Kd.R_make_step (Kd.int .u8) (w0 := wD) wD.heap.size 5 (by rfl) (N := 23) rfl 22 _ _ rfl (wrap64 (64 * (n : Int))) rfl rfl Try.underlying22 (.int .u8 0) 1 info5 rfl (by decide) (by decide) 0 (ok := fun _ => True) (okp := fun _ => True) rfl (fun _ hk => hk) trivial (by rw [hmul]; omega) (by rw [hmul, Int.toNat_natCast]; have := HMM.out; omega) hBS hBS.size ?_
        intro vD wE hRD hBE hGD hnD
        rw [hmul, Int.toNat_natCast] at hRD
        obtain ⟨AD, cD, eD⟩ := Kd.R_slice hRD
        rw [List.length_replicate] at eD
        subst eD
        refine hK.out _ _ trivial (fun hHeld => ?_)
        clear hK K
        refine norm_ (a' := ?_) ?_ ?_
        rotate_left
        · show Act.put _ (some 23) _ = _
          simp only [Act.put, List.setIfInBounds_toArray, List.set_cons_zero, List.set_cons_succ, i64_w, i32_w]
          rfl
        refine pure_ (i := 5) (N := some 24) (v := ?_) (a' := ?_) #[true, true, true, true, true, true, true, false] rfl rfl (by kernel_rfl) (fun _ _ _ h => h) (Or.inl ⟨by rfl, ?_⟩) ?_ ?_
        rotate_left
        · intro w'
          go_simp
          with_reducible rfl
        rotate_left
        · simp only [Act.put, List.setIfInBounds_toArray, List.set_cons_zero, List.set_cons_succ, i64_w, i32_w]
          rfl
        exact norm_ (by simp only [putAll, Act.put, List.setIfInBounds_toArray, List.set_cons_zero, List.set_cons_succ]) (hCont (AS, cS, AD, cD, wD.heap.size) _ ⟨(Kd.R_grown hRS hGD (fun _ _ => by simp)), hRD, (blk_grown (blk_grown hO hGS (by simp)) hGD (by simp)), hszO, hBE⟩)
      · skip
        refine Kd.R_make_step (Kd.int .u8) (w0 := wD) wD.heap.size 5 (by rfl) (N := 23) rfl 22 _ _ rfl (wrap64 (64 * (n : Int))) rfl rfl Try.underlying22 (.int .u8 0) 1 info5 rfl (by decide) (by decide) 0 (ok := fun _ => True) (okp := fun _ => True) rfl (fun _ hk => hk) trivial (by rw [hmul]; omega) (by rw [hmul, Int.toNat_natCast]; have := HMM.out; omega) hBDO hBDO.size ?_
        intro vD wE hRD hBE hGD hnD
        rw [hmul, Int.toNat_natCast] at hRD
        obtain ⟨AD, cD, eD⟩ := Kd.R_slice hRD
        rw [List.length_replicate] at eD
        subst eD
        refine hK.out _ _ trivial (fun hHeld => ?_)
        clear hK K
        refine norm_ (a' := ?_) ?_ ?_
        rotate_left
        · show Act.put _ (some 23) _ = _
          simp only [Act.put, List.setIfInBounds_toArray, List.set_cons_zero, List.set_cons_succ, i64_w, i32_w]
          rfl
        refine one_ (i := 1) (N := some 20) #[true, true, true, true, true, false, true, false] rfl rfl (by kernel_rfl) (by decide) (fun K hK => ?_)
        refine Kd.R_make_step (Kd.int .i64) (w0 := wD) wD.heap.size 3 (by rfl) (N := 20) rfl 37 _ _ rfl (n : Int) rfl rfl Try.underlying37 (.int .i64 0) 8 info3 rfl (by decide) (by decide) 0 (ok := fun _ => True) (okp := fun _ => True) rfl (fun _ hk => hk) trivial (by omega) (by rw [Int.toNat_natCast]; omega) hBE hBE.size ?_
        intro vS wS hRS hBS hGS hnS
        rw [Int.toNat_natCast] at hRS
        obtain ⟨AS, cS, eS⟩ := Kd.R_slice hRS
        rw [List.length_replicate] at eS
        subst eS
        refine hK.out _ _ trivial (fun hHeld => ?_)
        clear hK K
        refine norm_ (a' := ?_) ?_ ?_
        rotate_left
        · show Act.put _ (some 20) _ = _
          simp only [Act.put, List.setIfInBounds_toArray, List.set_cons_zero, List.set_cons_succ, i64_w, i32_w]
          rfl
        refine pure_ (i := 5) (N := some 24) (v := ?_) (a' := ?_) #[true, true, true, true, true, true, true, false] rfl rfl (by kernel_rfl) (fun _ _ _ h => h) (Or.inl ⟨by rfl, ?_⟩) ?_ ?_
        rotate_left
        · intro w'
          go_simp
          with_reducible rfl
        rotate_left
        · simp only [Act.put, List.setIfInBounds_toArray, List.set_cons_zero, List.set_cons_succ, i64_w, i32_w]
          rfl
        exact norm_ (by simp only [putAll, Act.put, List.setIfInBounds_toArray, List.set_cons_zero, List.set_cons_succ]) (hCont (AS, cS, AD, cD, wD.heap.size) _ ⟨hRS, (Kd.R_grown hRD hGS (fun _ _ => by simp)), (blk_grown (blk_grown hO hGD (by simp)) hGS (by simp)), hszO, hBS⟩)
  rintro ⟨AS, cS, AD, cD, ob⟩ w6 hnew
  have hHeld : True := trivial
  simp only at hnew
  have o0 : w6.cell? ⟨ob, 0, none⟩ = some (.slice none 0 0) := (blk_cell hnew.o 0).trans rfl
  have z0 := blk_frozen hnew.o 0
  have ho2 := blk_put hnew.o 0 (.slice AS n cS) rfl
  have o1 : (w6.setCell ⟨ob, 0, none⟩ (.slice AS n cS)).cell? ⟨ob, 1, none⟩ = some (.slice none 0 0) := (blk_cell ho2 1).trans rfl
  have z1 := blk_frozen ho2 1
  have ho3 := blk_put ho2 1 (.slice AD m cD) rfl
  have o2 : ((w6.setCell ⟨ob, 0, none⟩ (.slice AS n cS)).setCell ⟨ob, 1, none⟩ (.slice AD m cD)).cell? ⟨ob, 2, none⟩ = some (.slice none 0 0) := (blk_cell ho3 2).trans rfl
  have z2 := blk_frozen ho3 2
  have ho4 := blk_put ho3 2 (.slice none 0 0) rfl
  have o3 : (((w6.setCell ⟨ob, 0, none⟩ (.slice AS n cS)).setCell ⟨ob, 1, none⟩ (.slice AD m cD)).setCell ⟨ob, 2, none⟩ (.slice none 0 0)).cell? ⟨ob, 3, none⟩ = some (.int .i64 0) := (blk_cell ho4 3).trans rfl
  have z3 := blk_frozen ho4 3
  have ho5 := blk_put ho4 3 (.int .i64 0) rfl
  refine norm_ (a' := ?_) ?_ ?_
  rotate_left
  · simp only [putAll, Act.put, List.setIfInBounds_toArray, List.set_cons_zero, List.set_cons_succ]
    rfl
  refine one_ (i := 7) (N := none) #[true, true, true, true, true, true, true, true] rfl rfl (by kernel_rfl) (by decide) (fun K hK => ?_)
  refine skip_ (w1 := ?_) (by rfl) rfl ?_ ?_
  rotate_left
  · go_simp
    rfl
  refine hK.out _ _ trivial (fun hHeld => ?_)
  clear hK K
  refine done_ (by kernel_rfl) ?_
  have hO7 : ((((w6.setCell ⟨ob, 0, none⟩ (.slice AS n cS)).setCell ⟨ob, 1, none⟩ (.slice AD m cD)).setCell ⟨ob, 2, none⟩ (.slice none 0 0)).setCell ⟨ob, 3, none⟩ (.int .i64 0)).heap[ob]? = some (.cells #[.slice AS n cS, .slice AD m cD, .slice none 0 0, .int .i64 0] 82 (0, 0)) := ho5
  have hS7 : (Kd.int .i64).R 3 ((((w6.setCell ⟨ob, 0, none⟩ (.slice AS n cS)).setCell ⟨ob, 1, none⟩ (.slice AD m cD)).setCell ⟨ob, 2, none⟩ (.slice none 0 0)).setCell ⟨ob, 3, none⟩ (.int .i64 0)) wD.heap.size (fun _ => True) (.slice AS n cS) (List.replicate n 0) := Kd.R_set (Kd.R_set (Kd.R_set (Kd.R_set hnew.S hnew.o (by decide) 0 _) ho2 (by decide) 1 _) ho3 (by decide) 2 _) ho4 (by decide) 3 _
  have hD7 : (Kd.int .u8).R 5 ((((w6.setCell ⟨ob, 0, none⟩ (.slice AS n cS)).setCell ⟨ob, 1, none⟩ (.slice AD m cD)).setCell ⟨ob, 2, none⟩ (.slice none 0 0)).setCell ⟨ob, 3, none⟩ (.int .i64 0)) wD.heap.size (fun _ => True) (.slice AD m cD) (List.replicate m 0) := Kd.R_set (Kd.R_set (Kd.R_set (Kd.R_set hnew.D hnew.o (by decide) 0 _) ho2 (by decide) 1 _) ho3 (by decide) 2 _) ho4 (by decide) 3 _
  have hb7 : Below wD.heap.size wD ((((w6.setCell ⟨ob, 0, none⟩ (.slice AS n cS)).setCell ⟨ob, 1, none⟩ (.slice AD m cD)).setCell ⟨ob, 2, none⟩ (.slice none 0 0)).setCell ⟨ob, 3, none⟩ (.int .i64 0)) := (((hnew.b.setCell (p := ⟨ob, 0, none⟩) hnew.ow _).setCell (p := ⟨ob, 1, none⟩) hnew.ow _).setCell (p := ⟨ob, 2, none⟩) hnew.ow _).setCell (p := ⟨ob, 3, none⟩) hnew.ow _
  have how : wD.heap.size ≤ ob := hnew.ow
  clear o0 z0 ho2 o1 z1 ho3 o2 z2 ho4 o3 z3 ho5 hnew hHeld
  generalize (((w6.setCell ⟨ob, 0, none⟩ (.slice AS n cS)).setCell ⟨ob, 1, none⟩ (.slice AD m cD)).setCell ⟨ob, 2, none⟩ (.slice none 0 0)).setCell ⟨ob, 3, none⟩ (.int .i64 0) = w7 at hO7 hS7 hD7 hb7 ⊢
  have hB7 := Aside0.mk (below_step hB3.out hb7)
  have hd7 := Aside0.mk (blk_below hd3.out hb7)
  have hp7 := Aside0.mk (blk_below hp3.out hb7)
  have hr7 := Aside0.mk (blk_below hr3.out hb7)
  have hwD := hB3.out.size
  have hrD := Aside0.mk (blk_lt hr3.out)
  clear hb7 hB3 hd3 hp3 hr3
  replace hO7 := Aside0.mk hO7
  replace hS7 := Aside0.mk hS7
  replace hD7 := Aside0.mk hD7
  go_wp2_with (first
    | ((with_reducible refine gate_dst (N := 26) rfl ?_); refine Kd.R_make (Kd.int .i64) (w0 := w) w.heap.size 3 rfl (N := 26) rfl 37 _ _ rfl (n : Int) rfl rfl Try.underlying37 (.int .i64 0) 8 info3 rfl (by decide) (by decide) 0 (ok := fun _ => True) (okp := fun _ => True) rfl (fun _ hk => hk) trivial (by omega) (by rw [Int.toNat_natCast]; omega) hB7.out hB7.out.size ?_; intro vT w8 hT8 hB8 hG8 hn8; rw [Int.toNat_natCast] at hT8; obtain ⟨AT, cT, eT⟩ := Kd.R_slice hT8; rw [List.length_replicate] at eT; subst eT; have hO8 := Aside0.mk (blk_grown hO7.out hG8 (by simp)); have hS8 := Aside0.mk (Kd.R_grown hS7.out hG8 (fun _ _ => by simp)); have hD8 := Aside0.mk (Kd.R_grown hD7.out hG8 (fun _ _ => by simp)); have hd8 := Aside0.mk (blk_grown hd7.out hG8 (by simp)); have hp8 := Aside0.mk (blk_grown hp7.out hG8 (by simp)); have hr8 := Aside0.mk (blk_grown hr7.out hG8 (by simp)); have hTS : ∀ i, some i = (Value.slice AT n cT).ownBlock → some i ≠ (Value.slice AS n cS).ownBlock := (fun i hi he => by obtain ⟨b, hb, hle⟩ := hn8; have h1 := Kd.R_lt hS7.out i he.symm; rw [hb] at hi; injection hi with hi; omega); replace hTS := Aside0.mk hTS; replace hT8 := Aside0.mk hT8; replace hB8 := Aside0.mk hB8; clear hG8 hn8 hO7 hS7 hD7 hd7 hp7 hr7 hB7)
    | ((with_reducible refine gate_dst (N := 7) rfl ?_); refine box_event ?hg (N := 7) ?hd (cs := #[.slice none 0 0]) (t := 37) ?hr ?_; (case hd => rfl); (case hg => rfl); (case hr => first | (go_simp; done) | (go_simp; rfl)); intro tb hg w9 hbox hb; have hT9 := Aside0.mk (Kd.R_below hT8.out hb); have hS9 := Aside0.mk (Kd.R_below hS8.out hb); have hD9 := Aside0.mk (Kd.R_below hD8.out hb); have hO9 := Aside0.mk (blk_below hO8.out hb); have hd9 := Aside0.mk (blk_below hd8.out hb); have hp9 := Aside0.mk (blk_below hp8.out hb); have hr9 := Aside0.mk (blk_below hr8.out hb); have hB9 := Aside0.mk (below_step hB8.out hb); have htw : w.heap.size ≤ tb := (by have := hB8.out.size; omega); have b0 : w9.cell? ⟨tb, 0, none⟩ = some (.slice none 0 0) := (blk_cell hbox 0).trans rfl; have b1 := blk_frozen hbox 0; have hX9 := Aside0.mk hbox; clear hg hb hbox hT8 hS8 hD8 hO8 hd8 hp8 hr8 hB8)
    | ((with_reducible refine gate_store (t := 37) (p := 7) rfl ?_); refine store_event (t := 37) (p := 7) (v := ?vo) (w1 := w9.setCell ⟨tb, 0, none⟩ (.slice AT n cT)) ?hg ?ho ?hn ?hr ?_; (case ho => rfl); (case hg => rfl); (case hn => rfl); (case hr => first | (go_simp; done) | (go_simp; rfl)); intro wA hw; have hXA := blk_put hX9.out 0 (.slice AT n cT) rfl; have hTA := Kd.R_set hT9.out hX9.out (by decide) 0 (.slice AT n cT); have hSA := Kd.R_set hS9.out hX9.out (by decide) 0 (.slice AT n cT); have hDA := Kd.R_set hD9.out hX9.out (by decide) 0 (.slice AT n cT); have hOA := blk_far hO9.out (p := ⟨tb, 0, none⟩) (blk_ne hO9.out hX9.out (by decide)) (.slice AT n cT); have hdA := blk_far hd9.out (p := ⟨tb, 0, none⟩) (blk_ne hd9.out hX9.out (by decide)) (.slice AT n cT); have hpA := blk_far hp9.out (p := ⟨tb, 0, none⟩) (blk_ne hp9.out hX9.out (by decide)) (.slice AT n cT); have hrA := blk_far hr9.out (p := ⟨tb, 0, none⟩) (blk_ne hr9.out hX9.out (by decide)) (.slice AT n cT); have hBA := hB9.out.setCell (p := ⟨tb, 0, none⟩) htw (.slice AT n cT); rw [← hw] at hXA hTA hSA hDA hOA hdA hpA hrA hBA; replace hXA := Aside0.mk hXA; replace hTA := Aside0.mk hTA; replace hSA := Aside0.mk hSA; replace hDA := Aside0.mk hDA; replace hOA := Aside0.mk hOA; replace hdA := Aside0.mk hdA; replace hpA := Aside0.mk hpA; replace hrA := Aside0.mk hrA; replace hBA := Aside0.mk hBA; clear hw b0 b1 hT9 hS9 hD9 hO9 hd9 hp9 hr9 hB9 hX9))
  have hne : rb ≠ ob := by have := hrD.out; omega
  obtain ⟨E, hE⟩ : ∃ E : RE, E = ⟨db, tb, ob, A0, c0, data, A1, c1, faults, n, AS, cS, AD, cD, AT, cT, pb, rb, skip, tries⟩ := ⟨_, rfl⟩
  have htrs : List.replicate n 0 = trs n (ps0 n).tr := by
    apply List.ext_getElem?
    intro i
    unfold trs ps0
    by_cases hi : i < n
    · simp [List.getElem?_range hi, hi]
    · simp [List.getElem?_eq_none (l := List.range n) (i := i) (by simp; omega), hi]
  have hJ : IsRef E w wA (.slice none 0 0) (ps0 n) := by
    have hm := HMM.out
    have hT := hTA.out
    rw [htrs] at hT
    subst hE
    subst hm
    exact ⟨hBA.out, HR0.out, HR1.out, HC0.out, HC1.out, hdA.out, hXA.out, hOA.out, Kd.R_lower (Kd.R_tight (d := Kd.int .i64) rfl hSA.out) hwD, Kd.R_lower (Kd.R_tight (d := Kd.int .u8) rfl hDA.out) hwD, Kd.R_mono (Kd.R_tight (d := Kd.int .i64) rfl hT) (fun k hk => ⟨hk, hTS.out k hk⟩), Kd.R_nil _ _ _ _ _, hdw, htw, Nat.le_trans hwD how, hpA.out, hrA.out, hne⟩
  have en : E.n = n := by rw [hE]
  have hA0 : RAt E w wA (.slice none 0 0) (ps0 E.n) 0 := ⟨by rw [en]; exact hJ, ps0_sized _⟩
  have hRR : RightR E := ⟨by rw [hE]; exact HRT.out, by rw [hE]; exact HLEN.out, by rw [hE]; have := HNN.out; have := HMOD.out; show data.length = 64 * n; omega, by rw [hE]; exact HN.out⟩
  have edb : E.db = db := by rw [hE]
  have etb : E.tb = tb := by rw [hE]
  have eob : E.ob = ob := by rw [hE]
  have epb : E.pb = pb := by rw [hE]
  have erb : E.rb = rb := by rw [hE]
  have ed : E.data = data := by rw [hE]
  have ef : E.faults = faults := by rw [hE]
  have es : E.skip = skip := by rw [hE]
  have et : E.tries = tries := by rw [hE]
  rw [← edb, ← etb, ← eob, ← epb, ← erb, ← en]
  rw [← en] at hn1 hq hq2
  have hE9 : passes data faults n skip tries = passes E.data E.faults E.n E.skip E.tries := by rw [ed, ef, es, et, en]
  replace hE9 := Aside0.mk hE9
  have hSK : 0 ≤ E.skip ∧ E.skip ≤ 64 ∧ 1 ≤ E.tries ∧ E.tries ≤ 16 := by rw [es, et]; exact HS.out
  have hrw2 : w.heap.size ≤ E.rb := by rw [erb]; exact hrw
  clear hE hJ htrs hne hXA hTA hSA hDA hOA hdA hpA hrA hBA hTS edb etb eob epb erb en ed ef es et HR0 HR1 HC0 HC1 HRT HLEN HMOD HN HS HNN HMM hmul hq hq2 hdw hpw hrw how hwD htw hu46 hu80
  replace hA0 := Aside0.mk hA0
  replace hRR := Aside0.mk hRR
  replace hSK := Aside0.mk hSK
  replace hrw2 := Aside0.mk hrw2
  go_loopw [9, 29] (fun vc vi wr => ∃ (i : Nat) (v : Value) (c : Int) (cur : PS), i ≤ E.n ∧ vc = .int .i64 c ∧ vi = .int .i64 (i : Int) ∧ Aside0 (0 ≤ c ∧ c ≤ 64) ∧ Aside0 (iter (stepF E.data E.faults E.skip) (ps0 E.n, 0) i = (cur, c)) ∧ Aside0 (RAt E w wr v cur i)) (fun _ vi _ => E.n - (intOf vi).toNat)
  case atStart => exact ⟨0, _, 0, ps0 E.n, Nat.zero_le _, rfl, rfl, ⟨by omega⟩, ⟨rfl⟩, hA0⟩
  case round =>
    clear hA0
    obtain ⟨i, v, c, cur, hi, rfl, rfl, hc, hcur, hA⟩ := hrel
    by_cases hlt : i < E.n
    · have hlti : (i : Int) < (E.n : Int) := by omega
      have hnx : IntKind.i64.wrap ((i : Int) + 1) = (i : Int) + 1 := by rw [i64_w]; unfold wrap64; omega
      obtain ⟨S, hAS⟩ := hA.out.row (by omega)
      by_cases hc0 : 0 < c
      · have hc1 := decide_eq_true hc0
        have hcw : IntKind.i64.wrap (c - 1) = c - 1 := by have := hc.out; rw [i64_w]; unfold wrap64; omega
        have hstep : iter (stepF E.data E.faults E.skip) (ps0 E.n, 0) (i + 1) = (skipped cur i, c - 1) := by
          show stepF E.data E.faults E.skip (iter (stepF E.data E.faults E.skip) (ps0 E.n, 0) i) i = _
          rw [hcur.out]; unfold stepF; rw [if_pos hc0]
        have c0_ := hA.out.states
        rw [hAS] at c0_
        obtain ⟨f0_, f1_⟩ := hA.out.cell hAS i hlt
        have hAn := Aside0.mk (⟨hA.out.job.state hAS i 3, hA.out.sized.skipped i⟩ : RAt E w (wr.setCell ⟨S, i, none⟩ (.int .i64 3)) v (skipped cur i) i)
        have hc2 := Aside0.mk (show 0 ≤ c - 1 ∧ c - 1 ≤ 64 by have := hc.out; omega)
        replace hstep := Aside0.mk hstep
        clear hc0 hAS
        go_wp2
        go_roundw
        case rel => exact ⟨i + 1, v, c - 1, skipped cur i, by omega, rfl, by go_num, hc2, hstep, ⟨hAn.out.more (by omega)⟩⟩
        case measure => simp [intOf]; omega
      · have hc1 := decide_eq_false hc0
        have hstep : iter (stepF E.data E.faults E.skip) (ps0 E.n, 0) (i + 1) = (if (att E.data E.faults cur i).2 = true then ((att E.data E.faults cur i).1, c) else ((att E.data E.faults cur i).1, E.skip)) := by
          show stepF E.data E.faults E.skip (iter (stepF E.data E.faults E.skip) (ps0 E.n, 0) i) i = _
          rw [hcur.out]; unfold stepF; rw [if_neg hc0]
        have htry := hA.out.att hRR.out (by omega) i hlt
        obtain ⟨⟨s1, ok⟩, hatt⟩ : ∃ p, att E.data E.faults cur i = p := ⟨_, rfl⟩
        rw [hatt] at htry hstep
        simp only at htry hstep
        replace hatt := Aside0.mk hatt
        clear hc0 hAS
        cases ok with
        | true =>
          rw [if_pos rfl] at hstep
          replace hstep := Aside0.mk hstep
          go_wp2_with (first | (go_at_call 96; refine htry.mono ?_; rintro e w1 ⟨rfl, v1, hA1⟩; replace hA1 := Aside0.mk hA1))
          go_roundw
          case rel => exact ⟨i + 1, v1, c, s1, by omega, rfl, by go_num, hc, hstep, hA1⟩
          case measure => simp [intOf]; omega
        | false =>
          rw [if_neg (by simp)] at hstep
          replace hstep := Aside0.mk hstep
          go_wp2_with (first | (go_at_call 96; refine htry.mono ?_; rintro e w1 ⟨rfl, v1, hA1⟩; have cp_ : w1.cell? ⟨E.pb, 0, none⟩ = some (.int .i64 E.skip) := (blk_cell hA1.job.p 0).trans rfl; replace hA1 := Aside0.mk hA1))
          go_roundw
          case rel => exact ⟨i + 1, v1, E.skip, s1, by omega, rfl, by go_num, ⟨⟨hSK.out.1, hSK.out.2.1⟩⟩, hstep, hA1⟩
          case measure => simp [intOf]; omega
    · obtain rfl : i = E.n := by omega
      clear hc hi hlt
      have hA0 := hA
      have hc0 := hcur
      clear hA hcur
      have hw0 : IntKind.i64.wrap ((E.n : Int) - 1) = (E.n : Int) - 1 := by rw [i64_w]; unfold wrap64; omega
      go_wp2
      clear hw0
      go_loopw [11, 12] (fun vg vk wr => ∃ (i : Nat) (v : Value) (b : Bool) (cu : PS), i ≤ E.n ∧ vg = .bool b ∧ vk = .int .i64 ((E.n : Int) - 1 - (i : Int)) ∧ Aside0 (iter (stepB E.data E.faults E.n) (cur, false) i = (cu, b)) ∧ Aside0 (RAt E w wr v cu (E.n + i))) (fun _ vk _ => (intOf vk + 1).toNat)
      case atStart => exact ⟨0, v, false, cur, Nat.zero_le _, rfl, by go_num, ⟨rfl⟩, hA0⟩
      case round =>
        clear hA0
        obtain ⟨i, v, b, cu, hi, rfl, rfl, hcu, hA⟩ := hrel
        obtain ⟨p, hp⟩ : ∃ p : Int, (E.n : Int) - 1 - (i : Int) = p := ⟨_, rfl⟩
        rw [hp]
        by_cases hlt : i < E.n
        · obtain ⟨S, hAS⟩ := hA.out.row (by omega)
          have c0_ := hA.out.states
          obtain ⟨k, hk⟩ : ∃ k : Nat, E.n - 1 - i = k := ⟨_, rfl⟩
          have hkn : k < E.n := by omega
          obtain rfl : p = (k : Int) := by omega
          obtain ⟨f0, _⟩ := hA.out.cell hAS k hkn
          rw [hAS] at c0_
          have hp0 : (0 : Int) ≤ (k : Int) := by omega
          have hlti : (k : Int) < (E.n : Int) := by omega
          have hnx : IntKind.i64.wrap ((k : Int) - 1) = (E.n : Int) - 1 - ((i + 1 : Nat) : Int) := by rw [i64_w]; unfold wrap64; omega
          obtain ⟨x, hx⟩ : ∃ x, cu.st.getD k 0 = x := ⟨_, rfl⟩
          rw [hx] at f0
          have hstep : iter (stepB E.data E.faults E.n) (cur, false) (i + 1) = (if x ≠ 3 then (cu, false) else if b = true then (cu, b) else ((att E.data E.faults cu k).1, !(att E.data E.faults cu k).2)) := by
            show stepB E.data E.faults E.n (iter (stepB E.data E.faults E.n) (cur, false) i) i = _
            rw [hcu.out]; unfold stepB; rw [hk]; rw [hx]
          replace hx := Aside0.mk hx
          replace hp := Aside0.mk hp
          replace hk := Aside0.mk hk
          have HNX := Aside0.mk hnx
          clear hAS
          by_cases hst : x = 3
          · have hb1 : (x != 3) = false := by rw [hst]; rfl
            rw [if_neg (by simp [hst])] at hstep
            clear hst
            cases b with
            | true =>
              rw [if_pos rfl] at hstep
              replace hstep := Aside0.mk hstep
              go_wp2
              go_roundw
              case rel => exact ⟨i + 1, v, true, cu, by omega, rfl, congrArg (Value.int .i64) (by omega), hstep, ⟨hA.out.more (by omega)⟩⟩
              case measure => simp [intOf]; have := HNX.out; have := hp.out; omega
            | false =>
              rw [if_neg (by simp)] at hstep
              replace hstep := Aside0.mk hstep
              have htry := hA.out.att hRR.out (by omega) k hkn
              go_wp2_with (first | (go_at_call 96; refine htry.mono ?_; rintro e w1 ⟨rfl, v1, hA1⟩; replace hA1 := Aside0.mk hA1))
              go_roundw
              case rel => exact ⟨i + 1, v1, _, _, by omega, rfl, congrArg (Value.int .i64) (by omega), hstep, hA1⟩
              case measure => simp [intOf]; have := HNX.out; have := hp.out; omega
          · have hb1 : (x != 3) = true := bne_iff_ne.mpr hst
            rw [if_pos hst] at hstep
            replace hstep := Aside0.mk hstep
            clear hst
            go_wp2
            go_roundw
            case rel => exact ⟨i + 1, v, false, cu, by omega, rfl, congrArg (Value.int .i64) (by omega), hstep, ⟨hA.out.more (by omega)⟩⟩
            case measure => simp [intOf]; have := HNX.out; have := hp.out; omega
        · obtain rfl : i = E.n := by omega
          have hp0 : ¬ (0 : Int) ≤ p := by omega
          have hA0 := hA
          have hc1 := hcu
          clear hA hcu hlt hi
          go_wp2
          go_loopw [68] (fun vi wr => ∃ (i : Nat) (v : Value) (cv : PS), i ≤ E.n ∧ vi = .int .i64 (i : Int) ∧ Aside0 (iter (stepE E.data E.faults 3) cu i = cv) ∧ Aside0 (RAt E w wr v cv (E.n + E.n + i))) (fun vi _ => E.n - (intOf vi).toNat)
          case atStart => exact ⟨0, _, cu, Nat.zero_le _, rfl, ⟨rfl⟩, hA0⟩
          case round =>
            clear hA0
            obtain ⟨i, v, cv, hi, rfl, hcu, hA⟩ := hrel
            by_cases hlt : i < E.n
            · obtain ⟨S, hAS⟩ := hA.out.row (by omega)
              have c0_ := hA.out.states
              obtain ⟨f0, _⟩ := hA.out.cell hAS i hlt
              rw [hAS] at c0_
              have hlti : (i : Int) < (E.n : Int) := by omega
              have hnx : IntKind.i64.wrap ((i : Int) + 1) = (i : Int) + 1 := by rw [i64_w]; unfold wrap64; omega
              obtain ⟨x, hx⟩ : ∃ x, cv.st.getD i 0 = x := ⟨_, rfl⟩
              rw [hx] at f0
              have hstep : iter (stepE E.data E.faults 3) cu (i + 1) = (if x = 3 then (att E.data E.faults cv i).1 else cv) := by
                show stepE E.data E.faults 3 (iter (stepE E.data E.faults 3) cu i) i = _
                rw [hcu.out]; unfold stepE; rw [hx]
              replace hx := Aside0.mk hx
              clear hAS
              by_cases hst : x = 3
              · have hb1 : (x == 3) = true := beq_iff_eq.mpr hst
                rw [if_pos hst] at hstep
                replace hstep := Aside0.mk hstep
                have htry := hA.out.att hRR.out (by omega) i hlt
                clear hst
                go_wp2_with (first | (go_at_call 96; refine htry.mono ?_; rintro e w1 ⟨rfl, v1, hA1⟩; replace hA1 := Aside0.mk hA1))
                go_roundw
                case rel => exact ⟨i + 1, v1, _, by omega, by go_num, hstep, hA1⟩
                case measure => simp [intOf]; omega
              · have hb1 : (x == 3) = false := beq_eq_false_iff_ne.mpr hst
                rw [if_neg hst] at hstep
                replace hstep := Aside0.mk hstep
                clear hst
                go_wp2
                go_roundw
                case rel => exact ⟨i + 1, v, cv, by omega, by go_num, hstep, ⟨hA.out.more (by omega)⟩⟩
                case measure => simp [intOf]; omega
            · obtain rfl : i = E.n := by omega
              have hA0 := hA
              have hc2 := hcu
              clear hA hcu hlt hi
              obtain ⟨T, hT⟩ : ∃ T : Nat, (E.tries - 1).toNat = T := ⟨_, rfl⟩
              have hT15 : T ≤ 15 := by have := hSK.out; omega
              have htr : IntKind.i64.wrap (E.tries - 1) = (T : Int) := by have := hSK.out; rw [i64_w]; unfold wrap64; omega
              have cp_ : wr.cell? ⟨E.pb, 1, none⟩ = some (.int .i64 E.tries) := (blk_cell hA0.out.job.p 1).trans rfl
              replace hT := Aside0.mk hT
              go_wp2
              clear cp_ htr
              go_loopw [84] (fun vj wr => ∃ (j : Nat) (v : Value) (cw : PS), j ≤ T ∧ vj = .int .i64 (j : Int) ∧ Aside0 (iter (fun s _ => iter (stepE E.data E.faults 2) s E.n) cv j = cw) ∧ Aside0 (RAt E w wr v cw (E.n + E.n + E.n + E.n * j))) (fun vj _ => T - (intOf vj).toNat)
              case atStart => exact ⟨0, _, cv, Nat.zero_le _, rfl, ⟨rfl⟩, hA0⟩
              case round =>
                clear hA0
                obtain ⟨j, v, cw, hj, rfl, hcw, hAj⟩ := hrel
                by_cases hltj : j < T
                · have hltji : (j : Int) < (T : Int) := by omega
                  have hnxj : IntKind.i64.wrap ((j : Int) + 1) = (j : Int) + 1 := by rw [i64_w]; unfold wrap64; omega
                  have hbig : E.n * j ≤ 1024 * 15 := Nat.mul_le_mul (by omega) (by omega)
                  obtain ⟨M, hM⟩ : ∃ M, E.n + E.n + E.n + E.n * j = M := ⟨_, rfl⟩
                  have hM1 : M ≤ 900000 := by omega
                  rw [hM] at hAj
                  replace hM := Aside0.mk hM
                  go_wp2
                  obtain ⟨wo, hwo⟩ : ∃ wo, wr = wo := ⟨_, rfl⟩
                  subst hwo
                  go_loopw [87] (fun vi wr => ∃ (i : Nat) (v : Value) (cu : PS), i ≤ E.n ∧ vi = .int .i64 (i : Int) ∧ Aside0 (iter (stepE E.data E.faults 2) cw i = cu) ∧ Aside0 (RAt E w wr v cu (M + i))) (fun vi _ => E.n - (intOf vi).toNat)
                  case atStart => exact ⟨0, _, cw, Nat.zero_le _, rfl, ⟨rfl⟩, hAj⟩
                  case round =>
                    clear hAj
                    obtain ⟨i, v, cu, hi, rfl, hcu, hA⟩ := hrel
                    by_cases hlt : i < E.n
                    · obtain ⟨S, hAS⟩ := hA.out.row (by omega)
                      have c0_ := hA.out.states
                      obtain ⟨f0, _⟩ := hA.out.cell hAS i hlt
                      rw [hAS] at c0_
                      have hlti : (i : Int) < (E.n : Int) := by omega
                      have hnx : IntKind.i64.wrap ((i : Int) + 1) = (i : Int) + 1 := by rw [i64_w]; unfold wrap64; omega
                      obtain ⟨x, hx⟩ : ∃ x, cu.st.getD i 0 = x := ⟨_, rfl⟩
                      rw [hx] at f0
                      have hstep : iter (stepE E.data E.faults 2) cw (i + 1) = (if x = 2 then (att E.data E.faults cu i).1 else cu) := by
                        show stepE E.data E.faults 2 (iter (stepE E.data E.faults 2) cw i) i = _
                        rw [hcu.out]; unfold stepE; rw [hx]
                      replace hx := Aside0.mk hx
                      clear hAS
                      by_cases hst : x = 2
                      · have hb1 : (x == 2) = true := beq_iff_eq.mpr hst
                        rw [if_pos hst] at hstep
                        replace hstep := Aside0.mk hstep
                        have htry := hA.out.att hRR.out (by omega) i hlt
                        clear hst
                        go_wp2_with (first | (go_at_call 96; refine htry.mono ?_; rintro e w1 ⟨rfl, v1, hA1⟩; replace hA1 := Aside0.mk hA1))
                        go_roundw
                        case rel => exact ⟨i + 1, v1, _, by omega, by go_num, hstep, hA1⟩
                        case measure => simp [intOf]; omega
                      · have hb1 : (x == 2) = false := beq_eq_false_iff_ne.mpr hst
                        rw [if_neg hst] at hstep
                        replace hstep := Aside0.mk hstep
                        clear hst
                        go_wp2
                        go_roundw
                        case rel => exact ⟨i + 1, v, cu, by omega, by go_num, hstep, ⟨hA.out.more (by omega)⟩⟩
                        case measure => simp [intOf]; omega
                    · obtain rfl : i = E.n := by omega
                      have hstj : iter (fun s _ => iter (stepE E.data E.faults 2) s E.n) cv (j + 1) = cu := by
                        show iter (stepE E.data E.faults 2) (iter (fun s _ => iter (stepE E.data E.faults 2) s E.n) cv j) E.n = cu
                        rw [hcw.out]; exact hcu.out
                      replace hstj := Aside0.mk hstj
                      go_wp2
                      go_roundw
                      case rel => exact ⟨j + 1, v, cu, by omega, by go_num, hstj, by rw [Nat.mul_succ, ← Nat.add_assoc, hM.out]; exact hA⟩
                      case measure => simp [intOf]; omega
                · obtain rfl : T = j := by omega
                  have hJ := hAj.out.job
                  obtain ⟨AR, cR, eR⟩ := Kd.R_slice hJ.R
                  subst eR
                  have l0 : wr.cell? ⟨E.ob, 0, none⟩ = some (.slice E.AS E.n E.cS) := (blk_cell hJ.o 0).trans rfl
                  have l1 : wr.cell? ⟨E.ob, 1, none⟩ = some (.slice E.AD (64 * E.n) E.cD) := (blk_cell hJ.o 1).trans rfl
                  have l2 : wr.cell? ⟨E.ob, 2, none⟩ = some (.slice AR cw.rd.length cR) := (blk_cell hJ.o 2).trans rfl
                  have l3 : wr.cell? ⟨E.ob, 3, none⟩ = some (.int .i64 cw.tm) := (blk_cell hJ.o 3).trans rfl
                  have hr1 := hJ.q
                  have r0 : wr.cell? ⟨E.rb, 0, none⟩ = some (.slice none 0 0) := (blk_cell hr1 0).trans rfl
                  have z0 := blk_frozen hr1 0
                  have hr2 := blk_put hr1 0 (.slice E.AS E.n E.cS) rfl
                  have r1 : (wr.setCell ⟨E.rb, 0, none⟩ (.slice E.AS E.n E.cS)).cell? ⟨E.rb, 1, none⟩ = some (.slice none 0 0) := (blk_cell hr2 1).trans rfl
                  have z1 := blk_frozen hr2 1
                  have hr3 := blk_put hr2 1 (.slice E.AD (64 * E.n) E.cD) rfl
                  have r2 : ((wr.setCell ⟨E.rb, 0, none⟩ (.slice E.AS E.n E.cS)).setCell ⟨E.rb, 1, none⟩ (.slice E.AD (64 * E.n) E.cD)).cell? ⟨E.rb, 2, none⟩ = some (.slice none 0 0) := (blk_cell hr3 2).trans rfl
                  have z2 := blk_frozen hr3 2
                  have hr4 := blk_put hr3 2 (.slice AR cw.rd.length cR) rfl
                  have r3 : (((wr.setCell ⟨E.rb, 0, none⟩ (.slice E.AS E.n E.cS)).setCell ⟨E.rb, 1, none⟩ (.slice E.AD (64 * E.n) E.cD)).setCell ⟨E.rb, 2, none⟩ (.slice AR cw.rd.length cR)).cell? ⟨E.rb, 3, none⟩ = some (.int .i64 0) := (blk_cell hr4 3).trans rfl
                  have z3 := blk_frozen hr4 3
                  have hr5 := blk_put hr4 3 (.int .i64 cw.tm) rfl
                  have hS5 := Kd.R_set (Kd.R_set (Kd.R_set (Kd.R_set hJ.S hr1 (by decide) 0 (.slice E.AS E.n E.cS)) hr2 (by decide) 1 (.slice E.AD (64 * E.n) E.cD)) hr3 (by decide) 2 (.slice AR cw.rd.length cR)) hr4 (by decide) 3 (.int .i64 cw.tm)
                  have hD5 := Kd.R_set (Kd.R_set (Kd.R_set (Kd.R_set hJ.D hr1 (by decide) 0 (.slice E.AS E.n E.cS)) hr2 (by decide) 1 (.slice E.AD (64 * E.n) E.cD)) hr3 (by decide) 2 (.slice AR cw.rd.length cR)) hr4 (by decide) 3 (.int .i64 cw.tm)
                  have hR5 := Kd.R_set (Kd.R_set (Kd.R_set (Kd.R_set hJ.R hr1 (by decide) 0 (.slice E.AS E.n E.cS)) hr2 (by decide) 1 (.slice E.AD (64 * E.n) E.cD)) hr3 (by decide) 2 (.slice AR cw.rd.length cR)) hr4 (by decide) 3 (.int .i64 cw.tm)
                  have hB5 := (((hJ.below.setCell (p := ⟨E.rb, 0, none⟩) hrw2.out (.slice E.AS E.n E.cS)).setCell (p := ⟨E.rb, 1, none⟩) hrw2.out (.slice E.AD (64 * E.n) E.cD)).setCell (p := ⟨E.rb, 2, none⟩) hrw2.out (.slice AR cw.rd.length cR)).setCell (p := ⟨E.rb, 3, none⟩) hrw2.out (.int .i64 cw.tm)
                  have hpass : passes data faults n skip tries = cw := by
                    rw [hE9.out]
                    have h1 : (iter (stepF E.data E.faults E.skip) (ps0 E.n, 0) E.n).1 = cur := by rw [hc0.out]
                    have h2 : (iter (stepB E.data E.faults E.n) (cur, false) E.n).1 = cu := by rw [hc1.out]
                    show iter (fun s _ => iter (stepE E.data E.faults 2) s E.n) (iter (stepE E.data E.faults 3) (iter (stepB E.data E.faults E.n) ((iter (stepF E.data E.faults E.skip) (ps0 E.n, 0) E.n).1, false) E.n).1 E.n) (E.tries - 1).toNat = cw
                    rw [h1, h2, hc2.out, hT.out]
                    exact hcw.out
                  have HR5 := Aside0.mk hr5
                  replace hS5 := Aside0.mk hS5
                  replace hD5 := Aside0.mk hD5
                  replace hR5 := Aside0.mk hR5
                  replace hB5 := Aside0.mk hB5
                  replace hpass := Aside0.mk hpass
                  clear hr1 hr2 hr3 hr4 hr5 hJ
                  go_wp2
                  refine bodyPost_ret (results_cell_row rfl _ _ E.rb 82 _ (0, 0) _ rfl HR5.out Try.underlying82 rfl (by kernel_rfl)) rfl ?_
                  rw [hpass.out]
                  exact ⟨.slice E.AS E.n E.cS, .slice E.AD (64 * E.n) E.cD, .slice AR cw.rd.length cR, rfl, Kd.R_mono hS5.out fun _ _ => trivial, Kd.R_mono hD5.out fun _ _ => trivial, Kd.R_mono hR5.out fun _ _ => trivial, hB5.out⟩
end Go.Proofs.Ytdgkbpoljcndgaa.Pure
