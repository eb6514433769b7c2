/- pass.Run: for every drive and plan. No condition. -/
import Derived.Test.YtdgkbpoljcndgaaPurePassRunsA
namespace Go.Proofs.Ytdgkbpoljcndgaa.Pure
open Go Go.RowKit Go.Maps Go.Proofs.Ytdgkbpoljcndgaa.QPassRuns Go.Proofs.YtdgkbpoljcndgaaW.PrintWords Go.Proofs.YtdgkbpoljcndgaaW.PrintLast Go.Proofs.YtdgkbpoljcndgaaW.PrintMore
set_option linter.unusedVariables false
set_option linter.unusedSimpArgs false
/-- the job at its start -/
def ps0 (n : Nat) : PS := ⟨List.replicate n 0, List.replicate (64 * n) 0, [], fun _ => 0, 0⟩
theorem ps0_sized (n : Nat) : Sized n 0 (ps0 n) := ⟨by simp [ps0], by simp [ps0], fun j => ⟨by simp [ps0], by simp [ps0]⟩, by simp [ps0]⟩
/-- the two rows that are made -/
structure RunF (wD w' : World) (n m : Nat) (AS : Option Addr) (cS : Nat) (AD : Option Addr) (cD : Nat) : Prop where
  S : (Kd.int .i64).R 3 w' wD.heap.size (fun _ => True) (.slice AS n cS) (List.replicate n 0)
  D : (Kd.int .u8).R 5 w' wD.heap.size (fun _ => True) (.slice AD m cD) (List.replicate m 0)
  b : Below wD.heap.size wD w'
theorem results_cell_tmp {P : Program} {fn : Func} {p q : Tmp} {ty : TypeId} (h : fn.results = #[.cell p ty, .tmp q]) (tmps : Array Value) (w : World) (g : Nat) (t : TypeId) (cs : Array Value) (fr : Nat × Nat) (d : TypeDesc)
    (hp : tmps.getD p undef = .pointer (some ⟨g, 0, none⟩)) (hg : w.heap[g]? = some (.cells cs t fr))
    (hu : P.underlying ty = some d) (hd : (match d with | .struct _ | .array _ _ => true | _ => false) = true) (hi : (P.info? ty).map (·.size) = some cs.size) :
    (results fn tmps).run P w = .ok (.tuple #[.agg cs, tmps.getD q undef]) w := by
  have hp' : tmps[p]?.getD undef = .pointer (some ⟨g, 0, none⟩) := by simpa using hp
  simp [results, h, hp', asAddr, run_loadVar_row w g t ty cs fr d hg hu hd hi]
def planErr (skip tries : Int) : Int := if skip < 0 then 4 else if skip > 64 then 4 else if tries < 1 then 4 else if tries > 16 then 4 else 0
theorem check_plan (skip tries : Int) : pass_Check.f skip tries = some (planErr skip tries) := by
  unfold pass_Check.f planErr
  by_cases h1 : skip < 0 <;> by_cases h2 : skip > 64 <;> by_cases h3 : tries < 1 <;> by_cases h4 : tries > 16 <;> simp [h1, h2, h3, h4]
set_option maxHeartbeats 16000000 in
set_option maxRecDepth 100000 in
/-- a right drive, a right plan -/
theorem run_ok (A0 : Option Addr) (c0 : Nat) (data : List Int) (A1 : Option Addr) (c1 : Nat) (faults : List S121) (skip tries : Int) (w : World)
    (hr0 : Kd.C (Kd.int .u8) w A0 data.length data) (hc0 : data.length ≤ c0) (hr1 : Kd.C k121 w A1 faults.length faults) (hc1 : faults.length ≤ c1) (hn : faults.length ≤ 5864062014805) (he : errD data faults = 0) (hp : planErr skip tries = 0) :
    Calls Try.prog 53 #[.agg #[.slice A0 data.length c0, .slice A1 faults.length c1], .agg #[.int .i64 skip, .int .i64 tries]] w fun e w' =>
      ∃ v0 v1 v2, e = .returned (.tuple #[.agg #[v0, v1, v2, .int .i64 (passes data faults (data.length / 64) skip tries).tm], .int .i64 0]) ∧
        (Kd.int .i64).R 3 w' w.heap.size (fun _ => True) v0 (passes data faults (data.length / 64) skip tries).st ∧ (Kd.int .u8).R 5 w' w.heap.size (fun _ => True) v1 (passes data faults (data.length / 64) skip tries).dat ∧
        (Kd.int .i64).R 3 w' w.heap.size (fun _ => True) v2 (passes data faults (data.length / 64) skip tries).rd ∧ Below w.heap.size w w' := by
  obtain ⟨k1, h1⟩ := (check_ev data faults (by omega)).rounds
  obtain ⟨e1, e2, e3⟩ := err_right data faults he
  have h2 := check_plan skip tries
  rw [hp] at h2
  have hs : 0 ≤ skip ∧ skip ≤ 64 ∧ 1 ≤ tries ∧ tries ≤ 16 := by
    unfold planErr at hp
    refine ⟨?_, ?_, ?_, ?_⟩ <;> (repeat' split at hp) <;> omega
  rw [he] at h1
  have hu46 := Try.underlying46
  have hu80 := Try.underlying80
  have hu82 := Try.underlying82
  have HR0 := Aside0.mk hr0
  have HR1 := Aside0.mk hr1
  have HC0 := Aside0.mk hc0
  have HC1 := Aside0.mk hc1
  have H1 := Aside0.mk h1
  have H2 := Aside0.mk h2
  have HRT := Aside0.mk e3
  have HLEN := Aside0.mk e1
  have HMOD := Aside0.mk e2
  have HN := Aside0.mk hn
  have HS := Aside0.mk hs
  clear hr0 hr1 hc0 hc1 h1 h2 e1 e2 e3 hn he hp hs
  obtain ⟨n, hnn⟩ : ∃ n : Nat, data.length / 64 = n := ⟨_, rfl⟩
  rw [hnn]
  obtain ⟨m, hm⟩ : ∃ m : Nat, 64 * n = m := ⟨_, rfl⟩
  have hn1 : n ≤ 1024 := by have := HLEN.out; omega
  have hmul : wrap64 ((n : Int) * 64) = (m : Int) := by unfold wrap64; omega
  have hnI : (data.length : Int) / 64 = (n : Int) := by omega
  have HNN := Aside0.mk hnn
  have HMM := Aside0.mk hm
  have HNI := Aside0.mk hnI
  clear hnn hm hnI
  have HB := Aside0.mk (Below.refl w.heap.size w)
  go_enter Try.func53, Try.ntmps53
  go_wp2_with (first
    | ((with_reducible refine gate_dst (N := 2) rfl ?_); refine box_event ?hg (N := 2) ?hd (cs := #[.slice A0 data.length c0, .slice A1 faults.length c1]) (t := 46) ?hr ?_; (case hd => rfl); (case hg => rfl); (case hr => first | (go_simp; done) | (go_simp; rfl)); intro db hg w1 hbox hb; have HB1 := Aside0.mk (below_step HB.out hb); have BD := Aside0.mk hbox; clear hg hb hbox)
    | ((with_reducible refine gate_dst (N := 3) rfl ?_); refine box_event ?hg (N := 3) ?hd (cs := #[.int .i64 skip, .int .i64 tries]) (t := 80) ?hr ?_; (case hd => rfl); (case hg => rfl); (case hr => first | (go_simp; done) | (go_simp; rfl)); intro pb hg w2 hbox hb; have HB2 := Aside0.mk (below_step HB1.out hb); have BP2 := Aside0.mk hbox; have BD2 := Aside0.mk (blk_below BD.out hb); clear hg hb hbox)
    | ((with_reducible refine gate_dst (N := 4) rfl ?_); refine box_event ?hg (N := 4) ?hd (cs := #[.slice none 0 0, .slice none 0 0, .slice none 0 0, .int .i64 0]) (t := 82) ?hr ?_; (case hd => rfl); (case hg => rfl); (case hr => first | (go_simp; done) | (go_simp; rfl)); intro rb hg w3 hbox hb; have HB3 := Aside0.mk (below_step HB2.out hb); have hw3 := Aside0.mk HB3.out.size; have BP3 := Aside0.mk (blk_below BP2.out hb); have BR3 := Aside0.mk hbox; have BD3 := blk_below BD2.out hb; have hrw : w.heap.size ≤ rb := (by have := HB2.out.size; omega); have cd0 : w3.cell? ⟨db, 0, none⟩ = some (.slice A0 data.length c0) := (blk_cell BD3 0).trans rfl; have cd1 : w3.cell? ⟨db, 1, none⟩ = some (.slice A1 faults.length c1) := (blk_cell BD3 1).trans rfl; clear hg hb hbox HB HB1 HB2 BP2 BD BD2 BD3)
    | (go_at_call 43; refine (new_ok k1 A0 c0 data A1 c1 faults _ (Kd.C_below HR0.out HB3.out) HC0.out (Kd.C_below HR1.out HB3.out) HC1.out H1.out (by have := HLEN.out; omega) HN.out).mono ?_; rintro e w4 ⟨g, M, AN, cN, AF, cF, rfl, hgw, hMw, hdisk, hb⟩; have HB4 := Aside0.mk (below_step HB3.out hb); have HBb := Aside0.mk hb; have BP4 := Aside0.mk (blk_below BP3.out hb); have BR4 := Aside0.mk (blk_below BR3.out hb); have DISK := Aside0.mk hdisk; have HG := Aside0.mk hgw; have HM := Aside0.mk hMw; have hpb := Aside0.mk (blk_lt BP3.out); have hrb := Aside0.mk (blk_lt BR3.out); have cp0 : w4.cell? ⟨pb, 0, none⟩ = some (.int .i64 skip) := (blk_cell BP4.out 0).trans rfl; have cp1 : w4.cell? ⟨pb, 1, none⟩ = some (.int .i64 tries) := (blk_cell BP4.out 1).trans rfl; clear hb hdisk hgw hMw cd0 cd1)
    | (go_at_call 56; refine (pass_Check.calls skip tries 0 _ H2.out).mono ?_; rintro e w5 ⟨rfl, hb⟩; have HB5 := Aside0.mk (below_step HB4.out hb); have HBb5 := Aside0.mk (below_then HBb.out HBb.out.size hb); have BP5 := Aside0.mk (blk_below BP4.out hb); have BR5 := Aside0.mk (blk_below BR4.out hb); have DISK5 := Aside0.mk (DISK.out.below hb); have hL := Aside0.mk hb.size; clear hb cp0 cp1))
  have q0 : w5.drew.cell? ⟨pb, 0, none⟩ = some (.int .i64 skip) := (blk_cell (blk_drew BP5.out) 0).trans rfl
  have q1 : w5.drew.cell? ⟨pb, 1, none⟩ = some (.int .i64 tries) := (blk_cell (blk_drew BP5.out) 1).trans rfl
  have DISKD := Aside0.mk (DISK5.out.below (below_drew (Below.refl _ _)))
  have HBD := Aside0.mk (below_drew HB5.out)
  have HBbD := Aside0.mk (below_drew HBb5.out)
  have BPD := Aside0.mk (blk_drew BP5.out)
  have BRD := Aside0.mk (blk_drew BR5.out)
  have hLD : w4.heap.size ≤ w5.drew.heap.size := hL.out
  replace hLD := Aside0.mk hLD
  clear DISK5 HB5 HBb5 BP5 BR5 hL HB4 HBb BP4 BR4 DISK HB3 BP3 BR3
  refine start_ (n := 13) (S := fun w' => w'.cell? ⟨pb, 0, none⟩ = some (.int .i64 skip) ∧ w'.cell? ⟨pb, 1, none⟩ = some (.int .i64 tries)) (ds := []) #[false, false, false, false, false, false, false, false, false, false, false, false, false] (by kernel_rfl) rfl rfl ⟨q0, q1⟩ (fun hHeld => ?_)
  generalize w5.drew = wD at q0 q1 DISKD HBD HBbD BPD BRD hLD hHeld ⊢
  refine pure_ (i := 0) (N := some 22) (v := ?_) (a' := ?_) #[true, false, false, false, false, false, false, false, false, false, false, false, false] rfl rfl (by kernel_rfl) (fun _ _ _ h => h) (Or.inl ⟨by rfl, ?_⟩) ?_ ?_
  rotate_left
  · intro w'
    go_simp
    with_reducible rfl
  rotate_left
  · simp only [Act.put, List.setIfInBounds_toArray, List.set_cons_zero, List.set_cons_succ, i64_w, i32_w]
    rfl
  refine pure_ (i := 3) (N := some 25) (v := ?_) (a' := ?_) #[true, false, false, true, false, false, false, false, false, false, false, false, false] rfl rfl (by kernel_rfl) (fun _ _ _ h => h) (Or.inl ⟨by rfl, ?_⟩) ?_ ?_
  rotate_left
  · intro w'
    go_simp
    with_reducible rfl
  rotate_left
  · simp only [Act.put, List.setIfInBounds_toArray, List.set_cons_zero, List.set_cons_succ, i64_w, i32_w]
    rfl
  refine pure_ (i := 8) (N := some 30) (v := ?_) (a' := ?_) #[true, false, false, true, false, false, false, false, true, false, false, false, false] rfl rfl (by kernel_rfl) (fun _ _ _ h => h) (Or.inl ⟨by rfl, ?_⟩) ?_ ?_
  rotate_left
  · intro w'
    go_simp
    with_reducible rfl
  rotate_left
  · simp only [Act.put, List.setIfInBounds_toArray, List.set_cons_zero, List.set_cons_succ, i64_w, i32_w]
    rfl
  refine take_ (i := 9) (N := some 31) (v := ?_) (a' := ?_) #[true, false, false, true, false, false, false, false, true, true, false, false, false] rfl rfl (by kernel_rfl) (fun _ _ _ h => h) (Or.inl ⟨by rfl, ?_⟩) hHeld ?_ ?_
  rotate_left
  · rintro w' ⟨s0, s1⟩
    go_simp
    with_reducible rfl
  rotate_left
  · simp only [Act.put, List.setIfInBounds_toArray, List.set_cons_zero, List.set_cons_succ, i64_w, i32_w]
    rfl
  refine one_ (i := 1) (N := some 23) #[true, true, false, true, false, false, false, false, true, true, false, false, false] rfl rfl (by kernel_rfl) (by decide) (fun K hK => ?_)
  refine goes_ Try.func44 (by kernel_rfl) rfl #[.pointer (some ⟨g, 0, none⟩)] (by rfl) rfl rfl (by simp only [List.map_toArray, List.map_cons, List.map_nil]; rfl) ?_
  with_reducible refine (blocks_calls (DISKD.out.below (Below.refl _ _)) (by have := HLEN.out; omega)).mono ?_
  rintro e w' ⟨rfl, hw⟩
  replace hw := hw.symm
  subst hw
  rw [HNI.out]
  refine ⟨_, rfl, ?_⟩
  refine hK.out _ _ ⟨q0, q1⟩ (fun hHeld => ?_)
  clear hK K
  refine norm_ (a' := ?_) ?_ ?_
  rotate_left
  · show Act.put _ (some 23) _ = _
    simp only [Act.put, List.setIfInBounds_toArray, List.set_cons_zero, List.set_cons_succ, i64_w, i32_w]
    rfl
  refine join_ (σ := Option Addr × Nat × Option Addr × Nat) 4 #[true, true, true, true, true, true, true, false, true, true, false, false, false] (fun s_ => [(24, .slice s_.1 n s_.2.1), (26, .int .i64 (n : Int)), (28, .slice s_.2.2.1 m s_.2.2.2), (27, .int .i64 (wrap64 ((n : Int) * 64)))]) (fun s_ w' => RunF wD w' n m s_.1 s_.2.1 s_.2.2.1 s_.2.2.2 ∧ (w'.cell? ⟨pb, 0, none⟩ = some (.int .i64 skip)) ∧ (w'.cell? ⟨pb, 1, none⟩ = some (.int .i64 tries))) ?_ ?_
  rotate_left
  · intro hCont
    refine two_ (i := 2) (j := 4) (Ni := some 24) (Nj := some 26) #[true, true, true, true, false, false, false, false, true, true, false, false, false] #[true, true, false, true, true, false, false, false, true, true, false, false, false] rfl rfl rfl rfl (by kernel_rfl) (by decide) (by decide) (fun K hK => ?_) (fun K hK => ?_)
    · skip
      refine Kd.R_make_step (Kd.int .i64) (w0 := wD) wD.heap.size 3 (by rfl) (N := 24) rfl 37 _ _ rfl (n : Int) rfl rfl Try.underlying37 (.int .i64 0) 8 info3 rfl (by decide) (by decide) 0 (ok := fun _ => True) (okp := fun _ => True) rfl (fun _ hk => hk) trivial (by omega) (by rw [Int.toNat_natCast]; omega) (Below.refl wD.heap.size wD) (Below.refl wD.heap.size wD).size ?_
      intro vS wS hRS hBS hGS hnS
      rw [Int.toNat_natCast] at hRS
      obtain ⟨AS, cS, eS⟩ := Kd.R_slice hRS
      rw [List.length_replicate] at eS
      subst eS
      refine hK.out _ _ ⟨pw_cell_below hBS q0, pw_cell_below hBS q1⟩ (fun hHeld => ?_)
      clear hK K
      refine norm_ (a' := ?_) ?_ ?_
      rotate_left
      · show Act.put _ (some 24) _ = _
        simp only [Act.put, List.setIfInBounds_toArray, List.set_cons_zero, List.set_cons_succ, i64_w, i32_w]
        rfl
      refine one_ (i := 4) (N := some 26) #[true, true, true, true, true, false, false, false, true, true, false, false, false] rfl rfl (by kernel_rfl) (by decide) (fun K hK => ?_)
      refine goes_ Try.func44 (by kernel_rfl) rfl #[.pointer (some ⟨g, 0, none⟩)] (by rfl) rfl rfl (by simp only [List.map_toArray, List.map_cons, List.map_nil]; rfl) ?_
      with_reducible refine (blocks_calls (DISKD.out.below hBS) (by have := HLEN.out; omega)).mono ?_
      rintro e w' ⟨rfl, hw⟩
      replace hw := hw.symm
      subst hw
      rw [HNI.out]
      refine ⟨_, rfl, ?_⟩
      refine hK.out _ _ ⟨pw_cell_below hBS q0, pw_cell_below hBS q1⟩ (fun hHeld => ?_)
      clear hK K
      refine norm_ (a' := ?_) ?_ ?_
      rotate_left
      · show Act.put _ (some 26) _ = _
        simp only [Act.put, List.setIfInBounds_toArray, List.set_cons_zero, List.set_cons_succ, i64_w, i32_w]
        rfl
      refine pure_ (i := 5) (N := some 27) (v := ?_) (a' := ?_) #[true, true, true, true, true, true, false, false, true, true, false, false, false] rfl rfl (by kernel_rfl) (fun _ _ _ h => h) (Or.inl ⟨by rfl, ?_⟩) ?_ ?_
      rotate_left
      · intro w'
        go_simp
        with_reducible rfl
      rotate_left
      · simp only [Act.put, List.setIfInBounds_toArray, List.set_cons_zero, List.set_cons_succ, i64_w, i32_w]
        rfl
      refine one_ (i := 6) (N := some 28) #[true, true, true, true, true, true, true, false, true, true, false, false, false] rfl rfl (by kernel_rfl) (by decide) (fun K hK => ?_)
      refine Kd.R_make_step (Kd.int .u8) (w0 := wD) wD.heap.size 5 (by rfl) (N := 28) rfl 22 _ _ rfl (wrap64 ((n : Int) * 64)) rfl rfl Try.underlying22 (.int .u8 0) 1 info5 rfl (by decide) (by decide) 0 (ok := fun _ => True) (okp := fun _ => True) rfl (fun _ hk => hk) trivial (by rw [hmul]; omega) (by rw [hmul, Int.toNat_natCast]; have := HMM.out; omega) hBS hBS.size ?_
      intro vD wE hRD hBE hGD hnD
      rw [hmul, Int.toNat_natCast] at hRD
      obtain ⟨AD, cD, eD⟩ := Kd.R_slice hRD
      rw [List.length_replicate] at eD
      subst eD
      refine hK.out _ _ ⟨pw_cell_below hBE q0, pw_cell_below hBE q1⟩ (fun hHeld => ?_)
      clear hK K
      refine norm_ (a' := ?_) ?_ ?_
      rotate_left
      · show Act.put _ (some 28) _ = _
        simp only [Act.put, List.setIfInBounds_toArray, List.set_cons_zero, List.set_cons_succ, i64_w, i32_w]
        rfl
      exact norm_ (by simp only [putAll, Act.put, List.setIfInBounds_toArray, List.set_cons_zero, List.set_cons_succ]) (hCont (AS, cS, AD, cD) _ ⟨⟨Kd.R_grown hRS hGD (fun _ _ => by simp), hRD, hBE⟩, pw_cell_below hBE q0, pw_cell_below hBE q1⟩)
    · skip
      refine goes_ Try.func44 (by kernel_rfl) rfl #[.pointer (some ⟨g, 0, none⟩)] (by rfl) rfl rfl (by simp only [List.map_toArray, List.map_cons, List.map_nil]; rfl) ?_
      with_reducible refine (blocks_calls (DISKD.out.below (Below.refl wD.heap.size wD)) (by have := HLEN.out; omega)).mono ?_
      rintro e w' ⟨rfl, hw⟩
      replace hw := hw.symm
      subst hw
      rw [HNI.out]
      refine ⟨_, rfl, ?_⟩
      refine hK.out _ _ ⟨pw_cell_below (Below.refl wD.heap.size wD) q0, pw_cell_below (Below.refl wD.heap.size wD) q1⟩ (fun hHeld => ?_)
      clear hK K
      refine norm_ (a' := ?_) ?_ ?_
      rotate_left
      · show Act.put _ (some 26) _ = _
        simp only [Act.put, List.setIfInBounds_toArray, List.set_cons_zero, List.set_cons_succ, i64_w, i32_w]
        rfl
      refine pure_ (i := 5) (N := some 27) (v := ?_) (a' := ?_) #[true, true, false, true, true, true, false, false, true, true, false, false, false] rfl rfl (by kernel_rfl) (fun _ _ _ h => h) (Or.inl ⟨by rfl, ?_⟩) ?_ ?_
      rotate_left
      · intro w'
        go_simp
        with_reducible rfl
      rotate_left
      · simp only [Act.put, List.setIfInBounds_toArray, List.set_cons_zero, List.set_cons_succ, i64_w, i32_w]
        rfl
      refine two_ (i := 2) (j := 6) (Ni := some 24) (Nj := some 28) #[true, true, true, true, true, true, false, false, true, true, false, false, false] #[true, true, false, true, true, true, true, false, true, true, false, false, false] rfl rfl rfl rfl (by kernel_rfl) (by decide) (by decide) (fun K hK => ?_) (fun K hK => ?_)
      · skip
        refine Kd.R_make_step (Kd.int .i64) (w0 := wD) wD.heap.size 3 (by rfl) (N := 24) rfl 37 _ _ rfl (n : Int) rfl rfl Try.underlying37 (.int .i64 0) 8 info3 rfl (by decide) (by decide) 0 (ok := fun _ => True) (okp := fun _ => True) rfl (fun _ hk => hk) trivial (by omega) (by rw [Int.toNat_natCast]; omega) (Below.refl wD.heap.size wD) (Below.refl wD.heap.size wD).size ?_
        intro vS wS hRS hBS hGS hnS
        rw [Int.toNat_natCast] at hRS
        obtain ⟨AS, cS, eS⟩ := Kd.R_slice hRS
        rw [List.length_replicate] at eS
        subst eS
        refine hK.out _ _ ⟨pw_cell_below hBS q0, pw_cell_below hBS q1⟩ (fun hHeld => ?_)
        clear hK K
        refine norm_ (a' := ?_) ?_ ?_
        rotate_left
        · show Act.put _ (some 24) _ = _
          simp only [Act.put, List.setIfInBounds_toArray, List.set_cons_zero, List.set_cons_succ, i64_w, i32_w]
          rfl
        refine one_ (i := 6) (N := some 28) #[true, true, true, true, true, true, true, false, true, true, false, false, false] rfl rfl (by kernel_rfl) (by decide) (fun K hK => ?_)
        refine Kd.R_make_step (Kd.int .u8) (w0 := wD) wD.heap.size 5 (by rfl) (N := 28) rfl 22 _ _ rfl (wrap64 ((n : Int) * 64)) rfl rfl Try.underlying22 (.int .u8 0) 1 info5 rfl (by decide) (by decide) 0 (ok := fun _ => True) (okp := fun _ => True) rfl (fun _ hk => hk) trivial (by rw [hmul]; omega) (by rw [hmul, Int.toNat_natCast]; have := HMM.out; omega) hBS hBS.size ?_
        intro vD wE hRD hBE hGD hnD
        rw [hmul, Int.toNat_natCast] at hRD
        obtain ⟨AD, cD, eD⟩ := Kd.R_slice hRD
        rw [List.length_replicate] at eD
        subst eD
        refine hK.out _ _ ⟨pw_cell_below hBE q0, pw_cell_below hBE q1⟩ (fun hHeld => ?_)
        clear hK K
        refine norm_ (a' := ?_) ?_ ?_
        rotate_left
        · show Act.put _ (some 28) _ = _
          simp only [Act.put, List.setIfInBounds_toArray, List.set_cons_zero, List.set_cons_succ, i64_w, i32_w]
          rfl
        exact norm_ (by simp only [putAll, Act.put, List.setIfInBounds_toArray, List.set_cons_zero, List.set_cons_succ]) (hCont (AS, cS, AD, cD) _ ⟨⟨Kd.R_grown hRS hGD (fun _ _ => by simp), hRD, hBE⟩, pw_cell_below hBE q0, pw_cell_below hBE q1⟩)
      · skip
        refine Kd.R_make_step (Kd.int .u8) (w0 := wD) wD.heap.size 5 (by rfl) (N := 28) rfl 22 _ _ rfl (wrap64 ((n : Int) * 64)) rfl rfl Try.underlying22 (.int .u8 0) 1 info5 rfl (by decide) (by decide) 0 (ok := fun _ => True) (okp := fun _ => True) rfl (fun _ hk => hk) trivial (by rw [hmul]; omega) (by rw [hmul, Int.toNat_natCast]; have := HMM.out; omega) (Below.refl wD.heap.size wD) (Below.refl wD.heap.size wD).size ?_
        intro vD wE hRD hBE hGD hnD
        rw [hmul, Int.toNat_natCast] at hRD
        obtain ⟨AD, cD, eD⟩ := Kd.R_slice hRD
        rw [List.length_replicate] at eD
        subst eD
        refine hK.out _ _ ⟨pw_cell_below hBE q0, pw_cell_below hBE q1⟩ (fun hHeld => ?_)
        clear hK K
        refine norm_ (a' := ?_) ?_ ?_
        rotate_left
        · show Act.put _ (some 28) _ = _
          simp only [Act.put, List.setIfInBounds_toArray, List.set_cons_zero, List.set_cons_succ, i64_w, i32_w]
          rfl
        refine one_ (i := 2) (N := some 24) #[true, true, true, true, true, true, true, false, true, true, false, false, false] rfl rfl (by kernel_rfl) (by decide) (fun K hK => ?_)
        refine Kd.R_make_step (Kd.int .i64) (w0 := wD) wD.heap.size 3 (by rfl) (N := 24) rfl 37 _ _ rfl (n : Int) rfl rfl Try.underlying37 (.int .i64 0) 8 info3 rfl (by decide) (by decide) 0 (ok := fun _ => True) (okp := fun _ => True) rfl (fun _ hk => hk) trivial (by omega) (by rw [Int.toNat_natCast]; omega) hBE hBE.size ?_
        intro vS wS hRS hBS hGS hnS
        rw [Int.toNat_natCast] at hRS
        obtain ⟨AS, cS, eS⟩ := Kd.R_slice hRS
        rw [List.length_replicate] at eS
        subst eS
        refine hK.out _ _ ⟨pw_cell_below hBS q0, pw_cell_below hBS q1⟩ (fun hHeld => ?_)
        clear hK K
        refine norm_ (a' := ?_) ?_ ?_
        rotate_left
        · show Act.put _ (some 24) _ = _
          simp only [Act.put, List.setIfInBounds_toArray, List.set_cons_zero, List.set_cons_succ, i64_w, i32_w]
          rfl
        exact norm_ (by simp only [putAll, Act.put, List.setIfInBounds_toArray, List.set_cons_zero, List.set_cons_succ]) (hCont (AS, cS, AD, cD) _ ⟨⟨hRS, Kd.R_grown hRD hGS (fun _ _ => by simp), hBS⟩, pw_cell_below hBS q0, pw_cell_below hBS q1⟩)
  rintro ⟨AS, cS, AD, cD⟩ w6 ⟨hnew, hHeld⟩
  simp only at hnew
  refine norm_ (a' := ?_) ?_ ?_
  rotate_left
  · simp only [putAll, Act.put, List.setIfInBounds_toArray, List.set_cons_zero, List.set_cons_succ]
    rfl
  refine pure_ (i := 7) (N := some 29) (v := ?_) (a' := ?_) #[true, true, true, true, true, true, true, true, true, true, false, false, false] rfl rfl (by kernel_rfl) (fun _ _ _ h => h) (Or.inl ⟨by rfl, ?_⟩) ?_ ?_
  rotate_left
  · intro w'
    go_simp
    with_reducible rfl
  rotate_left
  · simp only [Act.put, List.setIfInBounds_toArray, List.set_cons_zero, List.set_cons_succ, i64_w, i32_w]
    rfl
  refine pure_ (i := 10) (N := some 32) (v := ?_) (a' := ?_) #[true, true, true, true, true, true, true, true, true, true, true, false, false] rfl rfl (by kernel_rfl) (fun _ _ _ h => h) (Or.inl ⟨by rfl, ?_⟩) ?_ ?_
  rotate_left
  · intro w'
    go_simp
    with_reducible rfl
  rotate_left
  · simp only [Act.put, List.setIfInBounds_toArray, List.set_cons_zero, List.set_cons_succ, i64_w, i32_w]
    rfl
  refine one_ (i := 11) (N := some 33) #[true, true, true, true, true, true, true, true, true, true, true, true, false] rfl rfl (by kernel_rfl) (by decide) (fun K hK => ?_)
  refine value_ (w1 := ?_) (v := ?_) (by rfl) rfl ?_ ?_
  rotate_left 2
  · go_simp
    constructor
    · rfl
    · rfl
  refine hK.out _ _ ⟨pw_cell_below (below_alloc (Below.refl w6.heap.size w6) _) hHeld.1, pw_cell_below (below_alloc (Below.refl w6.heap.size w6) _) hHeld.2⟩ (fun hHeld => ?_)
  clear hK K
  refine norm_ (a' := ?_) ?_ ?_
  rotate_left
  · show Act.put _ (some 33) _ = _
    simp only [Act.put, List.setIfInBounds_toArray, List.set_cons_zero, List.set_cons_succ, i64_w, i32_w]
    rfl
  refine pure_ (i := 12) (N := some 8) (v := ?_) (a' := ?_) #[true, true, true, true, true, true, true, true, true, true, true, true, true] rfl rfl (by kernel_rfl) (fun _ _ _ h => h) (Or.inl ⟨by rfl, ?_⟩) ?_ ?_
  rotate_left
  · intro w'
    go_simp
    with_reducible rfl
  rotate_left
  · simp only [Act.put, List.setIfInBounds_toArray, List.set_cons_zero, List.set_cons_succ, i64_w, i32_w]
    rfl
  refine done_ (by kernel_rfl) ?_
  obtain ⟨hS, hD, hb6⟩ := hnew
  have hbJ : Below w6.heap.size w6 (w6.alloc (.cells #[.slice AS n cS, .slice AD m cD, .slice none 0 0, .int .i64 0, .pointer (some ⟨g, 0, none⟩), .int .i64 skip, .int .i64 tries] 133)) := below_alloc (Below.refl _ _) _
  have hlk := heap_alloc_new w6 (.cells #[.slice AS n cS, .slice AD m cD, .slice none 0 0, .int .i64 0, .pointer (some ⟨g, 0, none⟩), .int .i64 skip, .int .i64 tries] 133)
  generalize w6.alloc (.cells #[.slice AS n cS, .slice AD m cD, .slice none 0 0, .int .i64 0, .pointer (some ⟨g, 0, none⟩), .int .i64 skip, .int .i64 tries] 133) = w7 at hbJ hlk ⊢
  obtain ⟨E, hE⟩ : ∃ E : JE, E = ⟨w3.heap.size, w4.heap.size, g, M, w6.heap.size, AN, cN, data, AF, cF, faults, n, AS, cS, AD, cD, skip, tries⟩ := ⟨_, rfl⟩
  have hJ : IsJob E w7 (.slice none 0 0) (ps0 n) 0 := by
    have hm := HMM.out
    subst hE
    subst hm
    refine ⟨(DISKD.out.below hb6).below hbJ, hlk, ?_, ?_, Kd.R_nil _ _ _ _ _, Nat.le_trans hLD.out hb6.size, HG.out, HM.out, ?_⟩
    · exact Kd.R_tight (d := Kd.int .i64) rfl (Kd.R_below (Kd.R_lower hS hLD.out) hbJ)
    · exact Kd.R_tight (d := Kd.int .u8) rfl (Kd.R_below (Kd.R_lower hD hLD.out) hbJ)
    · exact Nat.le_trans HG.out (Nat.le_of_lt DISKD.out.gl)
  have ej : E.j = w6.heap.size := by rw [hE]
  have en : E.n = n := by rw [hE]
  have eb : E.b = w3.heap.size := by rw [hE]
  have ed : E.data = data := by rw [hE]
  have ef : E.faults = faults := by rw [hE]
  have es : E.skip = skip := by rw [hE]
  have eg : E.g = g := by rw [hE]
  have hRJ : RightJ E := ⟨by rw [ed, ef]; exact HRT.out, by rw [ed]; exact HLEN.out, by rw [ed, en]; have := HNN.out; have := HMOD.out; omega, by rw [ef]; exact HN.out⟩
  have hz0 := ps0_sized n
  rw [← en] at hJ hz0
  have hB7 := Aside0.mk (below_step (below_step HBD.out hb6) hbJ)
  have hP7 := Aside0.mk (blk_below (blk_below BPD.out hb6) hbJ)
  have hR7 := Aside0.mk (blk_below (blk_below BRD.out hb6) hbJ)
  rw [← ej]
  clear hS hD hb6 hbJ hlk hHeld q0 q1
  replace hJ := Aside0.mk hJ
  replace hz0 := Aside0.mk hz0
  replace hRJ := Aside0.mk hRJ
  replace ej := Aside0.mk ej
  replace en := Aside0.mk en
  replace eb := Aside0.mk eb
  replace ed := Aside0.mk ed
  replace ef := Aside0.mk ef
  replace es := Aside0.mk es
  replace eg := Aside0.mk eg
  clear hE
  clear DISKD HBD HBbD BPD BRD
  obtain ⟨T, hT⟩ : ∃ T : Nat, (tries - 1).toNat = T := ⟨_, rfl⟩
  have hT15 : T ≤ 15 := by have := HS.out; omega
  have htr : IntKind.i64.wrap (tries - 1) = (T : Int) := by have := HS.out; rw [i64_w]; unfold wrap64; omega
  replace hT := Aside0.mk hT
  go_wp2_with (first
    | (go_at_call 92; refine (fwd_calls hJ.out hz0.out hRJ.out (by omega) (by rw [es.out]; exact HS.out.1) (by rw [es.out]; exact HS.out.2.1)).mono ?_; rintro e w8 ⟨rfl, v8, hA8⟩; replace hA8 := Aside0.mk hA8)
    | (go_at_call 93; refine (back_calls hA8.out.job hA8.out.sized hRJ.out (by rw [en.out]; omega)).mono ?_; rintro e w9 ⟨rfl, v9, hA9⟩; replace hA9 := Aside0.mk hA9; have hB9 := Aside0.mk (hA8.out.below.trans hA9.out.below))
    | (go_at_call 94; refine (each_calls hA9.out.job hA9.out.sized hRJ.out (by rw [en.out]; omega) 3).mono ?_; rintro e w10 ⟨rfl, v10, hA10⟩; have hB10 := Aside0.mk (hB9.out.trans hA10.below); have hp10 : w10.heap[pb]? = some (.cells #[.int .i64 skip, .int .i64 tries] 80 (0, 0)) := (hB10.out.block pb (by rw [eb.out]; exact hpb.out)).trans hP7.out; have cp1 : w10.cell? ⟨pb, 1, none⟩ = some (.int .i64 tries) := (blk_cell hp10 1).trans rfl; replace hA10 := Aside0.mk hA10; clear hp10))
  clear cp1
  obtain ⟨s3, hs3⟩ : ∃ s3, iter (stepE E.data E.faults 3) (iter (stepB E.data E.faults E.n) ((iter (stepF E.data E.faults E.skip) (ps0 E.n, 0) E.n).1, false) E.n).1 E.n = s3 := ⟨_, rfl⟩
  have hA0 := hA10.out
  rw [hs3] at hA0
  have hstart := Aside0.mk (⟨hA0.job, hA0.sized, Below.refl _ _⟩ : At E w10 w10 v10 s3 (0 + E.n + E.n + E.n))
  replace hs3 := Aside0.mk hs3
  clear hA8 hA9 hB9 hA10 hA0
  go_loopw [43] (fun vi wr => ∃ (i : Nat) (v : Value), i ≤ T ∧ vi = .int .i64 (i : Int) ∧ Aside0 (At E w10 wr v (iter (fun s _ => iter (stepE E.data E.faults 2) s E.n) s3 i) (0 + E.n + E.n + E.n + E.n * i))) (fun vi _ => T - (intOf vi).toNat)
  case atStart => exact ⟨0, v10, Nat.zero_le _, rfl, hstart⟩
  case round =>
    clear hstart
    obtain ⟨i, v, hi, rfl, hA⟩ := hrel
    by_cases hlt : i < T
    · have hlti : (i : Int) < (T : Int) := by omega
      have hnx : IntKind.i64.wrap ((i : Int) + 1) = (i : Int) + 1 := by rw [i64_w]; unfold wrap64; omega
      have hbig : 0 + E.n + E.n + E.n + E.n * i ≤ 900000 := by
        have h1 : E.n * i ≤ E.n * 15 := Nat.mul_le_mul_left _ (by omega)
        rw [en.out] at h1 ⊢; omega
      replace hbig := Aside0.mk hbig
      go_wp2_with (first | (go_at_call 94; refine (each_calls hA.out.job hA.out.sized hRJ.out hbig.out 2).mono ?_; rintro e w11 ⟨rfl, v11, hA11⟩; have hAn := Aside0.mk (⟨hA11.job, hA11.sized, hA.out.below.trans hA11.below⟩ : At E w10 w11 v11 _ _); clear hA11))
      go_roundw
      case rel => exact ⟨i + 1, v11, by omega, by go_num, by rw [Nat.mul_succ, ← Nat.add_assoc]; exact hAn⟩
      case measure => simp [intOf]; omega
    · obtain rfl : T = i := by omega
      obtain ⟨fin, hfin⟩ : ∃ f, iter (fun s _ => iter (stepE E.data E.faults 2) s E.n) s3 T = f := ⟨_, rfl⟩
      rw [hfin] at hA
      replace hfin := Aside0.mk hfin
      have ht := time_calls hA.out.job.disk
      rw [eg.out] at ht
      have hj := hA.out.job.blk
      have hB := hB10.out.trans hA.out.below
      have hBw := Aside0.mk hB
      have hrr := (hB.block rb (by rw [eb.out]; exact hrb.out)).trans hR7.out
      have j3 : wr.cell? ⟨E.j, 3, none⟩ = some (.int .i64 0) := (blk_cell hj 3).trans rfl
      have g3 := blk_frozen hj 3
      obtain ⟨AR, cR, eR⟩ := Kd.R_slice hA.out.job.R
      subst eR
      obtain ⟨W1, hW1⟩ : ∃ W1, wr.setCell ⟨E.j, 3, none⟩ (.int .i64 fin.tm) = W1 := ⟨_, rfl⟩
      have hj1 : W1.heap[E.j]? = some (.cells #[.slice E.AS E.n E.cS, .slice E.AD (64 * E.n) E.cD, .slice AR fin.rd.length cR, .int .i64 fin.tm, .pointer (some ⟨E.g, 0, none⟩), .int .i64 E.skip, .int .i64 E.tries] 133 (0, 0)) := by rw [← hW1]; exact blk_put hj 3 (.int .i64 fin.tm) rfl
      have l0 : W1.cell? ⟨E.j, 0, none⟩ = some (.slice E.AS E.n E.cS) := (blk_cell hj1 0).trans rfl
      have l1 : W1.cell? ⟨E.j, 1, none⟩ = some (.slice E.AD (64 * E.n) E.cD) := (blk_cell hj1 1).trans rfl
      have l2 : W1.cell? ⟨E.j, 2, none⟩ = some (.slice AR fin.rd.length cR) := (blk_cell hj1 2).trans rfl
      have l3 : W1.cell? ⟨E.j, 3, none⟩ = some (.int .i64 fin.tm) := (blk_cell hj1 3).trans rfl
      have hne : rb ≠ E.j := fun he => by rw [he] at hrr; rw [hrr] at hj; injection hj with hj; injection hj with _ hj; exact absurd hj (by decide)
      have hr1 : W1.heap[rb]? = some (.cells #[.slice none 0 0, .slice none 0 0, .slice none 0 0, .int .i64 0] 82 (0, 0)) := by rw [← hW1]; exact blk_far hrr hne _
      have r0 : W1.cell? ⟨rb, 0, none⟩ = some (.slice none 0 0) := (blk_cell hr1 0).trans rfl
      have z0 := blk_frozen hr1 0
      have hr2 := blk_put hr1 0 (.slice E.AS E.n E.cS) rfl
      have r1 : (W1.setCell ⟨rb, 0, none⟩ (.slice E.AS E.n E.cS)).cell? ⟨rb, 1, none⟩ = some (.slice none 0 0) := (blk_cell hr2 1).trans rfl
      have z1 := blk_frozen hr2 1
      have hr3 := blk_put hr2 1 (.slice E.AD (64 * E.n) E.cD) rfl
      have r2 : ((W1.setCell ⟨rb, 0, none⟩ (.slice E.AS E.n E.cS)).setCell ⟨rb, 1, none⟩ (.slice E.AD (64 * E.n) E.cD)).cell? ⟨rb, 2, none⟩ = some (.slice none 0 0) := (blk_cell hr3 2).trans rfl
      have z2 := blk_frozen hr3 2
      have hr4 := blk_put hr3 2 (.slice AR fin.rd.length cR) rfl
      have r3 : (((W1.setCell ⟨rb, 0, none⟩ (.slice E.AS E.n E.cS)).setCell ⟨rb, 1, none⟩ (.slice E.AD (64 * E.n) E.cD)).setCell ⟨rb, 2, none⟩ (.slice AR fin.rd.length cR)).cell? ⟨rb, 3, none⟩ = some (.int .i64 0) := (blk_cell hr4 3).trans rfl
      have z3 := blk_frozen hr4 3
      have hr5 := blk_put hr4 3 (.int .i64 fin.tm) rfl
      have HR5 := Aside0.mk hr5
      have HW1 := Aside0.mk hW1
      clear hr1 hr2 hr3 hr4 hr5 hj1
      go_wp2_with (first | (go_at_call 46; refine ht.mono ?_; rintro e w' ⟨rfl, hw⟩; replace hw := hw.symm; subst hw))
      have h4 : ∀ {K : Type} {e : Nat} {d : Kd K} {v : Value} {l : List K} {ok : Nat → Prop}, (∀ q, q ∈ e :: d.E → q ≠ 133) → (∀ q, q ∈ e :: d.E → q ≠ 82) → d.R e wr E.L ok v l → d.R e ((((W1.setCell ⟨rb, 0, none⟩ (.slice E.AS E.n E.cS)).setCell ⟨rb, 1, none⟩ (.slice E.AD (64 * E.n) E.cD)).setCell ⟨rb, 2, none⟩ (.slice AR fin.rd.length cR)).setCell ⟨rb, 3, none⟩ (.int .i64 fin.tm)) E.L ok v l := by
        intro K e d v l ok t1 t2 hK
        have k1 := Kd.R_set hK hA.out.job.blk t1 3 (.int .i64 fin.tm)
        rw [HW1.out] at k1
        have b1 : W1.heap[rb]? = some (.cells #[.slice none 0 0, .slice none 0 0, .slice none 0 0, .int .i64 0] 82 (0, 0)) := by rw [← HW1.out]; exact blk_far hrr hne _
        have k2 := Kd.R_set k1 b1 t2 0 (.slice E.AS E.n E.cS)
        have b2 := blk_put b1 0 (.slice E.AS E.n E.cS) rfl
        have k3 := Kd.R_set k2 b2 t2 1 (.slice E.AD (64 * E.n) E.cD)
        have b3 := blk_put b2 1 (.slice E.AD (64 * E.n) E.cD) rfl
        have k4 := Kd.R_set k3 b3 t2 2 (.slice AR fin.rd.length cR)
        have b4 := blk_put b3 2 (.slice AR fin.rd.length cR) rfl
        exact Kd.R_set k4 b4 t2 3 (.int .i64 fin.tm)
      have hwb : w.heap.size ≤ E.b := by rw [eb.out]; exact hw3.out
      have hEL : w.heap.size ≤ E.L := Nat.le_trans hwb hA.out.job.bl
      have hbel : Below w.heap.size w ((((W1.setCell ⟨rb, 0, none⟩ (.slice E.AS E.n E.cS)).setCell ⟨rb, 1, none⟩ (.slice E.AD (64 * E.n) E.cD)).setCell ⟨rb, 2, none⟩ (.slice AR fin.rd.length cR)).setCell ⟨rb, 3, none⟩ (.int .i64 fin.tm)) := by
        have b0 : Below w.heap.size w wr := hB7.out.trans ⟨hBw.out.os, hBw.out.tape, hBw.out.output, hBw.out.size, fun k hk => hBw.out.block k (by omega)⟩
        have b1 := b0.setCell (p := ⟨E.j, 3, none⟩) (by show w.heap.size ≤ E.j; exact Nat.le_trans hEL hA.out.job.jl) (.int .i64 fin.tm)
        rw [HW1.out] at b1
        exact (((b1.setCell (p := ⟨rb, 0, none⟩) hrw _).setCell (p := ⟨rb, 1, none⟩) hrw _).setCell (p := ⟨rb, 2, none⟩) hrw _).setCell (p := ⟨rb, 3, none⟩) hrw _
      have hS5 := h4 (by decide) (by decide) hA.out.job.S
      have hD5 := h4 (by decide) (by decide) hA.out.job.D
      have hR5 := h4 (by decide) (by decide) hA.out.job.R
      refine bodyPost_ret (results_cell_tmp rfl _ _ rb 82 _ (0, 0) _ rfl HR5.out Try.underlying82 rfl (by kernel_rfl)) rfl ?_
      have hpass : passes data faults n skip tries = fin := by
        rw [← hfin.out, ← hs3.out, ← ed.out, ← ef.out, ← es.out, ← en.out, ← hT.out]; rfl
      rw [hpass]
      exact ⟨.slice E.AS E.n E.cS, .slice E.AD (64 * E.n) E.cD, .slice AR fin.rd.length cR, rfl, Kd.R_lower (Kd.R_mono hS5 fun _ _ => trivial) hEL, Kd.R_lower (Kd.R_mono hD5 fun _ _ => trivial) hEL, Kd.R_lower (Kd.R_mono hR5 fun _ _ => trivial) hEL, hbel⟩
def runErr (data : List Int) (faults : List S121) (skip tries : Int) : Int := if errD data faults = 0 then planErr skip tries else errD data faults
set_option maxHeartbeats 16000000 in
set_option maxRecDepth 100000 in
/-- a wrong drive, a wrong plan -/
theorem run_err (A0 : Option Addr) (c0 : Nat) (data : List Int) (A1 : Option Addr) (c1 : Nat) (faults : List S121) (skip tries : Int) (w : World)
    (hr0 : Kd.C (Kd.int .u8) w A0 data.length data) (hc0 : data.length ≤ c0) (hr1 : Kd.C k121 w A1 faults.length faults) (hc1 : faults.length ≤ c1) (hn : faults.length ≤ 5864062014805) (hp : runErr data faults skip tries ≠ 0) :
    Calls Try.prog 53 #[.agg #[.slice A0 data.length c0, .slice A1 faults.length c1], .agg #[.int .i64 skip, .int .i64 tries]] w fun e w' =>
      e = .returned (.tuple #[.agg #[.slice none 0 0, .slice none 0 0, .slice none 0 0, .int .i64 0], .int .i64 (runErr data faults skip tries)]) ∧ Below w.heap.size w w' := by
  obtain ⟨k1, h1⟩ := (check_ev data faults (by omega)).rounds
  have h2 := check_plan skip tries
  have hu46 := Try.underlying46
  have hu80 := Try.underlying80
  have hu82 := Try.underlying82
  have HR0 := Aside0.mk hr0
  have HR1 := Aside0.mk hr1
  have HC0 := Aside0.mk hc0
  have HC1 := Aside0.mk hc1
  have H2 := Aside0.mk h2
  have HN := Aside0.mk hn
  clear hr0 hr1 hc0 hc1 h2 hn
  have HB := Aside0.mk (Below.refl w.heap.size w)
  by_cases he : errD data faults = 0
  · obtain ⟨e1, e2, e3⟩ := err_right data faults he
    obtain ⟨q, hq⟩ : ∃ q, planErr skip tries = q := ⟨_, rfl⟩
    have hqe : runErr data faults skip tries = q := by unfold runErr; rw [if_pos he]; exact hq
    rw [hqe] at hp ⊢
    rw [hq] at H2
    rw [he] at h1
    have hne : (q != 0) = true := bne_iff_ne.mpr hp
    have hne2 : (q == 0) = false := beq_eq_false_iff_ne.mpr hp
    have H1 := Aside0.mk h1
    have HLEN := Aside0.mk e1
    clear h1 e1 e2 e3 he hq hqe hp
    go_enter Try.func53, Try.ntmps53
    go_wp2_with (first
      | ((with_reducible refine gate_dst (N := 2) rfl ?_); refine box_event ?hg (N := 2) ?hd (cs := #[.slice A0 data.length c0, .slice A1 faults.length c1]) (t := 46) ?hr ?_; (case hd => rfl); (case hg => rfl); (case hr => first | (go_simp; done) | (go_simp; rfl)); intro db hg w1 hbox hb; have HB1 := Aside0.mk (below_step HB.out hb); have BD := Aside0.mk hbox; clear hg hb hbox)
      | ((with_reducible refine gate_dst (N := 3) rfl ?_); refine box_event ?hg (N := 3) ?hd (cs := #[.int .i64 skip, .int .i64 tries]) (t := 80) ?hr ?_; (case hd => rfl); (case hg => rfl); (case hr => first | (go_simp; done) | (go_simp; rfl)); intro pb hg w2 hbox hb; have HB2 := Aside0.mk (below_step HB1.out hb); have BP2 := Aside0.mk hbox; have BD2 := Aside0.mk (blk_below BD.out hb); clear hg hb hbox)
      | ((with_reducible refine gate_dst (N := 4) rfl ?_); refine box_event ?hg (N := 4) ?hd (cs := #[.slice none 0 0, .slice none 0 0, .slice none 0 0, .int .i64 0]) (t := 82) ?hr ?_; (case hd => rfl); (case hg => rfl); (case hr => first | (go_simp; done) | (go_simp; rfl)); intro rb hg w3 hbox hb; have HB3 := Aside0.mk (below_step HB2.out hb); have hw3 := Aside0.mk HB3.out.size; have BP3 := Aside0.mk (blk_below BP2.out hb); have BR3 := Aside0.mk hbox; have BD3 := blk_below BD2.out hb; have hrw : w.heap.size ≤ rb := (by have := HB2.out.size; omega); have cd0 : w3.cell? ⟨db, 0, none⟩ = some (.slice A0 data.length c0) := (blk_cell BD3 0).trans rfl; have cd1 : w3.cell? ⟨db, 1, none⟩ = some (.slice A1 faults.length c1) := (blk_cell BD3 1).trans rfl; clear hg hb hbox HB HB1 HB2 BP2 BD BD2 BD3)
      | (go_at_call 43; refine (new_ok k1 A0 c0 data A1 c1 faults _ (Kd.C_below HR0.out HB3.out) HC0.out (Kd.C_below HR1.out HB3.out) HC1.out H1.out (by have := HLEN.out; omega) HN.out).mono ?_; rintro e w4 ⟨g, M, AN, cN, AF, cF, rfl, hgw, hMw, hdisk, hb⟩; have HB4 := Aside0.mk (below_step HB3.out hb); have BP4 := Aside0.mk (blk_below BP3.out hb); have BR4 := Aside0.mk (blk_below BR3.out hb); have cp0 : w4.cell? ⟨pb, 0, none⟩ = some (.int .i64 skip) := (blk_cell BP4.out 0).trans rfl; have cp1 : w4.cell? ⟨pb, 1, none⟩ = some (.int .i64 tries) := (blk_cell BP4.out 1).trans rfl; clear hb hdisk hgw hMw cd0 cd1)
      | (go_at_call 56; refine (pass_Check.calls skip tries q _ H2.out).mono ?_; rintro e w5 ⟨rfl, hb⟩; have HB5 := Aside0.mk (below_step HB4.out hb); have BR5 := blk_below BR4.out hb; have r0 : w5.cell? ⟨rb, 0, none⟩ = some (.slice none 0 0) := (blk_cell BR5 0).trans rfl; have z0 := blk_frozen BR5 0; have hr2 := blk_put BR5 0 (.slice none 0 0) rfl; have r1 : (w5.setCell ⟨rb, 0, none⟩ (.slice none 0 0)).cell? ⟨rb, 1, none⟩ = some (.slice none 0 0) := (blk_cell hr2 1).trans rfl; have z1 := blk_frozen hr2 1; have hr3 := blk_put hr2 1 (.slice none 0 0) rfl; have r2 : ((w5.setCell ⟨rb, 0, none⟩ (.slice none 0 0)).setCell ⟨rb, 1, none⟩ (.slice none 0 0)).cell? ⟨rb, 2, none⟩ = some (.slice none 0 0) := (blk_cell hr3 2).trans rfl; have z2 := blk_frozen hr3 2; have hr4 := blk_put hr3 2 (.slice none 0 0) rfl; have r3 : (((w5.setCell ⟨rb, 0, none⟩ (.slice none 0 0)).setCell ⟨rb, 1, none⟩ (.slice none 0 0)).setCell ⟨rb, 2, none⟩ (.slice none 0 0)).cell? ⟨rb, 3, none⟩ = some (.int .i64 0) := (blk_cell hr4 3).trans rfl; have z3 := blk_frozen hr4 3; have HR5 := Aside0.mk (blk_put hr4 3 (.int .i64 0) rfl); clear BR5 hr2 hr3 hr4; clear hb cp0 cp1))
    refine bodyPost_ret (results_cell_tmp rfl _ _ rb 82 _ (0, 0) _ rfl HR5.out Try.underlying82 rfl (by kernel_rfl)) rfl ?_
    exact ⟨rfl, (((HB5.out.setCell (p := ⟨rb, 0, none⟩) hrw _).setCell (p := ⟨rb, 1, none⟩) hrw _).setCell (p := ⟨rb, 2, none⟩) hrw _).setCell (p := ⟨rb, 3, none⟩) hrw _⟩
  · obtain ⟨q, hq⟩ : ∃ q, errD data faults = q := ⟨_, rfl⟩
    have hqe : runErr data faults skip tries = q := by unfold runErr; rw [if_neg he]; exact hq
    rw [hqe] at hp ⊢
    rw [hq] at h1
    have hne : (q != 0) = true := bne_iff_ne.mpr hp
    have hne2 : (q == 0) = false := beq_eq_false_iff_ne.mpr hp
    have H1 := Aside0.mk h1
    have HQ := Aside0.mk hp
    clear h1 he hq hqe hp
    go_enter Try.func53, Try.ntmps53
    go_wp2_with (first
      | ((with_reducible refine gate_dst (N := 2) rfl ?_); refine box_event ?hg (N := 2) ?hd (cs := #[.slice A0 data.length c0, .slice A1 faults.length c1]) (t := 46) ?hr ?_; (case hd => rfl); (case hg => rfl); (case hr => first | (go_simp; done) | (go_simp; rfl)); intro db hg w1 hbox hb; have HB1 := Aside0.mk (below_step HB.out hb); have BD := Aside0.mk hbox; clear hg hb hbox)
      | ((with_reducible refine gate_dst (N := 3) rfl ?_); refine box_event ?hg (N := 3) ?hd (cs := #[.int .i64 skip, .int .i64 tries]) (t := 80) ?hr ?_; (case hd => rfl); (case hg => rfl); (case hr => first | (go_simp; done) | (go_simp; rfl)); intro pb hg w2 hbox hb; have HB2 := Aside0.mk (below_step HB1.out hb); have BP2 := Aside0.mk hbox; have BD2 := Aside0.mk (blk_below BD.out hb); clear hg hb hbox)
      | ((with_reducible refine gate_dst (N := 4) rfl ?_); refine box_event ?hg (N := 4) ?hd (cs := #[.slice none 0 0, .slice none 0 0, .slice none 0 0, .int .i64 0]) (t := 82) ?hr ?_; (case hd => rfl); (case hg => rfl); (case hr => first | (go_simp; done) | (go_simp; rfl)); intro rb hg w3 hbox hb; have HB3 := Aside0.mk (below_step HB2.out hb); have hw3 := Aside0.mk HB3.out.size; have BP3 := Aside0.mk (blk_below BP2.out hb); have BR3 := Aside0.mk hbox; have BD3 := blk_below BD2.out hb; have hrw : w.heap.size ≤ rb := (by have := HB2.out.size; omega); have cd0 : w3.cell? ⟨db, 0, none⟩ = some (.slice A0 data.length c0) := (blk_cell BD3 0).trans rfl; have cd1 : w3.cell? ⟨db, 1, none⟩ = some (.slice A1 faults.length c1) := (blk_cell BD3 1).trans rfl; clear hg hb hbox HB HB1 HB2 BP2 BD BD2 BD3)
      | (go_at_call 43; refine (new_err k1 A0 c0 data A1 c1 faults q _ (Kd.C_below HR0.out HB3.out) HC0.out (Kd.C_below HR1.out HB3.out) HC1.out H1.out HQ.out).mono ?_; rintro e w5 ⟨rfl, hb⟩; have HB5 := Aside0.mk (below_step HB3.out hb); have BR5 := blk_below BR3.out hb; have r0 : w5.cell? ⟨rb, 0, none⟩ = some (.slice none 0 0) := (blk_cell BR5 0).trans rfl; have z0 := blk_frozen BR5 0; have hr2 := blk_put BR5 0 (.slice none 0 0) rfl; have r1 : (w5.setCell ⟨rb, 0, none⟩ (.slice none 0 0)).cell? ⟨rb, 1, none⟩ = some (.slice none 0 0) := (blk_cell hr2 1).trans rfl; have z1 := blk_frozen hr2 1; have hr3 := blk_put hr2 1 (.slice none 0 0) rfl; have r2 : ((w5.setCell ⟨rb, 0, none⟩ (.slice none 0 0)).setCell ⟨rb, 1, none⟩ (.slice none 0 0)).cell? ⟨rb, 2, none⟩ = some (.slice none 0 0) := (blk_cell hr3 2).trans rfl; have z2 := blk_frozen hr3 2; have hr4 := blk_put hr3 2 (.slice none 0 0) rfl; have r3 : (((w5.setCell ⟨rb, 0, none⟩ (.slice none 0 0)).setCell ⟨rb, 1, none⟩ (.slice none 0 0)).setCell ⟨rb, 2, none⟩ (.slice none 0 0)).cell? ⟨rb, 3, none⟩ = some (.int .i64 0) := (blk_cell hr4 3).trans rfl; have z3 := blk_frozen hr4 3; have HR5 := Aside0.mk (blk_put hr4 3 (.int .i64 0) rfl); clear BR5 hr2 hr3 hr4; clear hb cd0 cd1))
    refine bodyPost_ret (results_cell_tmp rfl _ _ rb 82 _ (0, 0) _ rfl HR5.out Try.underlying82 rfl (by kernel_rfl)) rfl ?_
    exact ⟨rfl, (((HB5.out.setCell (p := ⟨rb, 0, none⟩) hrw _).setCell (p := ⟨rb, 1, none⟩) hrw _).setCell (p := ⟨rb, 2, none⟩) hrw _).setCell (p := ⟨rb, 3, none⟩) hrw _⟩
end Go.Proofs.Ytdgkbpoljcndgaa.Pure
