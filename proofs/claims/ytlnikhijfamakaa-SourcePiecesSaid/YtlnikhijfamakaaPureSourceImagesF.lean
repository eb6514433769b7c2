/- Sources of bytes: the fact on a part of an image; all bytes. No condition. -/
import Derived.Test.YtlnikhijfamakaaPureSourceImagesE
import Derived.Outline
namespace Go.Proofs.Ytlnikhijfamakaa.Pure
open Go Go.RowKit Go.Maps Go.Proofs.Ytlnikhijfamakaa.QSourceImages Go.Proofs.YtlnikhijfamakaaW.PrintWords Go.Proofs.YtlnikhijfamakaaW.PrintLast Go.Proofs.YtlnikhijfamakaaW.PrintMore
set_option linter.unusedVariables false
set_option linter.unusedSimpArgs false
/-- every range -/
theorem is_calls (w : World) (T : Nat) (x : Value) (fR fO fS fP : Nat) (b fr : List Int) (bad : List Bool) (h : SrcIs w T x fR fO fS fP b fr bad) (A0 A1 A2 : Option Addr) (c0 c1 c2 : Nat) (off k : Int) (hf : fr.length = b.length) (hbl : bad.length = b.length) (hn : b.length ≤ 65536)
    (hc0 : b.length ≤ c0) (hc1 : b.length ≤ c1) (hr0 : Kd.C (Kd.int .u8) w A0 b.length b) (hr1 : Kd.C (Kd.int .i64) w A1 b.length fr) (hr2 : Kd.C Kd.bool w A2 b.length bad) (hfb : ∀ y ∈ fr, 0 ≤ y ∧ y < 65536) :
    Calls Try.prog 11 #[.agg #[.slice A0 b.length c0, .slice A1 b.length c1, .slice A2 b.length c2], .iface T x, .int .i64 off, .int .i64 k] w fun e w' => e = .returned (.bool true) ∧ Below w.heap.size w w' := by
  by_cases hR : inR b.length off k
  · have hR2 := hR
    unfold inR at hR2
    obtain ⟨o, rfl⟩ := Int.eq_ofNat_of_zero_le hR2.1
    obtain ⟨n, rfl⟩ := Int.eq_ofNat_of_zero_le hR2.2.1
    by_cases hh : hit bad (o : Int) (n : Int) = true
    · exact is_hit w T x fR fO fS fP b fr bad h A0 A1 A2 _ _ c0 c1 c2 o n (by omega) hf hbl hn rfl rfl hc1 hr1 hr2 hfb hh
    · exact is_ok w T x fR fO fS fP b fr bad h A0 A1 A2 _ _ c0 c1 c2 o n (by omega) hf hbl hn rfl rfl hc0 hc1 hr0 hr1 hr2 hfb hh
  · exact is_out w T x fR fO fS fP b fr bad h A0 A1 A2 _ _ c0 c1 c2 off k hR hf hn
theorem idx_in (n : Nat) (hn : n ≤ 65536) : ∀ y ∈ idx n, 0 ≤ y ∧ y < 65536 := by
  intro y hy
  unfold idx at hy
  obtain ⟨i, hi, rfl⟩ := List.mem_map.1 hy
  have := List.mem_range.1 hi
  omega
theorem norm_nil : normP [] = [] := List.eq_nil_of_length_eq_zero (Nat.le_zero.mp (norm_facts []).2.2.2)
/-- Of: an image, or none -/
theorem of_calls (A : Option Addr) (c : Nat) (b : List Int) (w : World) (hrb : Kd.C (Kd.int .u8) w A b.length b) (hcb : b.length ≤ c) (hn : b.length ≤ 65536) :
    Calls Try.prog 8 #[.slice A b.length c] w fun e w' => ∃ g A1 c1 A2 c2, e = .returned (.tuple #[.iface 69 (.pointer (some ⟨g, 0, none⟩)), .int .i64 0]) ∧ IsImg w' g A1 c1 b A2 c2 (normP []) ∧ Below w.heap.size w w' := by
  have hb := fun W (h : Kd.C (Kd.int .u8) W A b.length b) => bad_small A c b none 0 [] W h hcb (Kd.C_nil _ _) (Nat.le_refl _) hn (by simp)
  have hse : srcErr b.length [] = 0 := by unfold srcErr; rw [if_neg (by omega), if_pos (fun x hx => by simp at hx)]
  have HB := Aside0.mk (hb w hrb)
  have HSE := Aside0.mk hse
  clear hb hrb hse hn hcb
  go_enter Try.func8, Try.ntmps8
  go_wp2_with (first
    | (go_at_call 7; refine HB.out.mono ?_; rintro e w1 ⟨h1, _⟩; obtain ⟨g, A1, c1, A2, c2, rfl, hI, hb1⟩ := h1 HSE.out; replace hI := Aside0.mk hI; have HB1 := Aside0.mk hb1; clear hb1 h1))
  refine bodyPost_ret (v := .tuple #[.iface 69 (.pointer (some ⟨g, 0, none⟩)), .int .i64 0]) (by simp [results, Try.results8, go_sem]) rfl ?_
  exact ⟨g, A1, c1, A2, c2, rfl, hI.out, HB1.out⟩
theorem of_large (A : Option Addr) (c n : Nat) (w : World) (hn : 65536 < n) :
    Calls Try.prog 8 #[.slice A n c] w fun e w' => e = .returned (.tuple #[.nilIface, .int .i64 2]) ∧ Below w.heap.size w w' := by
  have HB := Aside0.mk (bad_large A c n none 0 0 w hn)
  clear hn
  go_enter Try.func8, Try.ntmps8
  go_wp2_with (first
    | (go_at_call 7; refine HB.out.mono ?_; rintro e w1 ⟨rfl, hb1⟩; have HB1 := Aside0.mk hb1; clear hb1))
  refine bodyPost_ret (v := .tuple #[.nilIface, .int .i64 2]) (by simp [results, Try.results8, go_sem]) rfl ?_
  exact ⟨rfl, HB1.out⟩
set_option maxHeartbeats 8000000 in
set_option maxRecDepth 100000 in
/-- the fact on a part of an image -/
theorem sources_calls (w : World) : Calls Try.prog 9 #[] w fun e w' => e = .returned (.bool true) ∧ Below w.heap.size w w' := by
  have hof := fun A c W h0 h1 => of_calls A c [97, 98, 99, 100, 101, 102] W h0 h1 (by decide)
  have HOF := Aside0.mk hof
  have hrow : readRow ([97, 98, 99, 100, 101, 102] : List Int) (badOf ([97, 98, 99, 100, 101, 102] : List Int).length []) 1 2 = [98, 99] := by decide
  have herr : readErr ([97, 98, 99, 100, 101, 102] : List Int).length (badOf ([97, 98, 99, 100, 101, 102] : List Int).length []) 1 2 = 0 := by decide
  have hss : strOfNums [98, 99] = ⟨#[98, 99]⟩ := by decide
  clear hof
  have HB := Aside0.mk (Below.refl w.heap.size w)
  go_enter Try.func9, Try.ntmps9
  go_wp2_with (first
    | ((with_reducible refine gate_dst (N := 6) rfl ?_); refine Kd.C_litbytes (xs := [97, 98, 99, 100, 101, 102]) (e := 5) rfl rfl (N := 6) rfl ?hr Try.underlying22 Try.underlying5 rfl (fun _ => rfl) (by simp) ?_; (case hr => first | (go_simp; done) | (go_simp; rfl)); intro A1 c1 w1 hC hc hb; have HB1 := Aside0.mk hb; have HC := Aside0.mk hC; have HCC := Aside0.mk hc; clear hC hc hb)
    | (go_at_call 8; refine (HOF.out A1 c1 _ HC.out HCC.out).mono ?_; rintro e w2 ⟨g, A2, c2, A3, c3, rfl, hI, hb2⟩; have HB2 := Aside0.mk (below_step HB1.out hb2); have hS := img_src hI (by decide) (by simp); have hRr := hS.mR.run; have hRe := hS.mR.ent; have hrd := (hS.ans _ (Below.refl _ _)).read 1 2; rw [hrow, herr] at hrd; replace hrd := Aside0.mk hrd; clear hI hb2 hS)
    | (go_at_call 98; refine hrd.out.mono ?_; rintro e w3 ⟨v0, rfl, hv0, hb3⟩; obtain ⟨V0, d0, e0⟩ := Kd.R_slice hv0; rw [show ([98, 99] : List Int).length = 2 from rfl] at e0; subst e0; have HB3 := Aside0.mk (below_step HB2.out hb3); have hcv : (convert 22 9 (.slice V0 2 d0)).run Try.prog w3 = .ok (.string ⟨#[98, 99]⟩) w3 := (Kd.C_string (P := Try.prog) (c := d0) (xs := [98, 99]) Try.underlying22 Try.underlying5 Try.underlying9 (Kd.R_reads' hv0).2.2).trans (by rw [hss]); clear hv0 hb3))
  go_ret
  exact ⟨rfl, HB3.out⟩
set_option maxHeartbeats 8000000 in
set_option maxRecDepth 100000 in
/-- all bytes of a source -/
theorem all_calls (w : World) (T : Nat) (x : Value) (fR fO fS fP : Nat) (b fr : List Int) (bad : List Bool) (h : SrcIs w T x fR fO fS fP b fr bad) :
    Calls Try.prog 12 #[.iface T x] w fun e w' => ∃ v0, e = .returned (.tuple #[v0, .int .i64 (readErr b.length bad 0 (b.length : Int))]) ∧ (Kd.int .u8).R 5 w' w.heap.size (fun _ => True) v0 (readRow b bad 0 (b.length : Int)) ∧ Below w.heap.size w w' := by
  have hread := fun W (hb : Below w.heap.size w W) => (h.ans W hb).read 0 (b.length : Int)
  have HSIZE := Aside0.mk (fun W (hb : Below w.heap.size w W) => (h.ans W hb).size)
  have hRa := h.mR.ahead
  have hmS := Aside0.mk h.mS
  have hmR := Aside0.mk h.mR
  obtain ⟨er, her⟩ : ∃ r, r = readErr b.length bad 0 (b.length : Int) := ⟨_, rfl⟩
  obtain ⟨row, hrow⟩ : ∃ r, r = readRow b bad 0 (b.length : Int) := ⟨_, rfl⟩
  rw [← her, ← hrow] at hread ⊢
  have HREAD := Aside0.mk hread
  clear h her hrow hread
  have HBD := Aside0.mk (below_drew (Below.refl w.heap.size w))
  go_enter Try.func12, Try.ntmps12
  go_wp2
  refine start_ (n := 11) (S := fun w' => True) (ds := []) #[false, false, false, false, false, false, false, false, false, false, false] (by kernel_rfl) rfl rfl trivial (fun hHeld => ?_)
  generalize w.drew = wD at HBD hHeld ⊢
  refine pure_ (i := 0) (N := some 4) (v := ?_) (a' := ?_) #[true, false, false, false, false, false, false, false, false, false, false] rfl rfl (by kernel_rfl) (fun _ _ _ h => h) (Or.inl ⟨by rfl, ?_⟩) ?_ ?_
  rotate_left
  · intro w'
    go_simp
    with_reducible rfl
  rotate_left
  · simp only [Act.put, List.setIfInBounds_toArray, List.set_cons_zero, List.set_cons_succ, i64_w, i32_w]
    rfl
  refine pure_ (i := 1) (N := some 5) (v := ?_) (a' := ?_) #[true, true, false, false, false, false, false, false, false, false, false] rfl rfl (by kernel_rfl) (fun _ _ _ h => h) (Or.inl ⟨by rfl, ?_⟩) ?_ ?_
  rotate_left
  · intro w'
    go_simp
    with_reducible rfl
  rotate_left
  · simp only [Act.put, List.setIfInBounds_toArray, List.set_cons_zero, List.set_cons_succ, i64_w, i32_w]
    rfl
  refine pure_ (i := 3) (N := some 7) (v := ?_) (a' := ?_) #[true, true, false, true, false, false, false, false, false, false, false] rfl rfl (by kernel_rfl) (fun _ _ _ h => h) (Or.inl ⟨by rfl, ?_⟩) ?_ ?_
  rotate_left
  · intro w'
    go_simp
    with_reducible rfl
  rotate_left
  · simp only [Act.put, List.setIfInBounds_toArray, List.set_cons_zero, List.set_cons_succ, i64_w, i32_w]
    rfl
  refine pure_ (i := 4) (N := some 8) (v := ?_) (a' := ?_) #[true, true, false, true, true, false, false, false, false, false, false] rfl rfl (by kernel_rfl) (fun _ _ _ h => h) (Or.inl ⟨by rfl, ?_⟩) ?_ ?_
  rotate_left
  · intro w'
    go_simp
    with_reducible rfl
  rotate_left
  · simp only [Act.put, List.setIfInBounds_toArray, List.set_cons_zero, List.set_cons_succ, i64_w, i32_w]
    rfl
  refine pure_ (i := 5) (N := some 9) (v := ?_) (a' := ?_) #[true, true, false, true, true, true, false, false, false, false, false] rfl rfl (by kernel_rfl) (fun _ _ _ h => h) (Or.inl ⟨by rfl, ?_⟩) ?_ ?_
  rotate_left
  · intro w'
    go_simp
    with_reducible rfl
  rotate_left
  · simp only [Act.put, List.setIfInBounds_toArray, List.set_cons_zero, List.set_cons_succ, i64_w, i32_w]
    rfl
  refine one_ (i := 2) (N := some 6) #[true, true, true, true, true, true, false, false, false, false, false] rfl rfl (by kernel_rfl) (by decide) (fun K hK => ?_)
  refine call_ fS #[x] (by rfl) rfl ?_ ?_
  · unfold execOp
    simp [resolve, Deferred.ofValue, invoke, callMethod, Act.eval]
    rw [show 167 + Made.depth = 267 from rfl, hmS.out.run]
    exact hmS.out.ent _ _
  with_reducible refine (HSIZE.out _ HBD.out).mono ?_
  rintro e w3 ⟨rfl, hb3⟩
  refine ⟨_, rfl, ?_⟩
  refine hK.out _ _ trivial (fun hHeld => ?_)
  clear hK K
  refine norm_ (a' := ?_) ?_ ?_
  rotate_left
  · show Act.put _ (some 6) _ = _
    simp only [Act.put, List.setIfInBounds_toArray, List.set_cons_zero, List.set_cons_succ, i64_w, i32_w]
    rfl
  refine one_ (i := 6) (N := some 10) #[true, true, true, true, true, true, true, false, false, false, false] rfl rfl (by kernel_rfl) (by decide) (fun K hK => ?_)
  refine call_ fR #[x, .int .i64 0, .int .i64 (b.length : Int)] (by rfl) rfl ?_ ?_
  · unfold execOp
    simp [resolve, Deferred.ofValue, invoke, callMethod, Act.eval]
    rw [show 167 + Made.depth = 267 from rfl, hmR.out.run]
    exact hmR.out.ent _ _
  with_reducible refine (HREAD.out _ (below_step HBD.out hb3)).mono ?_
  rintro e w4 ⟨v4, rfl, hv4, hb4⟩
  refine ⟨_, rfl, ?_⟩
  refine hK.out _ _ trivial (fun hHeld => ?_)
  clear hK K
  refine norm_ (a' := ?_) ?_ ?_
  rotate_left
  · show Act.put _ (some 10) _ = _
    simp only [Act.put, List.setIfInBounds_toArray, List.set_cons_zero, List.set_cons_succ, i64_w, i32_w]
    rfl
  refine pure_ (i := 7) (N := some 11) (v := ?_) (a' := ?_) #[true, true, true, true, true, true, true, true, false, false, false] rfl rfl (by kernel_rfl) (fun _ _ _ h => h) (Or.inl ⟨by rfl, ?_⟩) ?_ ?_
  rotate_left
  · intro w'
    go_simp
    with_reducible rfl
  rotate_left
  · simp only [Act.put, List.setIfInBounds_toArray, List.set_cons_zero, List.set_cons_succ, i64_w, i32_w]
    rfl
  refine pure_ (i := 8) (N := some 12) (v := ?_) (a' := ?_) #[true, true, true, true, true, true, true, true, true, false, false] rfl rfl (by kernel_rfl) (fun _ _ _ h => h) (Or.inl ⟨by rfl, ?_⟩) ?_ ?_
  rotate_left
  · intro w'
    go_simp
    with_reducible rfl
  rotate_left
  · simp only [Act.put, List.setIfInBounds_toArray, List.set_cons_zero, List.set_cons_succ, i64_w, i32_w]
    rfl
  refine pure_ (i := 9) (N := some 2) (v := ?_) (a' := ?_) #[true, true, true, true, true, true, true, true, true, true, false] rfl rfl (by kernel_rfl) (fun _ _ _ h => h) (Or.inl ⟨by rfl, ?_⟩) ?_ ?_
  rotate_left
  · intro w'
    go_simp
    with_reducible rfl
  rotate_left
  · simp only [Act.put, List.setIfInBounds_toArray, List.set_cons_zero, List.set_cons_succ, i64_w, i32_w]
    rfl
  refine pure_ (i := 10) (N := some 3) (v := ?_) (a' := ?_) #[true, true, true, true, true, true, true, true, true, true, true] rfl rfl (by kernel_rfl) (fun _ _ _ h => h) (Or.inl ⟨by rfl, ?_⟩) ?_ ?_
  rotate_left
  · intro w'
    go_simp
    with_reducible rfl
  rotate_left
  · simp only [Act.put, List.setIfInBounds_toArray, List.set_cons_zero, List.set_cons_succ, i64_w, i32_w]
    rfl
  refine done_ (by kernel_rfl) ?_
  have HB9 := Aside0.mk (below_step (below_step HBD.out hb3) hb4)
  have HV9 := Aside0.mk (Kd.R_lower hv4 (below_step HBD.out hb3).size)
  clear hb3 hb4 hv4 hHeld HBD
  go_wp2
  refine bodyPost_ret (v := .tuple #[v4, .int .i64 er]) (by simp [results, Try.results12, go_sem]) rfl ?_
  exact ⟨v4, rfl, HV9.out, HB9.out⟩
end Go.Proofs.Ytlnikhijfamakaa.Pure
