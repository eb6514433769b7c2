/- The cheapest plan: the program's. No condition. -/
import Derived.Test.YtdgkbpoljcndgaaPurePassCheapestA
import Derived.Outline
namespace Go.Proofs.Ytdgkbpoljcndgaa.Pure
open Go Go.RowKit Go.Maps Go.Proofs.Ytdgkbpoljcndgaa.QPassRuns Go.Proofs.YtdgkbpoljcndgaaW.PrintWords Go.Proofs.YtdgkbpoljcndgaaW.PrintLast Go.Proofs.YtdgkbpoljcndgaaW.PrintMore
set_option linter.unusedVariables false
set_option linter.unusedSimpArgs false
/-- the cheapest of plans, from the k-th on -/
def cheapL (data : List Int) (faults : List S121) : List S80 → Int → Int → Int → Int → Int × Int
  | [], _, best, _, _ => if best < 0 then (0, 8) else (best, 0)
  | p :: l, k, best, most, time =>
    if runErr data faults p.f0 p.f1 ≠ 0 then (0, runErr data faults p.f0 p.f1)
    else if best < 0 ∨ (goods (passes data faults (data.length / 64) p.f0 p.f1).st : Int) > most ∨ ((goods (passes data faults (data.length / 64) p.f0 p.f1).st : Int) = most ∧ (passes data faults (data.length / 64) p.f0 p.f1).tm < time) then
      cheapL data faults l (k + 1) k (goods (passes data faults (data.length / 64) p.f0 p.f1).st) (passes data faults (data.length / 64) p.f0 p.f1).tm
    else cheapL data faults l (k + 1) best most time
theorem drop_plan (l : List S80) (i : Nat) (h : i < l.length) : l.drop i = rd_T80 l (i : Int) :: l.drop (i + 1) := by
  rw [List.drop_eq_getElem_cons h]
  simp [rd_T80, List.getD_eq_getElem?_getD, h]
/-- the result that is the best so far lies in its block -/
structure FAt (w0 w : World) (fb : Nat) (best most time : Int) (A0 : Option Addr) (n0 c0 : Nat) (A1 : Option Addr) (n1 c1 : Nat) (A2 : Option Addr) (n2 c2 : Nat) : Prop where
  b : Below w0.heap.size w0 w
  le : w0.heap.size ≤ fb
  blk : w.heap[fb]? = some (.cells #[.slice A0 n0 c0, .slice A1 n1 c1, .slice A2 n2 c2, .int .i64 time] 82 (0, 0))
  st : 0 ≤ best → ∃ st : List Int, st.length = n0 ∧ n0 ≤ c0 ∧ n0 ≤ 1000000 ∧ (goods st : Int) = most ∧ Kd.C (Kd.int .i64) w A0 n0 st
theorem FAt.below {w0 w w1 : World} {fb : Nat} {best most time : Int} {A0 : Option Addr} {n0 c0 : Nat} {A1 : Option Addr} {n1 c1 : Nat} {A2 : Option Addr} {n2 c2 : Nat} (h : FAt w0 w fb best most time A0 n0 c0 A1 n1 c1 A2 n2 c2) (hb : Below w.heap.size w w1) : FAt w0 w1 fb best most time A0 n0 c0 A1 n1 c1 A2 n2 c2 :=
  ⟨below_step h.b hb, h.le, blk_below h.blk hb, fun h0 => by obtain ⟨st, e1, e2, e3, e4, e5⟩ := h.st h0; exact ⟨st, e1, e2, e3, e4, Kd.C_below e5 hb⟩⟩
theorem passes_len (data : List Int) (faults : List S121) (skip tries : Int) (he : errD data faults = 0) (hp : planErr skip tries = 0) : (passes data faults (data.length / 64) skip tries).st.length ≤ 1000000 := by
  obtain ⟨e1, e2, e3⟩ := err_right data faults he
  have ht : tries ≤ 16 := by unfold planErr at hp; (repeat' split at hp) <;> omega
  have h := (passes_sized data faults (data.length / 64) (by omega) skip tries (by omega) ht).st
  omega
set_option maxHeartbeats 16000000 in
set_option maxRecDepth 100000 in
/-- the program's cheapest plan -/
theorem cheapest_calls (A0 : Option Addr) (c0 : Nat) (data : List Int) (A1 : Option Addr) (c1 : Nat) (faults : List S121) (A2 : Option Addr) (c2 : Nat) (l : List S80) (w : World)
    (hr0 : Kd.C (Kd.int .u8) w A0 data.length data) (hc0 : data.length ≤ c0) (hr1 : Kd.C k121 w A1 faults.length faults) (hc1 : faults.length ≤ c1) (hr2 : Kd.C k80 w A2 l.length l) (hc2 : l.length ≤ c2) (hn : faults.length ≤ 5864062014805) (hl : l.length ≤ 16) :
    Calls Try.prog 59 #[.agg #[.slice A0 data.length c0, .slice A1 faults.length c1], .slice A2 l.length c2] w fun e w' => e = .returned (.tuple #[.int .i64 (cheapL data faults l 0 (-1) 0 0).1, .int .i64 (cheapL data faults l 0 (-1) 0 0).2]) ∧ Below w.heap.size w w' := by
  have hu46 := Try.underlying46
  have hu80 := Try.underlying80
  have hu82 := Try.underlying82
  have HR0 := Aside0.mk hr0
  have HR1 := Aside0.mk hr1
  have HR2 := Aside0.mk hr2
  have HC0 := Aside0.mk hc0
  have HC1 := Aside0.mk hc1
  have HN := Aside0.mk hn
  have HL := Aside0.mk hl
  clear hr0 hr1 hr2 hc0 hc1 hc2 hn
  obtain ⟨fin, hfin⟩ : ∃ f, cheapL data faults l 0 (-1) 0 0 = f := ⟨_, rfl⟩
  rw [hfin]
  have HFIN := Aside0.mk hfin
  clear hfin
  have h16 : decide ((16 : Int) < (l.length : Int)) = false := decide_eq_false (by omega)
  have HB := Aside0.mk (Below.refl w.heap.size w)
  go_enter Try.func59, Try.ntmps59
  go_wp2
  have HB2 := below_alloc (below_alloc HB.out (.cells #[.slice A0 data.length c0, .slice A1 faults.length c1] 46)) (.cells #[.slice none 0 0, .slice none 0 0, .slice none 0 0, .int .i64 0] 82)
  have BD2 := blk_alloc (blk_new w (.cells #[.slice A0 data.length c0, .slice A1 faults.length c1] 46)) (.cells #[.slice none 0 0, .slice none 0 0, .slice none 0 0, .int .i64 0] 82)
  have BF2 := blk_new (w.alloc (.cells #[.slice A0 data.length c0, .slice A1 faults.length c1] 46)) (.cells #[.slice none 0 0, .slice none 0 0, .slice none 0 0, .int .i64 0] 82)
  rw [show (w.alloc (.cells #[.slice A0 data.length c0, .slice A1 faults.length c1] 46)).heap.size = w.heap.size + 1 by simp [World.alloc_eq]] at BF2
  generalize (w.alloc (.cells #[.slice A0 data.length c0, .slice A1 faults.length c1] 46)).alloc (.cells #[.slice none 0 0, .slice none 0 0, .slice none 0 0, .int .i64 0] 82) = w2 at HB2 BD2 BF2 ⊢
  have hF2 : FAt w w2 (w.heap.size + 1) (-1) 0 0 none 0 0 none 0 0 none 0 0 := ⟨HB2, by omega, BF2, fun h => absurd h (by decide)⟩
  replace hF2 := Aside0.mk hF2
  replace BD2 := Aside0.mk BD2
  clear HB2 BF2 HB
  go_loopw [6, 18] (fun vb vi wr => ∃ (i : Nat) (best most time : Int) (B0 : Option Addr) (n0 d0 : Nat) (B1 : Option Addr) (n1 d1 : Nat) (B2 : Option Addr) (n2 d2 : Nat), i ≤ l.length ∧ vb = .int .i64 best ∧ vi = .int .i64 (i : Int) ∧ Aside0 (cheapL data faults (l.drop i) i best most time = fin) ∧ Aside0 (FAt w wr (w.heap.size + 1) best most time B0 n0 d0 B1 n1 d1 B2 n2 d2) ∧ Aside0 (wr.heap[w.heap.size]? = some (.cells #[.slice A0 data.length c0, .slice A1 faults.length c1] 46 (0, 0)))) (fun _ vi _ => l.length - (intOf vi).toNat)
  case atStart => exact ⟨0, -1, 0, 0, none, 0, 0, none, 0, 0, none, 0, 0, Nat.zero_le _, rfl, rfl, HFIN, hF2, BD2⟩
  case round =>
    clear hF2 BD2 HFIN
    obtain ⟨i, best, most, time, B0, n0, d0, B1, n1, d1, B2, n2, d2, hi, rfl, rfl, hfin, hF, hD⟩ := hrel
    by_cases hlt : i < l.length
    · have hlti : (i : Int) < (l.length : Int) := by omega
      have hnx : IntKind.i64.wrap ((i : Int) + 1) = (i : Int) + 1 := by rw [i64_w]; unfold wrap64; omega
      obtain ⟨ad, rfl, e0, e1⟩ := at_T80 (Kd.C_below HR2.out hF.out.b) (i : Int) (by omega) hlti
      have hstep := hfin.out
      rw [drop_plan l i hlt] at hstep
      unfold cheapL at hstep
      generalize rd_T80 l (i : Int) = p at hstep e0 e1
      rw [Int.toNat_natCast] at e0 e1
      replace hstep := Aside0.mk hstep
      have s0 : (wr.alloc (.cells #[.int .i64 p.f0, .int .i64 p.f1] 80)).cell? ⟨w.heap.size, 0, none⟩ = some (.slice A0 data.length c0) := (blk_cell (blk_alloc hD.out (.cells #[.int .i64 p.f0, .int .i64 p.f1] 80)) 0).trans rfl
      have s1 : (wr.alloc (.cells #[.int .i64 p.f0, .int .i64 p.f1] 80)).cell? ⟨w.heap.size, 1, none⟩ = some (.slice A1 faults.length c1) := (blk_cell (blk_alloc hD.out (.cells #[.int .i64 p.f0, .int .i64 p.f1] 80)) 1).trans rfl
      have hF1 := hF.out.below (below_alloc (Below.refl wr.heap.size wr) (.cells #[.int .i64 p.f0, .int .i64 p.f1] 80))
      have hD1 := Aside0.mk (blk_alloc hD.out (.cells #[.int .i64 p.f0, .int .i64 p.f1] 80))
      replace hF1 := Aside0.mk hF1
      clear hD hF
      by_cases he : runErr data faults p.f0 p.f1 = 0
      · have hstep := hstep.out
        rw [if_neg (by simpa using he)] at hstep
        have hed : errD data faults = 0 := by unfold runErr at he; by_cases h : errD data faults = 0; · exact h
                                              · rw [if_neg h] at he; exact he
        have hep : planErr p.f0 p.f1 = 0 := by unfold runErr at he; rw [if_pos hed] at he; exact he
        have hrun := run_ok A0 c0 data A1 c1 faults p.f0 p.f1 (wr.alloc (.cells #[.int .i64 p.f0, .int .i64 p.f1] 80)) (Kd.C_below HR0.out hF1.out.b) HC0.out (Kd.C_below HR1.out hF1.out.b) HC1.out HN.out hed hep
        have hsz := passes_len data faults p.f0 p.f1 hed hep
        obtain ⟨r, hr⟩ : ∃ r, passes data faults (data.length / 64) p.f0 p.f1 = r := ⟨_, rfl⟩
        rw [hr] at hrun hstep hsz
        obtain ⟨rt, hrt⟩ : ∃ x, r.tm = x := ⟨_, rfl⟩
        obtain ⟨gr, hgr⟩ : ∃ x : Int, (goods r.st : Int) = x := ⟨_, rfl⟩
        rw [hrt] at hrun hstep
        rw [hgr, show (i : Int) + 1 = ((i + 1 : Nat) : Int) by omega] at hstep
        replace hgr := Aside0.mk hgr
        have HSZ := Aside0.mk hsz
        replace hstep := Aside0.mk hstep
        clear he hed hep hr hsz hrt
        go_wp2_with (first
          | (go_at_call 53; refine hrun.mono ?_; rintro e w3 ⟨v0, v1, v2, rfl, hv0, hv1, hv2, hb3⟩; obtain ⟨E0, g0, q0⟩ := Kd.R_slice hv0; obtain ⟨E1, g1, q1⟩ := Kd.R_slice hv1; obtain ⟨E2, g2, q2⟩ := Kd.R_slice hv2; subst q0; subst q1; subst q2; have hF3 := Aside0.mk (hF1.out.below hb3); have hD3 := Aside0.mk (blk_below hD1.out hb3); replace hv0 := Aside0.mk (Kd.R_mono (Kd.R_bound hv0) (ok' := fun k => w.heap.size + 1 < k) (fun k hk => by have h1 := hk.2.1; have h2 := blk_lt hF1.out.blk; omega)); clear s0 s1 hv1 hv2 hb3 hF1 hD1))
        have hstep_ := hstep.out
        have hx := blk_new w3 (.cells #[.slice E0 r.st.length g0, .slice E1 r.dat.length g1, .slice E2 r.rd.length g2, .int .i64 rt] 82)
        have hF4 := hF3.out.below (below_alloc (Below.refl w3.heap.size w3) (.cells #[.slice E0 r.st.length g0, .slice E1 r.dat.length g1, .slice E2 r.rd.length g2, .int .i64 rt] 82))
        have hD4 := blk_alloc hD3.out (.cells #[.slice E0 r.st.length g0, .slice E1 r.dat.length g1, .slice E2 r.rd.length g2, .int .i64 rt] 82)
        have hR4 := Kd.R_alloc hv0.out (.cells #[.slice E0 r.st.length g0, .slice E1 r.dat.length g1, .slice E2 r.rd.length g2, .int .i64 rt] 82)
        clear hF3 hD3 hv0
        generalize w3.alloc (.cells #[.slice E0 r.st.length g0, .slice E1 r.dat.length g1, .slice E2 r.rd.length g2, .int .i64 rt] 82) = w4 at hx hF4 hD4 hR4 ⊢
        generalize w3.heap.size = rb at hx ⊢
        have hFD := Aside0.mk (hF4.below (below_drew (Below.refl w4.heap.size w4)))
        have hDD := Aside0.mk (blk_drew hD4)
        have hRr := Aside0.mk (Kd.R_drew hR4)
        have hRB := Aside0.mk (blk_drew hx)
        have hlr := Aside0.mk (And.intro (Kd.R_reads' hR4).2.1 HSZ.out)
        have s0_ : w4.drew.cell? ⟨rb, 0, none⟩ = some (.slice E0 r.st.length g0) := (blk_cell hRB.out 0).trans rfl
        have s1_ : w4.drew.cell? ⟨rb, 1, none⟩ = some (.slice E1 r.dat.length g1) := (blk_cell hRB.out 1).trans rfl
        have s2_ : w4.drew.cell? ⟨rb, 2, none⟩ = some (.slice E2 r.rd.length g2) := (blk_cell hRB.out 2).trans rfl
        have s3_ : w4.drew.cell? ⟨rb, 3, none⟩ = some (.int .i64 rt) := (blk_cell hRB.out 3).trans rfl
        have hst0 := Aside0.mk hF4.st
        clear hx hF4 hD4 hR4
        by_cases hb : best < 0
        · have hb1 := decide_eq_true hb
          rw [if_pos (Or.inl hb)] at hstep_
          have hnext := hstep_
          replace hnext := Aside0.mk hnext
          clear hb hstep hstep_ hst0
          refine start_ (n := 27) (S := fun w' => w'.cell? ⟨rb, 0, none⟩ = some (.slice E0 r.st.length g0) ∧ w'.cell? ⟨rb, 1, none⟩ = some (.slice E1 r.dat.length g1) ∧ w'.cell? ⟨rb, 2, none⟩ = some (.slice E2 r.rd.length g2) ∧ w'.cell? ⟨rb, 3, none⟩ = some (.int .i64 rt)) (ds := []) #[false, false, false, false, false, false, false, false, false, false, false, false, false, false, false, false, false, false, false, false, false, false, false, false, false, false, false] (by kernel_rfl) rfl rfl ⟨s0_, s1_, s2_, s3_⟩ (fun hHeld => ?_)
          generalize w4.drew = wD at s0_ s1_ s2_ s3_ hFD hRr hRB hDD hHeld ⊢
          refine pure_ (i := 0) (N := some 32) (v := ?_) (a' := ?_) #[true, false, false, false, false, false, false, false, false, false, false, false, false, false, false, false, false, false, false, false, false, false, false, false, false, false, false] rfl rfl (by kernel_rfl) (fun _ _ _ h => h) (Or.inl ⟨by rfl, ?_⟩) ?_ ?_
          rotate_left
          · intro w'
            go_simp
            with_reducible rfl
          rotate_left
          · simp only [Act.put, List.setIfInBounds_toArray, List.set_cons_zero, List.set_cons_succ, i64_w, i32_w]
            rfl
          refine pure_ (i := 1) (N := some 33) (v := ?_) (a' := ?_) #[true, true, false, false, false, false, false, false, false, false, false, false, false, false, false, false, false, false, false, false, false, false, false, false, false, false, false] rfl rfl (by kernel_rfl) (fun _ _ _ h => h) (Or.inl ⟨by rfl, ?_⟩) ?_ ?_
          rotate_left
          · intro w'
            go_simp
            with_reducible rfl
          rotate_left
          · simp only [Act.put, List.setIfInBounds_toArray, List.set_cons_zero, List.set_cons_succ, i64_w, i32_w]
            rfl
          refine pure_ (i := 2) (N := some 34) (v := ?_) (a' := ?_) #[true, true, true, false, false, false, false, false, false, false, false, false, false, false, false, false, false, false, false, false, false, false, false, false, false, false, false] rfl rfl (by kernel_rfl) (fun _ _ _ h => h) (Or.inl ⟨by rfl, ?_⟩) ?_ ?_
          rotate_left
          · intro w'
            go_simp
            with_reducible rfl
          rotate_left
          · simp only [Act.put, List.setIfInBounds_toArray, List.set_cons_zero, List.set_cons_succ, i64_w, i32_w]
            rfl
          refine pure_ (i := 3) (N := some 35) (v := undef) (a' := ?_) #[true, true, true, true, false, false, false, false, false, false, false, false, false, false, false, false, false, false, false, false, false, false, false, false, false, false, false] rfl rfl (by kernel_rfl) (fun _ _ _ h => h) (Or.inr ⟨by rfl, rfl⟩) ?_ ?_
          rotate_left
          · simp only [Act.put, List.setIfInBounds_toArray, List.set_cons_zero, List.set_cons_succ, i64_w, i32_w]
            rfl
          refine pure_ (i := 4) (N := some 36) (v := undef) (a' := ?_) #[true, true, true, true, true, false, false, false, false, false, false, false, false, false, false, false, false, false, false, false, false, false, false, false, false, false, false] rfl rfl (by kernel_rfl) (fun _ _ _ h => h) (Or.inr ⟨by rfl, rfl⟩) ?_ ?_
          rotate_left
          · simp only [Act.put, List.setIfInBounds_toArray, List.set_cons_zero, List.set_cons_succ, i64_w, i32_w]
            rfl
          refine pure_ (i := 5) (N := some 37) (v := undef) (a' := ?_) #[true, true, true, true, true, true, false, false, false, false, false, false, false, false, false, false, false, false, false, false, false, false, false, false, false, false, false] rfl rfl (by kernel_rfl) (fun _ _ _ h => h) (Or.inr ⟨by rfl, rfl⟩) ?_ ?_
          rotate_left
          · simp only [Act.put, List.setIfInBounds_toArray, List.set_cons_zero, List.set_cons_succ, i64_w, i32_w]
            rfl
          refine pure_ (i := 6) (N := some 38) (v := undef) (a' := ?_) #[true, true, true, true, true, true, true, false, false, false, false, false, false, false, false, false, false, false, false, false, false, false, false, false, false, false, false] rfl rfl (by kernel_rfl) (fun _ _ _ h => h) (Or.inr ⟨by rfl, rfl⟩) ?_ ?_
          rotate_left
          · simp only [Act.put, List.setIfInBounds_toArray, List.set_cons_zero, List.set_cons_succ, i64_w, i32_w]
            rfl
          refine pure_ (i := 7) (N := some 39) (v := undef) (a' := ?_) #[true, true, true, true, true, true, true, true, false, false, false, false, false, false, false, false, false, false, false, false, false, false, false, false, false, false, false] rfl rfl (by kernel_rfl) (fun _ _ _ h => h) (Or.inr ⟨by rfl, rfl⟩) ?_ ?_
          rotate_left
          · simp only [Act.put, List.setIfInBounds_toArray, List.set_cons_zero, List.set_cons_succ, i64_w, i32_w]
            rfl
          refine pure_ (i := 8) (N := some 40) (v := undef) (a' := ?_) #[true, true, true, true, true, true, true, true, true, false, false, false, false, false, false, false, false, false, false, false, false, false, false, false, false, false, false] rfl rfl (by kernel_rfl) (fun _ _ _ h => h) (Or.inr ⟨by rfl, rfl⟩) ?_ ?_
          rotate_left
          · simp only [Act.put, List.setIfInBounds_toArray, List.set_cons_zero, List.set_cons_succ, i64_w, i32_w]
            rfl
          refine pure_ (i := 9) (N := some 41) (v := undef) (a' := ?_) #[true, true, true, true, true, true, true, true, true, true, false, false, false, false, false, false, false, false, false, false, false, false, false, false, false, false, false] rfl rfl (by kernel_rfl) (fun _ _ _ h => h) (Or.inr ⟨by rfl, rfl⟩) ?_ ?_
          rotate_left
          · simp only [Act.put, List.setIfInBounds_toArray, List.set_cons_zero, List.set_cons_succ, i64_w, i32_w]
            rfl
          refine pure_ (i := 10) (N := some 42) (v := ?_) (a' := ?_) #[true, true, true, true, true, true, true, true, true, true, true, false, false, false, false, false, false, false, false, false, false, false, false, false, false, false, false] rfl rfl (by kernel_rfl) (fun _ _ _ h => h) (Or.inl ⟨by rfl, ?_⟩) ?_ ?_
          rotate_left
          · intro w'
            go_simp
            with_reducible rfl
          rotate_left
          · simp only [Act.put, List.setIfInBounds_toArray, List.set_cons_zero, List.set_cons_succ, i64_w, i32_w]
            rfl
          refine pure_ (i := 11) (N := some 43) (v := ?_) (a' := ?_) #[true, true, true, true, true, true, true, true, true, true, true, true, false, false, false, false, false, false, false, false, false, false, false, false, false, false, false] rfl rfl (by kernel_rfl) (fun _ _ _ h => h) (Or.inl ⟨by rfl, ?_⟩) ?_ ?_
          rotate_left
          · intro w'
            go_simp
            with_reducible rfl
          rotate_left
          · simp only [Act.put, List.setIfInBounds_toArray, List.set_cons_zero, List.set_cons_succ, i64_w, i32_w]
            rfl
          refine pure_ (i := 12) (N := some 44) (v := undef) (a' := ?_) #[true, true, true, true, true, true, true, true, true, true, true, true, true, false, false, false, false, false, false, false, false, false, false, false, false, false, false] rfl rfl (by kernel_rfl) (fun _ _ _ h => h) (Or.inr ⟨by rfl, rfl⟩) ?_ ?_
          rotate_left
          · simp only [Act.put, List.setIfInBounds_toArray, List.set_cons_zero, List.set_cons_succ, i64_w, i32_w]
            rfl
          refine pure_ (i := 13) (N := some 45) (v := undef) (a' := ?_) #[true, true, true, true, true, true, true, true, true, true, true, true, true, true, false, false, false, false, false, false, false, false, false, false, false, false, false] rfl rfl (by kernel_rfl) (fun _ _ _ h => h) (Or.inr ⟨by rfl, rfl⟩) ?_ ?_
          rotate_left
          · simp only [Act.put, List.setIfInBounds_toArray, List.set_cons_zero, List.set_cons_succ, i64_w, i32_w]
            rfl
          refine pure_ (i := 14) (N := some 46) (v := undef) (a' := ?_) #[true, true, true, true, true, true, true, true, true, true, true, true, true, true, true, false, false, false, false, false, false, false, false, false, false, false, false] rfl rfl (by kernel_rfl) (fun _ _ _ h => h) (Or.inr ⟨by rfl, rfl⟩) ?_ ?_
          rotate_left
          · simp only [Act.put, List.setIfInBounds_toArray, List.set_cons_zero, List.set_cons_succ, i64_w, i32_w]
            rfl
          refine pure_ (i := 15) (N := some 47) (v := undef) (a' := ?_) #[true, true, true, true, true, true, true, true, true, true, true, true, true, true, true, true, false, false, false, false, false, false, false, false, false, false, false] rfl rfl (by kernel_rfl) (fun _ _ _ h => h) (Or.inr ⟨by rfl, rfl⟩) ?_ ?_
          rotate_left
          · simp only [Act.put, List.setIfInBounds_toArray, List.set_cons_zero, List.set_cons_succ, i64_w, i32_w]
            rfl
          refine pure_ (i := 16) (N := some 48) (v := undef) (a' := ?_) #[true, true, true, true, true, true, true, true, true, true, true, true, true, true, true, true, true, false, false, false, false, false, false, false, false, false, false] rfl rfl (by kernel_rfl) (fun _ _ _ h => h) (Or.inr ⟨by rfl, rfl⟩) ?_ ?_
          rotate_left
          · simp only [Act.put, List.setIfInBounds_toArray, List.set_cons_zero, List.set_cons_succ, i64_w, i32_w]
            rfl
          refine pure_ (i := 17) (N := some 49) (v := undef) (a' := ?_) #[true, true, true, true, true, true, true, true, true, true, true, true, true, true, true, true, true, true, false, false, false, false, false, false, false, false, false] rfl rfl (by kernel_rfl) (fun _ _ _ h => h) (Or.inr ⟨by rfl, rfl⟩) ?_ ?_
          rotate_left
          · simp only [Act.put, List.setIfInBounds_toArray, List.set_cons_zero, List.set_cons_succ, i64_w, i32_w]
            rfl
          refine pure_ (i := 18) (N := some 50) (v := undef) (a' := ?_) #[true, true, true, true, true, true, true, true, true, true, true, true, true, true, true, true, true, true, true, false, false, false, false, false, false, false, false] rfl rfl (by kernel_rfl) (fun _ _ _ h => h) (Or.inr ⟨by rfl, rfl⟩) ?_ ?_
          rotate_left
          · simp only [Act.put, List.setIfInBounds_toArray, List.set_cons_zero, List.set_cons_succ, i64_w, i32_w]
            rfl
          refine pure_ (i := 19) (N := some 51) (v := undef) (a' := ?_) #[true, true, true, true, true, true, true, true, true, true, true, true, true, true, true, true, true, true, true, true, false, false, false, false, false, false, false] rfl rfl (by kernel_rfl) (fun _ _ _ h => h) (Or.inr ⟨by rfl, rfl⟩) ?_ ?_
          rotate_left
          · simp only [Act.put, List.setIfInBounds_toArray, List.set_cons_zero, List.set_cons_succ, i64_w, i32_w]
            rfl
          refine pure_ (i := 20) (N := some 52) (v := undef) (a' := ?_) #[true, true, true, true, true, true, true, true, true, true, true, true, true, true, true, true, true, true, true, true, true, false, false, false, false, false, false] rfl rfl (by kernel_rfl) (fun _ _ _ h => h) (Or.inr ⟨by rfl, rfl⟩) ?_ ?_
          rotate_left
          · simp only [Act.put, List.setIfInBounds_toArray, List.set_cons_zero, List.set_cons_succ, i64_w, i32_w]
            rfl
          refine pure_ (i := 21) (N := some 53) (v := undef) (a' := ?_) #[true, true, true, true, true, true, true, true, true, true, true, true, true, true, true, true, true, true, true, true, true, true, false, false, false, false, false] rfl rfl (by kernel_rfl) (fun _ _ _ h => h) (Or.inr ⟨by rfl, rfl⟩) ?_ ?_
          rotate_left
          · simp only [Act.put, List.setIfInBounds_toArray, List.set_cons_zero, List.set_cons_succ, i64_w, i32_w]
            rfl
          refine pure_ (i := 22) (N := some 54) (v := undef) (a' := ?_) #[true, true, true, true, true, true, true, true, true, true, true, true, true, true, true, true, true, true, true, true, true, true, true, false, false, false, false] rfl rfl (by kernel_rfl) (fun _ _ _ h => h) (Or.inr ⟨by rfl, rfl⟩) ?_ ?_
          rotate_left
          · simp only [Act.put, List.setIfInBounds_toArray, List.set_cons_zero, List.set_cons_succ, i64_w, i32_w]
            rfl
          refine pure_ (i := 23) (N := some 55) (v := undef) (a' := ?_) #[true, true, true, true, true, true, true, true, true, true, true, true, true, true, true, true, true, true, true, true, true, true, true, true, false, false, false] rfl rfl (by kernel_rfl) (fun _ _ _ h => h) (Or.inr ⟨by rfl, rfl⟩) ?_ ?_
          rotate_left
          · simp only [Act.put, List.setIfInBounds_toArray, List.set_cons_zero, List.set_cons_succ, i64_w, i32_w]
            rfl
          refine pure_ (i := 24) (N := some 56) (v := undef) (a' := ?_) #[true, true, true, true, true, true, true, true, true, true, true, true, true, true, true, true, true, true, true, true, true, true, true, true, true, false, false] rfl rfl (by kernel_rfl) (fun _ _ _ h => h) (Or.inr ⟨by rfl, rfl⟩) ?_ ?_
          rotate_left
          · simp only [Act.put, List.setIfInBounds_toArray, List.set_cons_zero, List.set_cons_succ, i64_w, i32_w]
            rfl
          refine pure_ (i := 25) (N := some 57) (v := undef) (a' := ?_) #[true, true, true, true, true, true, true, true, true, true, true, true, true, true, true, true, true, true, true, true, true, true, true, true, true, true, false] rfl rfl (by kernel_rfl) (fun _ _ _ h => h) (Or.inr ⟨by rfl, rfl⟩) ?_ ?_
          rotate_left
          · simp only [Act.put, List.setIfInBounds_toArray, List.set_cons_zero, List.set_cons_succ, i64_w, i32_w]
            rfl
          refine pure_ (i := 26) (N := some 58) (v := ?_) (a' := ?_) #[true, true, true, true, true, true, true, true, true, true, true, true, true, true, true, true, true, true, true, true, true, true, true, true, true, true, true] rfl rfl (by kernel_rfl) (fun _ _ _ h => h) (Or.inl ⟨by rfl, ?_⟩) ?_ ?_
          rotate_left
          · intro w'
            go_simp
            with_reducible rfl
          rotate_left
          · simp only [Act.put, List.setIfInBounds_toArray, List.set_cons_zero, List.set_cons_succ, i64_w, i32_w]
            rfl
          refine done_ (by kernel_rfl) ?_
          have hFE := Aside0.mk (hFD.out.below (Below.refl wD.heap.size wD))
          have hDE := Aside0.mk (blk_below hDD.out (Below.refl wD.heap.size wD))
          have hRE := Aside0.mk (blk_below hRB.out (Below.refl wD.heap.size wD))
          have hRrE := Aside0.mk (Kd.R_below hRr.out (Below.refl wD.heap.size wD))
          clear s0_ s1_ s2_ s3_ hHeld hFD hRB hRr hDD
          go_wp2
          have hF6 := hFE.out.below (below_drew (Below.refl wD.heap.size wD))
          have hD6 := Aside0.mk (blk_drew hDE.out)
          have hR6 := Aside0.mk (Kd.R_drew hRrE.out)
          have hX6 := blk_drew hRE.out
          have x0 : wD.drew.cell? ⟨rb, 0, none⟩ = some (.slice E0 r.st.length g0) := (blk_cell hX6 0).trans rfl
          have x1 : wD.drew.cell? ⟨rb, 1, none⟩ = some (.slice E1 r.dat.length g1) := (blk_cell hX6 1).trans rfl
          have x2 : wD.drew.cell? ⟨rb, 2, none⟩ = some (.slice E2 r.rd.length g2) := (blk_cell hX6 2).trans rfl
          have x3 : wD.drew.cell? ⟨rb, 3, none⟩ = some (.int .i64 rt) := (blk_cell hX6 3).trans rfl
          clear hFE hDE hRrE hRE hX6
          refine start_ (n := 4) (S := fun w' => w'.cell? ⟨rb, 0, none⟩ = some (.slice E0 r.st.length g0) ∧ w'.cell? ⟨rb, 1, none⟩ = some (.slice E1 r.dat.length g1) ∧ w'.cell? ⟨rb, 2, none⟩ = some (.slice E2 r.rd.length g2) ∧ w'.cell? ⟨rb, 3, none⟩ = some (.int .i64 rt)) (ds := [3]) #[false, false, false, false] (by kernel_rfl) rfl rfl ⟨x0, x1, x2, x3⟩ (fun hHeld => ?_)
          generalize wD.drew = wF at x0 x1 x2 x3 hF6 hD6 hR6 hHeld ⊢
          have o0 : (wF).cell? ⟨w.heap.size + 1, 0, none⟩ = some (.slice B0 n0 d0) := (blk_cell hF6.blk 0).trans rfl
          have z0 := blk_frozen hF6.blk 0
          have y1 := blk_put hF6.blk 0 (.slice E0 r.st.length g0) rfl
          have o1 : ((wF).setCell ⟨w.heap.size + 1, 0, none⟩ (.slice E0 r.st.length g0)).cell? ⟨w.heap.size + 1, 1, none⟩ = some (.slice B1 n1 d1) := (blk_cell y1 1).trans rfl
          have z1 := blk_frozen y1 1
          have y2 := blk_put y1 1 (.slice E1 r.dat.length g1) rfl
          have o2 : (((wF).setCell ⟨w.heap.size + 1, 0, none⟩ (.slice E0 r.st.length g0)).setCell ⟨w.heap.size + 1, 1, none⟩ (.slice E1 r.dat.length g1)).cell? ⟨w.heap.size + 1, 2, none⟩ = some (.slice B2 n2 d2) := (blk_cell y2 2).trans rfl
          have z2 := blk_frozen y2 2
          have y3 := blk_put y2 2 (.slice E2 r.rd.length g2) rfl
          have o3 : ((((wF).setCell ⟨w.heap.size + 1, 0, none⟩ (.slice E0 r.st.length g0)).setCell ⟨w.heap.size + 1, 1, none⟩ (.slice E1 r.dat.length g1)).setCell ⟨w.heap.size + 1, 2, none⟩ (.slice E2 r.rd.length g2)).cell? ⟨w.heap.size + 1, 3, none⟩ = some (.int .i64 time) := (blk_cell y3 3).trans rfl
          have z3 := blk_frozen y3 3
          have y4 := blk_put y3 3 (.int .i64 rt) rfl
          have hbF := Aside0.mk hF6.b
          have Y4 := Aside0.mk y4
          clear y1 y2 y3 y4 hF6
          refine pure_ (i := 0) (N := some 59) (v := ?_) (a' := ?_) #[true, false, false, false] rfl rfl (by kernel_rfl) (fun _ _ _ h => h) (Or.inl ⟨by rfl, ?_⟩) ?_ ?_
          rotate_left
          · intro w'
            go_simp
            with_reducible rfl
          rotate_left
          · simp only [Act.put, List.setIfInBounds_toArray, List.set_cons_zero, List.set_cons_succ, i64_w, i32_w]
            rfl
          refine pure_ (i := 2) (N := some 6) (v := ?_) (a' := ?_) #[true, false, true, false] rfl rfl (by kernel_rfl) (fun _ _ _ h => h) (Or.inl ⟨by rfl, ?_⟩) ?_ ?_
          rotate_left
          · intro w'
            go_simp
            with_reducible rfl
          rotate_left
          · simp only [Act.put, List.setIfInBounds_toArray, List.set_cons_zero, List.set_cons_succ, i64_w, i32_w]
            rfl
          refine take_ (i := 1) (N := some 60) (v := ?_) (a' := ?_) #[true, true, true, false] rfl rfl (by kernel_rfl) (fun _ _ _ h => h) (Or.inl ⟨by rfl, ?_⟩) hHeld ?_ ?_
          rotate_left
          · rintro w' ⟨s0, s1, s2, s3⟩
            go_simp
            with_reducible rfl
          rotate_left
          · simp only [Act.put, List.setIfInBounds_toArray, List.set_cons_zero, List.set_cons_succ, i64_w, i32_w]
            rfl
          refine last_ (i := 3) (N := none) #[true, true, true, true] rfl rfl (by kernel_rfl) (by decide) (fun K hK => ?_)
          refine skip_ (w1 := ?_) (by rfl) rfl ?_ ?_
          rotate_left
          · go_simp
            rfl
          refine hK.out _ _ ?_
          clear hK K
          refine done_ (by kernel_rfl) ?_
          have hF7 : FAt w _ (w.heap.size + 1) i gr rt E0 r.st.length g0 E1 r.dat.length g1 E2 r.rd.length g2 := ⟨(Below.setCell (p := ⟨w.heap.size + 1, 3, none⟩) (Below.setCell (p := ⟨w.heap.size + 1, 2, none⟩) (Below.setCell (p := ⟨w.heap.size + 1, 1, none⟩) (Below.setCell (p := ⟨w.heap.size + 1, 0, none⟩) hbF.out (by show w.heap.size ≤ w.heap.size + 1; omega) (.slice E0 r.st.length g0)) (by show w.heap.size ≤ w.heap.size + 1; omega) (.slice E1 r.dat.length g1)) (by show w.heap.size ≤ w.heap.size + 1; omega) (.slice E2 r.rd.length g2)) (by show w.heap.size ≤ w.heap.size + 1; omega) (.int .i64 rt)), by omega, Y4.out, fun _ => ⟨r.st, rfl, hlr.out.1, hlr.out.2, hgr.out, (Kd.R_reads' (Kd.R_far (Kd.R_far (Kd.R_far (Kd.R_far hR6.out (fun k hk => by show k ≠ w.heap.size + 1; omega) (.slice E0 r.st.length g0)) (fun k hk => by show k ≠ w.heap.size + 1; omega) (.slice E1 r.dat.length g1)) (fun k hk => by show k ≠ w.heap.size + 1; omega) (.slice E2 r.rd.length g2)) (fun k hk => by show k ≠ w.heap.size + 1; omega) (.int .i64 rt))).2.2⟩⟩
          have hD7 := (blk_far (blk_far (blk_far (blk_far hD6.out (p := ⟨w.heap.size + 1, 0, none⟩) (by show w.heap.size ≠ w.heap.size + 1; omega) (.slice E0 r.st.length g0)) (p := ⟨w.heap.size + 1, 1, none⟩) (by show w.heap.size ≠ w.heap.size + 1; omega) (.slice E1 r.dat.length g1)) (p := ⟨w.heap.size + 1, 2, none⟩) (by show w.heap.size ≠ w.heap.size + 1; omega) (.slice E2 r.rd.length g2)) (p := ⟨w.heap.size + 1, 3, none⟩) (by show w.heap.size ≠ w.heap.size + 1; omega) (.int .i64 rt))
          replace hF7 := Aside0.mk hF7
          replace hD7 := Aside0.mk hD7
          clear x0 x1 x2 x3 o0 o1 o2 o3 z0 z1 z2 z3 hbF Y4 hD6 hR6 hHeld
          go_wp2
          go_roundw
          case rel => exact ⟨i + 1, i, gr, rt, E0, _, g0, E1, _, g1, E2, _, g2, by omega, rfl, by go_num, hnext, hF7, hD7⟩
          case measure => simp [intOf]; omega
        · have hb1 := decide_eq_false hb
          obtain ⟨st, hq1, hq2, hq3, hq4, hq5⟩ := hst0.out (by omega)
          subst hq1
          have hmost := Aside0.mk hq4
          have hlf := Aside0.mk (And.intro hq2 hq3)
          have hCf := Aside0.mk (Kd.C_below hq5 (below_drew (Below.refl w4.heap.size w4)))
          have s4_ : w4.drew.cell? ⟨w.heap.size + 1, 0, none⟩ = some (.slice B0 st.length d0) := (blk_cell hFD.out.blk 0).trans rfl
          have s5_ : w4.drew.cell? ⟨w.heap.size + 1, 1, none⟩ = some (.slice B1 n1 d1) := (blk_cell hFD.out.blk 1).trans rfl
          have s6_ : w4.drew.cell? ⟨w.heap.size + 1, 2, none⟩ = some (.slice B2 n2 d2) := (blk_cell hFD.out.blk 2).trans rfl
          have s7_ : w4.drew.cell? ⟨w.heap.size + 1, 3, none⟩ = some (.int .i64 time) := (blk_cell hFD.out.blk 3).trans rfl
          clear hst0 hq2 hq3 hq4 hq5
          by_cases hg : gr > most
          · have hg1 := decide_eq_true (show most < gr from hg)
            rw [if_pos (Or.inr (Or.inl hg))] at hstep_
            have hnext := Aside0.mk hstep_
            clear hb hg hstep hstep_
            refine start_ (n := 27) (S := fun w' => w'.cell? ⟨rb, 0, none⟩ = some (.slice E0 r.st.length g0) ∧ w'.cell? ⟨rb, 1, none⟩ = some (.slice E1 r.dat.length g1) ∧ w'.cell? ⟨rb, 2, none⟩ = some (.slice E2 r.rd.length g2) ∧ w'.cell? ⟨rb, 3, none⟩ = some (.int .i64 rt) ∧ w'.cell? ⟨w.heap.size + 1, 0, none⟩ = some (.slice B0 st.length d0) ∧ w'.cell? ⟨w.heap.size + 1, 1, none⟩ = some (.slice B1 n1 d1) ∧ w'.cell? ⟨w.heap.size + 1, 2, none⟩ = some (.slice B2 n2 d2) ∧ w'.cell? ⟨w.heap.size + 1, 3, none⟩ = some (.int .i64 time)) (ds := []) #[false, false, false, false, false, false, false, false, false, false, false, false, false, false, false, false, false, false, false, false, false, false, false, false, false, false, false] (by kernel_rfl) rfl rfl ⟨s0_, s1_, s2_, s3_, s4_, s5_, s6_, s7_⟩ (fun hHeld => ?_)
            generalize w4.drew = wD at s0_ s1_ s2_ s3_ s4_ s5_ s6_ s7_ hFD hRr hRB hDD hCf hHeld ⊢
            refine pure_ (i := 0) (N := some 32) (v := ?_) (a' := ?_) #[true, false, false, false, false, false, false, false, false, false, false, false, false, false, false, false, false, false, false, false, false, false, false, false, false, false, false] rfl rfl (by kernel_rfl) (fun _ _ _ h => h) (Or.inl ⟨by rfl, ?_⟩) ?_ ?_
            rotate_left
            · intro w'
              go_simp
              with_reducible rfl
            rotate_left
            · simp only [Act.put, List.setIfInBounds_toArray, List.set_cons_zero, List.set_cons_succ, i64_w, i32_w]
              rfl
            refine pure_ (i := 1) (N := some 33) (v := ?_) (a' := ?_) #[true, true, false, false, false, false, false, false, false, false, false, false, false, false, false, false, false, false, false, false, false, false, false, false, false, false, false] rfl rfl (by kernel_rfl) (fun _ _ _ h => h) (Or.inl ⟨by rfl, ?_⟩) ?_ ?_
            rotate_left
            · intro w'
              go_simp
              with_reducible rfl
            rotate_left
            · simp only [Act.put, List.setIfInBounds_toArray, List.set_cons_zero, List.set_cons_succ, i64_w, i32_w]
              rfl
            refine pure_ (i := 2) (N := some 34) (v := ?_) (a' := ?_) #[true, true, true, false, false, false, false, false, false, false, false, false, false, false, false, false, false, false, false, false, false, false, false, false, false, false, false] rfl rfl (by kernel_rfl) (fun _ _ _ h => h) (Or.inl ⟨by rfl, ?_⟩) ?_ ?_
            rotate_left
            · intro w'
              go_simp
              with_reducible rfl
            rotate_left
            · simp only [Act.put, List.setIfInBounds_toArray, List.set_cons_zero, List.set_cons_succ, i64_w, i32_w]
              rfl
            refine pure_ (i := 3) (N := some 35) (v := ?_) (a' := ?_) #[true, true, true, true, false, false, false, false, false, false, false, false, false, false, false, false, false, false, false, false, false, false, false, false, false, false, false] rfl rfl (by kernel_rfl) (fun _ _ _ h => h) (Or.inl ⟨by rfl, ?_⟩) ?_ ?_
            rotate_left
            · intro w'
              go_simp
              with_reducible rfl
            rotate_left
            · simp only [Act.put, List.setIfInBounds_toArray, List.set_cons_zero, List.set_cons_succ, i64_w, i32_w]
              rfl
            refine pure_ (i := 6) (N := some 38) (v := ?_) (a' := ?_) #[true, true, true, true, false, false, true, false, false, false, false, false, false, false, false, false, false, false, false, false, false, false, false, false, false, false, false] rfl rfl (by kernel_rfl) (fun _ _ _ h => h) (Or.inl ⟨by rfl, ?_⟩) ?_ ?_
            rotate_left
            · intro w'
              go_simp
              with_reducible rfl
            rotate_left
            · simp only [Act.put, List.setIfInBounds_toArray, List.set_cons_zero, List.set_cons_succ, i64_w, i32_w]
              rfl
            refine take_ (i := 4) (N := some 36) (v := ?_) (a' := ?_) #[true, true, true, true, true, false, true, false, false, false, false, false, false, false, false, false, false, false, false, false, false, false, false, false, false, false, false] rfl rfl (by kernel_rfl) (fun _ _ _ h => h) (Or.inl ⟨by rfl, ?_⟩) hHeld ?_ ?_
            rotate_left
            · rintro w' ⟨s0, s1, s2, s3, s4, s5, s6, s7⟩
              go_simp
              with_reducible rfl
            rotate_left
            · simp only [Act.put, List.setIfInBounds_toArray, List.set_cons_zero, List.set_cons_succ, i64_w, i32_w]
              rfl
            refine take_ (i := 7) (N := some 39) (v := ?_) (a' := ?_) #[true, true, true, true, true, false, true, true, false, false, false, false, false, false, false, false, false, false, false, false, false, false, false, false, false, false, false] rfl rfl (by kernel_rfl) (fun _ _ _ h => h) (Or.inl ⟨by rfl, ?_⟩) hHeld ?_ ?_
            rotate_left
            · rintro w' ⟨s0, s1, s2, s3, s4, s5, s6, s7⟩
              go_simp
              with_reducible rfl
            rotate_left
            · simp only [Act.put, List.setIfInBounds_toArray, List.set_cons_zero, List.set_cons_succ, i64_w, i32_w]
              rfl
            refine one_ (i := 5) (N := some 37) #[true, true, true, true, true, true, true, true, false, false, false, false, false, false, false, false, false, false, false, false, false, false, false, false, false, false, false] rfl rfl (by kernel_rfl) (by decide) (fun K hK => ?_)
            refine call_ 97 #[.agg #[.slice E0 r.st.length g0, .slice E1 r.dat.length g1, .slice E2 r.rd.length g2, .int .i64 rt]] (by rfl) rfl ?_ ?_
            · have he := enters_ Try.func97 (by kernel_rfl) rfl #[.agg #[.slice E0 r.st.length g0, .slice E1 r.dat.length g1, .slice E2 r.rd.length g2, .int .i64 rt]] wD
              unfold execOp
              simp [resolve, Deferred.ofValue, invoke, Act.eval, he]
            with_reducible refine (good_calls E0 g0 r.st E1 E2 r.dat.length g1 r.rd.length g2 rt gr wD (Kd.C_below (Kd.R_reads' hRr.out).2.2 (Below.refl wD.heap.size wD)) hlr.out.1 hlr.out.2 hgr.out).mono ?_
            rintro e w5 ⟨rfl, hb5⟩
            refine ⟨_, rfl, ?_⟩
            refine hK.out _ _ ⟨pw_cell_below hb5 s0_, pw_cell_below hb5 s1_, pw_cell_below hb5 s2_, pw_cell_below hb5 s3_, pw_cell_below hb5 s4_, pw_cell_below hb5 s5_, pw_cell_below hb5 s6_, pw_cell_below hb5 s7_⟩ (fun hHeld => ?_)
            clear hK K
            refine norm_ (a' := ?_) ?_ ?_
            rotate_left
            · show Act.put _ (some 37) _ = _
              simp only [Act.put, List.setIfInBounds_toArray, List.set_cons_zero, List.set_cons_succ, i64_w, i32_w]
              rfl
            refine one_ (i := 8) (N := some 40) #[true, true, true, true, true, true, true, true, true, false, false, false, false, false, false, false, false, false, false, false, false, false, false, false, false, false, false] rfl rfl (by kernel_rfl) (by decide) (fun K hK => ?_)
            refine call_ 97 #[.agg #[.slice B0 st.length d0, .slice B1 n1 d1, .slice B2 n2 d2, .int .i64 time]] (by rfl) rfl ?_ ?_
            · have he := enters_ Try.func97 (by kernel_rfl) rfl #[.agg #[.slice B0 st.length d0, .slice B1 n1 d1, .slice B2 n2 d2, .int .i64 time]] w5
              unfold execOp
              simp [resolve, Deferred.ofValue, invoke, Act.eval, he]
            with_reducible refine (good_calls B0 d0 st B1 B2 n1 d1 n2 d2 time most w5 (Kd.C_below hCf.out hb5) hlf.out.1 hlf.out.2 hmost.out).mono ?_
            rintro e w6 ⟨rfl, hb6⟩
            refine ⟨_, rfl, ?_⟩
            refine hK.out _ _ ⟨pw_cell_below (below_step hb5 hb6) s0_, pw_cell_below (below_step hb5 hb6) s1_, pw_cell_below (below_step hb5 hb6) s2_, pw_cell_below (below_step hb5 hb6) s3_, pw_cell_below (below_step hb5 hb6) s4_, pw_cell_below (below_step hb5 hb6) s5_, pw_cell_below (below_step hb5 hb6) s6_, pw_cell_below (below_step hb5 hb6) s7_⟩ (fun hHeld => ?_)
            clear hK K
            refine norm_ (a' := ?_) ?_ ?_
            rotate_left
            · show Act.put _ (some 40) _ = _
              simp only [Act.put, List.setIfInBounds_toArray, List.set_cons_zero, List.set_cons_succ, i64_w, i32_w]
              rfl
            refine pure_ (i := 9) (N := some 41) (v := ?_) (a' := ?_) #[true, true, true, true, true, true, true, true, true, true, false, false, false, false, false, false, false, false, false, false, false, false, false, false, false, false, false] rfl rfl (by kernel_rfl) (fun _ _ _ h => h) (Or.inl ⟨by rfl, ?_⟩) ?_ ?_
            rotate_left
            · intro w'
              go_simp
              with_reducible rfl
            rotate_left
            · simp only [Act.put, List.setIfInBounds_toArray, List.set_cons_zero, List.set_cons_succ, i64_w, i32_w]
              rfl
            refine pure_ (i := 10) (N := some 42) (v := ?_) (a' := ?_) #[true, true, true, true, true, true, true, true, true, true, true, false, false, false, false, false, false, false, false, false, false, false, false, false, false, false, false] rfl rfl (by kernel_rfl) (fun _ _ _ h => h) (Or.inl ⟨by rfl, ?_⟩) ?_ ?_
            rotate_left
            · intro w'
              go_simp
              with_reducible rfl
            rotate_left
            · simp only [Act.put, List.setIfInBounds_toArray, List.set_cons_zero, List.set_cons_succ, i64_w, i32_w]
              rfl
            refine pure_ (i := 11) (N := some 43) (v := ?_) (a' := ?_) #[true, true, true, true, true, true, true, true, true, true, true, true, false, false, false, false, false, false, false, false, false, false, false, false, false, false, false] rfl rfl (by kernel_rfl) (fun _ _ _ h => h) (Or.inl ⟨by rfl, ?_⟩) ?_ ?_
            rotate_left
            · intro w'
              go_simp
              with_reducible rfl
            rotate_left
            · simp only [Act.put, List.setIfInBounds_toArray, List.set_cons_zero, List.set_cons_succ, i64_w, i32_w]
              rfl
            refine pure_ (i := 12) (N := some 44) (v := undef) (a' := ?_) #[true, true, true, true, true, true, true, true, true, true, true, true, true, false, false, false, false, false, false, false, false, false, false, false, false, false, false] rfl rfl (by kernel_rfl) (fun _ _ _ h => h) (Or.inr ⟨by rfl, rfl⟩) ?_ ?_
            rotate_left
            · simp only [Act.put, List.setIfInBounds_toArray, List.set_cons_zero, List.set_cons_succ, i64_w, i32_w]
              rfl
            refine pure_ (i := 13) (N := some 45) (v := undef) (a' := ?_) #[true, true, true, true, true, true, true, true, true, true, true, true, true, true, false, false, false, false, false, false, false, false, false, false, false, false, false] rfl rfl (by kernel_rfl) (fun _ _ _ h => h) (Or.inr ⟨by rfl, rfl⟩) ?_ ?_
            rotate_left
            · simp only [Act.put, List.setIfInBounds_toArray, List.set_cons_zero, List.set_cons_succ, i64_w, i32_w]
              rfl
            refine pure_ (i := 14) (N := some 46) (v := undef) (a' := ?_) #[true, true, true, true, true, true, true, true, true, true, true, true, true, true, true, false, false, false, false, false, false, false, false, false, false, false, false] rfl rfl (by kernel_rfl) (fun _ _ _ h => h) (Or.inr ⟨by rfl, rfl⟩) ?_ ?_
            rotate_left
            · simp only [Act.put, List.setIfInBounds_toArray, List.set_cons_zero, List.set_cons_succ, i64_w, i32_w]
              rfl
            refine pure_ (i := 15) (N := some 47) (v := undef) (a' := ?_) #[true, true, true, true, true, true, true, true, true, true, true, true, true, true, true, true, false, false, false, false, false, false, false, false, false, false, false] rfl rfl (by kernel_rfl) (fun _ _ _ h => h) (Or.inr ⟨by rfl, rfl⟩) ?_ ?_
            rotate_left
            · simp only [Act.put, List.setIfInBounds_toArray, List.set_cons_zero, List.set_cons_succ, i64_w, i32_w]
              rfl
            refine pure_ (i := 16) (N := some 48) (v := undef) (a' := ?_) #[true, true, true, true, true, true, true, true, true, true, true, true, true, true, true, true, true, false, false, false, false, false, false, false, false, false, false] rfl rfl (by kernel_rfl) (fun _ _ _ h => h) (Or.inr ⟨by rfl, rfl⟩) ?_ ?_
            rotate_left
            · simp only [Act.put, List.setIfInBounds_toArray, List.set_cons_zero, List.set_cons_succ, i64_w, i32_w]
              rfl
            refine pure_ (i := 17) (N := some 49) (v := undef) (a' := ?_) #[true, true, true, true, true, true, true, true, true, true, true, true, true, true, true, true, true, true, false, false, false, false, false, false, false, false, false] rfl rfl (by kernel_rfl) (fun _ _ _ h => h) (Or.inr ⟨by rfl, rfl⟩) ?_ ?_
            rotate_left
            · simp only [Act.put, List.setIfInBounds_toArray, List.set_cons_zero, List.set_cons_succ, i64_w, i32_w]
              rfl
            refine pure_ (i := 18) (N := some 50) (v := undef) (a' := ?_) #[true, true, true, true, true, true, true, true, true, true, true, true, true, true, true, true, true, true, true, false, false, false, false, false, false, false, false] rfl rfl (by kernel_rfl) (fun _ _ _ h => h) (Or.inr ⟨by rfl, rfl⟩) ?_ ?_
            rotate_left
            · simp only [Act.put, List.setIfInBounds_toArray, List.set_cons_zero, List.set_cons_succ, i64_w, i32_w]
              rfl
            refine pure_ (i := 19) (N := some 51) (v := undef) (a' := ?_) #[true, true, true, true, true, true, true, true, true, true, true, true, true, true, true, true, true, true, true, true, false, false, false, false, false, false, false] rfl rfl (by kernel_rfl) (fun _ _ _ h => h) (Or.inr ⟨by rfl, rfl⟩) ?_ ?_
            rotate_left
            · simp only [Act.put, List.setIfInBounds_toArray, List.set_cons_zero, List.set_cons_succ, i64_w, i32_w]
              rfl
            refine pure_ (i := 20) (N := some 52) (v := undef) (a' := ?_) #[true, true, true, true, true, true, true, true, true, true, true, true, true, true, true, true, true, true, true, true, true, false, false, false, false, false, false] rfl rfl (by kernel_rfl) (fun _ _ _ h => h) (Or.inr ⟨by rfl, rfl⟩) ?_ ?_
            rotate_left
            · simp only [Act.put, List.setIfInBounds_toArray, List.set_cons_zero, List.set_cons_succ, i64_w, i32_w]
              rfl
            refine pure_ (i := 21) (N := some 53) (v := undef) (a' := ?_) #[true, true, true, true, true, true, true, true, true, true, true, true, true, true, true, true, true, true, true, true, true, true, false, false, false, false, false] rfl rfl (by kernel_rfl) (fun _ _ _ h => h) (Or.inr ⟨by rfl, rfl⟩) ?_ ?_
            rotate_left
            · simp only [Act.put, List.setIfInBounds_toArray, List.set_cons_zero, List.set_cons_succ, i64_w, i32_w]
              rfl
            refine pure_ (i := 22) (N := some 54) (v := undef) (a' := ?_) #[true, true, true, true, true, true, true, true, true, true, true, true, true, true, true, true, true, true, true, true, true, true, true, false, false, false, false] rfl rfl (by kernel_rfl) (fun _ _ _ h => h) (Or.inr ⟨by rfl, rfl⟩) ?_ ?_
            rotate_left
            · simp only [Act.put, List.setIfInBounds_toArray, List.set_cons_zero, List.set_cons_succ, i64_w, i32_w]
              rfl
            refine pure_ (i := 23) (N := some 55) (v := undef) (a' := ?_) #[true, true, true, true, true, true, true, true, true, true, true, true, true, true, true, true, true, true, true, true, true, true, true, true, false, false, false] rfl rfl (by kernel_rfl) (fun _ _ _ h => h) (Or.inr ⟨by rfl, rfl⟩) ?_ ?_
            rotate_left
            · simp only [Act.put, List.setIfInBounds_toArray, List.set_cons_zero, List.set_cons_succ, i64_w, i32_w]
              rfl
            refine pure_ (i := 24) (N := some 56) (v := undef) (a' := ?_) #[true, true, true, true, true, true, true, true, true, true, true, true, true, true, true, true, true, true, true, true, true, true, true, true, true, false, false] rfl rfl (by kernel_rfl) (fun _ _ _ h => h) (Or.inr ⟨by rfl, rfl⟩) ?_ ?_
            rotate_left
            · simp only [Act.put, List.setIfInBounds_toArray, List.set_cons_zero, List.set_cons_succ, i64_w, i32_w]
              rfl
            refine pure_ (i := 25) (N := some 57) (v := undef) (a' := ?_) #[true, true, true, true, true, true, true, true, true, true, true, true, true, true, true, true, true, true, true, true, true, true, true, true, true, true, false] rfl rfl (by kernel_rfl) (fun _ _ _ h => h) (Or.inr ⟨by rfl, rfl⟩) ?_ ?_
            rotate_left
            · simp only [Act.put, List.setIfInBounds_toArray, List.set_cons_zero, List.set_cons_succ, i64_w, i32_w]
              rfl
            refine pure_ (i := 26) (N := some 58) (v := ?_) (a' := ?_) #[true, true, true, true, true, true, true, true, true, true, true, true, true, true, true, true, true, true, true, true, true, true, true, true, true, true, true] rfl rfl (by kernel_rfl) (fun _ _ _ h => h) (Or.inl ⟨by rfl, ?_⟩) ?_ ?_
            rotate_left
            · intro w'
              go_simp
              with_reducible rfl
            rotate_left
            · simp only [Act.put, List.setIfInBounds_toArray, List.set_cons_zero, List.set_cons_succ, i64_w, i32_w]
              rfl
            refine done_ (by kernel_rfl) ?_
            have hFE := Aside0.mk (hFD.out.below (below_step hb5 hb6))
            have hDE := Aside0.mk (blk_below hDD.out (below_step hb5 hb6))
            have hRE := Aside0.mk (blk_below hRB.out (below_step hb5 hb6))
            have hRrE := Aside0.mk (Kd.R_below hRr.out (below_step hb5 hb6))
            clear s0_ s1_ s2_ s3_ s4_ s5_ s6_ s7_ hHeld hFD hRB hRr hDD hCf hb5 hb6
            go_wp2
            have hF6 := hFE.out.below (below_drew (Below.refl w6.heap.size w6))
            have hD6 := Aside0.mk (blk_drew hDE.out)
            have hR6 := Aside0.mk (Kd.R_drew hRrE.out)
            have hX6 := blk_drew hRE.out
            have x0 : w6.drew.cell? ⟨rb, 0, none⟩ = some (.slice E0 r.st.length g0) := (blk_cell hX6 0).trans rfl
            have x1 : w6.drew.cell? ⟨rb, 1, none⟩ = some (.slice E1 r.dat.length g1) := (blk_cell hX6 1).trans rfl
            have x2 : w6.drew.cell? ⟨rb, 2, none⟩ = some (.slice E2 r.rd.length g2) := (blk_cell hX6 2).trans rfl
            have x3 : w6.drew.cell? ⟨rb, 3, none⟩ = some (.int .i64 rt) := (blk_cell hX6 3).trans rfl
            clear hFE hDE hRrE hRE hX6
            refine start_ (n := 4) (S := fun w' => w'.cell? ⟨rb, 0, none⟩ = some (.slice E0 r.st.length g0) ∧ w'.cell? ⟨rb, 1, none⟩ = some (.slice E1 r.dat.length g1) ∧ w'.cell? ⟨rb, 2, none⟩ = some (.slice E2 r.rd.length g2) ∧ w'.cell? ⟨rb, 3, none⟩ = some (.int .i64 rt)) (ds := [3]) #[false, false, false, false] (by kernel_rfl) rfl rfl ⟨x0, x1, x2, x3⟩ (fun hHeld => ?_)
            generalize w6.drew = wF at x0 x1 x2 x3 hF6 hD6 hR6 hHeld ⊢
            have o0 : (wF).cell? ⟨w.heap.size + 1, 0, none⟩ = some (.slice B0 st.length d0) := (blk_cell hF6.blk 0).trans rfl
            have z0 := blk_frozen hF6.blk 0
            have y1 := blk_put hF6.blk 0 (.slice E0 r.st.length g0) rfl
            have o1 : ((wF).setCell ⟨w.heap.size + 1, 0, none⟩ (.slice E0 r.st.length g0)).cell? ⟨w.heap.size + 1, 1, none⟩ = some (.slice B1 n1 d1) := (blk_cell y1 1).trans rfl
            have z1 := blk_frozen y1 1
            have y2 := blk_put y1 1 (.slice E1 r.dat.length g1) rfl
            have o2 : (((wF).setCell ⟨w.heap.size + 1, 0, none⟩ (.slice E0 r.st.length g0)).setCell ⟨w.heap.size + 1, 1, none⟩ (.slice E1 r.dat.length g1)).cell? ⟨w.heap.size + 1, 2, none⟩ = some (.slice B2 n2 d2) := (blk_cell y2 2).trans rfl
            have z2 := blk_frozen y2 2
            have y3 := blk_put y2 2 (.slice E2 r.rd.length g2) rfl
            have o3 : ((((wF).setCell ⟨w.heap.size + 1, 0, none⟩ (.slice E0 r.st.length g0)).setCell ⟨w.heap.size + 1, 1, none⟩ (.slice E1 r.dat.length g1)).setCell ⟨w.heap.size + 1, 2, none⟩ (.slice E2 r.rd.length g2)).cell? ⟨w.heap.size + 1, 3, none⟩ = some (.int .i64 time) := (blk_cell y3 3).trans rfl
            have z3 := blk_frozen y3 3
            have y4 := blk_put y3 3 (.int .i64 rt) rfl
            have hbF := Aside0.mk hF6.b
            have Y4 := Aside0.mk y4
            clear y1 y2 y3 y4 hF6
            refine pure_ (i := 0) (N := some 59) (v := ?_) (a' := ?_) #[true, false, false, false] rfl rfl (by kernel_rfl) (fun _ _ _ h => h) (Or.inl ⟨by rfl, ?_⟩) ?_ ?_
            rotate_left
            · intro w'
              go_simp
              with_reducible rfl
            rotate_left
            · simp only [Act.put, List.setIfInBounds_toArray, List.set_cons_zero, List.set_cons_succ, i64_w, i32_w]
              rfl
            refine pure_ (i := 2) (N := some 6) (v := ?_) (a' := ?_) #[true, false, true, false] rfl rfl (by kernel_rfl) (fun _ _ _ h => h) (Or.inl ⟨by rfl, ?_⟩) ?_ ?_
            rotate_left
            · intro w'
              go_simp
              with_reducible rfl
            rotate_left
            · simp only [Act.put, List.setIfInBounds_toArray, List.set_cons_zero, List.set_cons_succ, i64_w, i32_w]
              rfl
            refine take_ (i := 1) (N := some 60) (v := ?_) (a' := ?_) #[true, true, true, false] rfl rfl (by kernel_rfl) (fun _ _ _ h => h) (Or.inl ⟨by rfl, ?_⟩) hHeld ?_ ?_
            rotate_left
            · rintro w' ⟨s0, s1, s2, s3⟩
              go_simp
              with_reducible rfl
            rotate_left
            · simp only [Act.put, List.setIfInBounds_toArray, List.set_cons_zero, List.set_cons_succ, i64_w, i32_w]
              rfl
            refine last_ (i := 3) (N := none) #[true, true, true, true] rfl rfl (by kernel_rfl) (by decide) (fun K hK => ?_)
            refine skip_ (w1 := ?_) (by rfl) rfl ?_ ?_
            rotate_left
            · go_simp
              rfl
            refine hK.out _ _ ?_
            clear hK K
            refine done_ (by kernel_rfl) ?_
            have hF7 : FAt w _ (w.heap.size + 1) i gr rt E0 r.st.length g0 E1 r.dat.length g1 E2 r.rd.length g2 := ⟨(Below.setCell (p := ⟨w.heap.size + 1, 3, none⟩) (Below.setCell (p := ⟨w.heap.size + 1, 2, none⟩) (Below.setCell (p := ⟨w.heap.size + 1, 1, none⟩) (Below.setCell (p := ⟨w.heap.size + 1, 0, none⟩) hbF.out (by show w.heap.size ≤ w.heap.size + 1; omega) (.slice E0 r.st.length g0)) (by show w.heap.size ≤ w.heap.size + 1; omega) (.slice E1 r.dat.length g1)) (by show w.heap.size ≤ w.heap.size + 1; omega) (.slice E2 r.rd.length g2)) (by show w.heap.size ≤ w.heap.size + 1; omega) (.int .i64 rt)), by omega, Y4.out, fun _ => ⟨r.st, rfl, hlr.out.1, hlr.out.2, hgr.out, (Kd.R_reads' (Kd.R_far (Kd.R_far (Kd.R_far (Kd.R_far hR6.out (fun k hk => by show k ≠ w.heap.size + 1; omega) (.slice E0 r.st.length g0)) (fun k hk => by show k ≠ w.heap.size + 1; omega) (.slice E1 r.dat.length g1)) (fun k hk => by show k ≠ w.heap.size + 1; omega) (.slice E2 r.rd.length g2)) (fun k hk => by show k ≠ w.heap.size + 1; omega) (.int .i64 rt))).2.2⟩⟩
            have hD7 := (blk_far (blk_far (blk_far (blk_far hD6.out (p := ⟨w.heap.size + 1, 0, none⟩) (by show w.heap.size ≠ w.heap.size + 1; omega) (.slice E0 r.st.length g0)) (p := ⟨w.heap.size + 1, 1, none⟩) (by show w.heap.size ≠ w.heap.size + 1; omega) (.slice E1 r.dat.length g1)) (p := ⟨w.heap.size + 1, 2, none⟩) (by show w.heap.size ≠ w.heap.size + 1; omega) (.slice E2 r.rd.length g2)) (p := ⟨w.heap.size + 1, 3, none⟩) (by show w.heap.size ≠ w.heap.size + 1; omega) (.int .i64 rt))
            replace hF7 := Aside0.mk hF7
            replace hD7 := Aside0.mk hD7
            clear x0 x1 x2 x3 o0 o1 o2 o3 z0 z1 z2 z3 hbF Y4 hD6 hR6 hHeld
            go_wp2
            go_roundw
            case rel => exact ⟨i + 1, i, gr, rt, E0, _, g0, E1, _, g1, E2, _, g2, by omega, rfl, by go_num, hnext, hF7, hD7⟩
            case measure => simp [intOf]; omega
          · have hg1 := decide_eq_false (show ¬ most < gr from hg)
            by_cases hq : gr = most
            · have hq1 : (gr == most) = true := beq_iff_eq.mpr hq
              by_cases ht : rt < time
              · have ht1 := decide_eq_true ht
                rw [if_pos (Or.inr (Or.inr ⟨hq, ht⟩))] at hstep_
                have hnext := Aside0.mk hstep_
                clear hb hg hq ht hstep hstep_
                refine start_ (n := 27) (S := fun w' => w'.cell? ⟨rb, 0, none⟩ = some (.slice E0 r.st.length g0) ∧ w'.cell? ⟨rb, 1, none⟩ = some (.slice E1 r.dat.length g1) ∧ w'.cell? ⟨rb, 2, none⟩ = some (.slice E2 r.rd.length g2) ∧ w'.cell? ⟨rb, 3, none⟩ = some (.int .i64 rt) ∧ w'.cell? ⟨w.heap.size + 1, 0, none⟩ = some (.slice B0 st.length d0) ∧ w'.cell? ⟨w.heap.size + 1, 1, none⟩ = some (.slice B1 n1 d1) ∧ w'.cell? ⟨w.heap.size + 1, 2, none⟩ = some (.slice B2 n2 d2) ∧ w'.cell? ⟨w.heap.size + 1, 3, none⟩ = some (.int .i64 time)) (ds := []) #[false, false, false, false, false, false, false, false, false, false, false, false, false, false, false, false, false, false, false, false, false, false, false, false, false, false, false] (by kernel_rfl) rfl rfl ⟨s0_, s1_, s2_, s3_, s4_, s5_, s6_, s7_⟩ (fun hHeld => ?_)
                generalize w4.drew = wD at s0_ s1_ s2_ s3_ s4_ s5_ s6_ s7_ hFD hRr hRB hDD hCf hHeld ⊢
                refine pure_ (i := 0) (N := some 32) (v := ?_) (a' := ?_) #[true, false, false, false, false, false, false, false, false, false, false, false, false, false, false, false, false, false, false, false, false, false, false, false, false, false, false] rfl rfl (by kernel_rfl) (fun _ _ _ h => h) (Or.inl ⟨by rfl, ?_⟩) ?_ ?_
                rotate_left
                · intro w'
                  go_simp
                  with_reducible rfl
                rotate_left
                · simp only [Act.put, List.setIfInBounds_toArray, List.set_cons_zero, List.set_cons_succ, i64_w, i32_w]
                  rfl
                refine pure_ (i := 1) (N := some 33) (v := ?_) (a' := ?_) #[true, true, false, false, false, false, false, false, false, false, false, false, false, false, false, false, false, false, false, false, false, false, false, false, false, false, false] rfl rfl (by kernel_rfl) (fun _ _ _ h => h) (Or.inl ⟨by rfl, ?_⟩) ?_ ?_
                rotate_left
                · intro w'
                  go_simp
                  with_reducible rfl
                rotate_left
                · simp only [Act.put, List.setIfInBounds_toArray, List.set_cons_zero, List.set_cons_succ, i64_w, i32_w]
                  rfl
                refine pure_ (i := 2) (N := some 34) (v := ?_) (a' := ?_) #[true, true, true, false, false, false, false, false, false, false, false, false, false, false, false, false, false, false, false, false, false, false, false, false, false, false, false] rfl rfl (by kernel_rfl) (fun _ _ _ h => h) (Or.inl ⟨by rfl, ?_⟩) ?_ ?_
                rotate_left
                · intro w'
                  go_simp
                  with_reducible rfl
                rotate_left
                · simp only [Act.put, List.setIfInBounds_toArray, List.set_cons_zero, List.set_cons_succ, i64_w, i32_w]
                  rfl
                refine pure_ (i := 3) (N := some 35) (v := ?_) (a' := ?_) #[true, true, true, true, false, false, false, false, false, false, false, false, false, false, false, false, false, false, false, false, false, false, false, false, false, false, false] rfl rfl (by kernel_rfl) (fun _ _ _ h => h) (Or.inl ⟨by rfl, ?_⟩) ?_ ?_
                rotate_left
                · intro w'
                  go_simp
                  with_reducible rfl
                rotate_left
                · simp only [Act.put, List.setIfInBounds_toArray, List.set_cons_zero, List.set_cons_succ, i64_w, i32_w]
                  rfl
                refine pure_ (i := 6) (N := some 38) (v := ?_) (a' := ?_) #[true, true, true, true, false, false, true, false, false, false, false, false, false, false, false, false, false, false, false, false, false, false, false, false, false, false, false] rfl rfl (by kernel_rfl) (fun _ _ _ h => h) (Or.inl ⟨by rfl, ?_⟩) ?_ ?_
                rotate_left
                · intro w'
                  go_simp
                  with_reducible rfl
                rotate_left
                · simp only [Act.put, List.setIfInBounds_toArray, List.set_cons_zero, List.set_cons_succ, i64_w, i32_w]
                  rfl
                refine take_ (i := 4) (N := some 36) (v := ?_) (a' := ?_) #[true, true, true, true, true, false, true, false, false, false, false, false, false, false, false, false, false, false, false, false, false, false, false, false, false, false, false] rfl rfl (by kernel_rfl) (fun _ _ _ h => h) (Or.inl ⟨by rfl, ?_⟩) hHeld ?_ ?_
                rotate_left
                · rintro w' ⟨s0, s1, s2, s3, s4, s5, s6, s7⟩
                  go_simp
                  with_reducible rfl
                rotate_left
                · simp only [Act.put, List.setIfInBounds_toArray, List.set_cons_zero, List.set_cons_succ, i64_w, i32_w]
                  rfl
                refine take_ (i := 7) (N := some 39) (v := ?_) (a' := ?_) #[true, true, true, true, true, false, true, true, false, false, false, false, false, false, false, false, false, false, false, false, false, false, false, false, false, false, false] rfl rfl (by kernel_rfl) (fun _ _ _ h => h) (Or.inl ⟨by rfl, ?_⟩) hHeld ?_ ?_
                rotate_left
                · rintro w' ⟨s0, s1, s2, s3, s4, s5, s6, s7⟩
                  go_simp
                  with_reducible rfl
                rotate_left
                · simp only [Act.put, List.setIfInBounds_toArray, List.set_cons_zero, List.set_cons_succ, i64_w, i32_w]
                  rfl
                refine one_ (i := 5) (N := some 37) #[true, true, true, true, true, true, true, true, false, false, false, false, false, false, false, false, false, false, false, false, false, false, false, false, false, false, false] rfl rfl (by kernel_rfl) (by decide) (fun K hK => ?_)
                refine call_ 97 #[.agg #[.slice E0 r.st.length g0, .slice E1 r.dat.length g1, .slice E2 r.rd.length g2, .int .i64 rt]] (by rfl) rfl ?_ ?_
                · have he := enters_ Try.func97 (by kernel_rfl) rfl #[.agg #[.slice E0 r.st.length g0, .slice E1 r.dat.length g1, .slice E2 r.rd.length g2, .int .i64 rt]] wD
                  unfold execOp
                  simp [resolve, Deferred.ofValue, invoke, Act.eval, he]
                with_reducible refine (good_calls E0 g0 r.st E1 E2 r.dat.length g1 r.rd.length g2 rt gr wD (Kd.C_below (Kd.R_reads' hRr.out).2.2 (Below.refl wD.heap.size wD)) hlr.out.1 hlr.out.2 hgr.out).mono ?_
                rintro e w5 ⟨rfl, hb5⟩
                refine ⟨_, rfl, ?_⟩
                refine hK.out _ _ ⟨pw_cell_below hb5 s0_, pw_cell_below hb5 s1_, pw_cell_below hb5 s2_, pw_cell_below hb5 s3_, pw_cell_below hb5 s4_, pw_cell_below hb5 s5_, pw_cell_below hb5 s6_, pw_cell_below hb5 s7_⟩ (fun hHeld => ?_)
                clear hK K
                refine norm_ (a' := ?_) ?_ ?_
                rotate_left
                · show Act.put _ (some 37) _ = _
                  simp only [Act.put, List.setIfInBounds_toArray, List.set_cons_zero, List.set_cons_succ, i64_w, i32_w]
                  rfl
                refine one_ (i := 8) (N := some 40) #[true, true, true, true, true, true, true, true, true, false, false, false, false, false, false, false, false, false, false, false, false, false, false, false, false, false, false] rfl rfl (by kernel_rfl) (by decide) (fun K hK => ?_)
                refine call_ 97 #[.agg #[.slice B0 st.length d0, .slice B1 n1 d1, .slice B2 n2 d2, .int .i64 time]] (by rfl) rfl ?_ ?_
                · have he := enters_ Try.func97 (by kernel_rfl) rfl #[.agg #[.slice B0 st.length d0, .slice B1 n1 d1, .slice B2 n2 d2, .int .i64 time]] w5
                  unfold execOp
                  simp [resolve, Deferred.ofValue, invoke, Act.eval, he]
                with_reducible refine (good_calls B0 d0 st B1 B2 n1 d1 n2 d2 time most w5 (Kd.C_below hCf.out hb5) hlf.out.1 hlf.out.2 hmost.out).mono ?_
                rintro e w6 ⟨rfl, hb6⟩
                refine ⟨_, rfl, ?_⟩
                refine hK.out _ _ ⟨pw_cell_below (below_step hb5 hb6) s0_, pw_cell_below (below_step hb5 hb6) s1_, pw_cell_below (below_step hb5 hb6) s2_, pw_cell_below (below_step hb5 hb6) s3_, pw_cell_below (below_step hb5 hb6) s4_, pw_cell_below (below_step hb5 hb6) s5_, pw_cell_below (below_step hb5 hb6) s6_, pw_cell_below (below_step hb5 hb6) s7_⟩ (fun hHeld => ?_)
                clear hK K
                refine norm_ (a' := ?_) ?_ ?_
                rotate_left
                · show Act.put _ (some 40) _ = _
                  simp only [Act.put, List.setIfInBounds_toArray, List.set_cons_zero, List.set_cons_succ, i64_w, i32_w]
                  rfl
                refine pure_ (i := 9) (N := some 41) (v := ?_) (a' := ?_) #[true, true, true, true, true, true, true, true, true, true, false, false, false, false, false, false, false, false, false, false, false, false, false, false, false, false, false] rfl rfl (by kernel_rfl) (fun _ _ _ h => h) (Or.inl ⟨by rfl, ?_⟩) ?_ ?_
                rotate_left
                · intro w'
                  go_simp
                  with_reducible rfl
                rotate_left
                · simp only [Act.put, List.setIfInBounds_toArray, List.set_cons_zero, List.set_cons_succ, i64_w, i32_w]
                  rfl
                refine pure_ (i := 10) (N := some 42) (v := ?_) (a' := ?_) #[true, true, true, true, true, true, true, true, true, true, true, false, false, false, false, false, false, false, false, false, false, false, false, false, false, false, false] rfl rfl (by kernel_rfl) (fun _ _ _ h => h) (Or.inl ⟨by rfl, ?_⟩) ?_ ?_
                rotate_left
                · intro w'
                  go_simp
                  with_reducible rfl
                rotate_left
                · simp only [Act.put, List.setIfInBounds_toArray, List.set_cons_zero, List.set_cons_succ, i64_w, i32_w]
                  rfl
                refine pure_ (i := 11) (N := some 43) (v := ?_) (a' := ?_) #[true, true, true, true, true, true, true, true, true, true, true, true, false, false, false, false, false, false, false, false, false, false, false, false, false, false, false] rfl rfl (by kernel_rfl) (fun _ _ _ h => h) (Or.inl ⟨by rfl, ?_⟩) ?_ ?_
                rotate_left
                · intro w'
                  go_simp
                  with_reducible rfl
                rotate_left
                · simp only [Act.put, List.setIfInBounds_toArray, List.set_cons_zero, List.set_cons_succ, i64_w, i32_w]
                  rfl
                refine pure_ (i := 12) (N := some 44) (v := ?_) (a' := ?_) #[true, true, true, true, true, true, true, true, true, true, true, true, true, false, false, false, false, false, false, false, false, false, false, false, false, false, false] rfl rfl (by kernel_rfl) (fun _ _ _ h => h) (Or.inl ⟨by rfl, ?_⟩) ?_ ?_
                rotate_left
                · intro w'
                  go_simp
                  with_reducible rfl
                rotate_left
                · simp only [Act.put, List.setIfInBounds_toArray, List.set_cons_zero, List.set_cons_succ, i64_w, i32_w]
                  rfl
                refine pure_ (i := 15) (N := some 47) (v := ?_) (a' := ?_) #[true, true, true, true, true, true, true, true, true, true, true, true, true, false, false, true, false, false, false, false, false, false, false, false, false, false, false] rfl rfl (by kernel_rfl) (fun _ _ _ h => h) (Or.inl ⟨by rfl, ?_⟩) ?_ ?_
                rotate_left
                · intro w'
                  go_simp
                  with_reducible rfl
                rotate_left
                · simp only [Act.put, List.setIfInBounds_toArray, List.set_cons_zero, List.set_cons_succ, i64_w, i32_w]
                  rfl
                refine take_ (i := 13) (N := some 45) (v := ?_) (a' := ?_) #[true, true, true, true, true, true, true, true, true, true, true, true, true, true, false, true, false, false, false, false, false, false, false, false, false, false, false] rfl rfl (by kernel_rfl) (fun _ _ _ h => h) (Or.inl ⟨by rfl, ?_⟩) hHeld ?_ ?_
                rotate_left
                · rintro w' ⟨s0, s1, s2, s3, s4, s5, s6, s7⟩
                  go_simp
                  with_reducible rfl
                rotate_left
                · simp only [Act.put, List.setIfInBounds_toArray, List.set_cons_zero, List.set_cons_succ, i64_w, i32_w]
                  rfl
                refine take_ (i := 16) (N := some 48) (v := ?_) (a' := ?_) #[true, true, true, true, true, true, true, true, true, true, true, true, true, true, false, true, true, false, false, false, false, false, false, false, false, false, false] rfl rfl (by kernel_rfl) (fun _ _ _ h => h) (Or.inl ⟨by rfl, ?_⟩) hHeld ?_ ?_
                rotate_left
                · rintro w' ⟨s0, s1, s2, s3, s4, s5, s6, s7⟩
                  go_simp
                  with_reducible rfl
                rotate_left
                · simp only [Act.put, List.setIfInBounds_toArray, List.set_cons_zero, List.set_cons_succ, i64_w, i32_w]
                  rfl
                refine one_ (i := 14) (N := some 46) #[true, true, true, true, true, true, true, true, true, true, true, true, true, true, true, true, true, false, false, false, false, false, false, false, false, false, false] rfl rfl (by kernel_rfl) (by decide) (fun K hK => ?_)
                refine call_ 97 #[.agg #[.slice E0 r.st.length g0, .slice E1 r.dat.length g1, .slice E2 r.rd.length g2, .int .i64 rt]] (by rfl) rfl ?_ ?_
                · have he := enters_ Try.func97 (by kernel_rfl) rfl #[.agg #[.slice E0 r.st.length g0, .slice E1 r.dat.length g1, .slice E2 r.rd.length g2, .int .i64 rt]] w6
                  unfold execOp
                  simp [resolve, Deferred.ofValue, invoke, Act.eval, he]
                with_reducible refine (good_calls E0 g0 r.st E1 E2 r.dat.length g1 r.rd.length g2 rt gr w6 (Kd.C_below (Kd.R_reads' hRr.out).2.2 (below_step hb5 hb6)) hlr.out.1 hlr.out.2 hgr.out).mono ?_
                rintro e w7 ⟨rfl, hb7⟩
                refine ⟨_, rfl, ?_⟩
                refine hK.out _ _ ⟨pw_cell_below (below_step (below_step hb5 hb6) hb7) s0_, pw_cell_below (below_step (below_step hb5 hb6) hb7) s1_, pw_cell_below (below_step (below_step hb5 hb6) hb7) s2_, pw_cell_below (below_step (below_step hb5 hb6) hb7) s3_, pw_cell_below (below_step (below_step hb5 hb6) hb7) s4_, pw_cell_below (below_step (below_step hb5 hb6) hb7) s5_, pw_cell_below (below_step (below_step hb5 hb6) hb7) s6_, pw_cell_below (below_step (below_step hb5 hb6) hb7) s7_⟩ (fun hHeld => ?_)
                clear hK K
                refine norm_ (a' := ?_) ?_ ?_
                rotate_left
                · show Act.put _ (some 46) _ = _
                  simp only [Act.put, List.setIfInBounds_toArray, List.set_cons_zero, List.set_cons_succ, i64_w, i32_w]
                  rfl
                refine one_ (i := 17) (N := some 49) #[true, true, true, true, true, true, true, true, true, true, true, true, true, true, true, true, true, true, false, false, false, false, false, false, false, false, false] rfl rfl (by kernel_rfl) (by decide) (fun K hK => ?_)
                refine call_ 97 #[.agg #[.slice B0 st.length d0, .slice B1 n1 d1, .slice B2 n2 d2, .int .i64 time]] (by rfl) rfl ?_ ?_
                · have he := enters_ Try.func97 (by kernel_rfl) rfl #[.agg #[.slice B0 st.length d0, .slice B1 n1 d1, .slice B2 n2 d2, .int .i64 time]] w7
                  unfold execOp
                  simp [resolve, Deferred.ofValue, invoke, Act.eval, he]
                with_reducible refine (good_calls B0 d0 st B1 B2 n1 d1 n2 d2 time most w7 (Kd.C_below hCf.out (below_step (below_step hb5 hb6) hb7)) hlf.out.1 hlf.out.2 hmost.out).mono ?_
                rintro e w8 ⟨rfl, hb8⟩
                refine ⟨_, rfl, ?_⟩
                refine hK.out _ _ ⟨pw_cell_below (below_step (below_step (below_step hb5 hb6) hb7) hb8) s0_, pw_cell_below (below_step (below_step (below_step hb5 hb6) hb7) hb8) s1_, pw_cell_below (below_step (below_step (below_step hb5 hb6) hb7) hb8) s2_, pw_cell_below (below_step (below_step (below_step hb5 hb6) hb7) hb8) s3_, pw_cell_below (below_step (below_step (below_step hb5 hb6) hb7) hb8) s4_, pw_cell_below (below_step (below_step (below_step hb5 hb6) hb7) hb8) s5_, pw_cell_below (below_step (below_step (below_step hb5 hb6) hb7) hb8) s6_, pw_cell_below (below_step (below_step (below_step hb5 hb6) hb7) hb8) s7_⟩ (fun hHeld => ?_)
                clear hK K
                refine norm_ (a' := ?_) ?_ ?_
                rotate_left
                · show Act.put _ (some 49) _ = _
                  simp only [Act.put, List.setIfInBounds_toArray, List.set_cons_zero, List.set_cons_succ, i64_w, i32_w]
                  rfl
                refine pure_ (i := 18) (N := some 50) (v := ?_) (a' := ?_) #[true, true, true, true, true, true, true, true, true, true, true, true, true, true, true, true, true, true, true, false, false, false, false, false, false, false, false] rfl rfl (by kernel_rfl) (fun _ _ _ h => h) (Or.inl ⟨by rfl, ?_⟩) ?_ ?_
                rotate_left
                · intro w'
                  go_simp
                  with_reducible rfl
                rotate_left
                · simp only [Act.put, List.setIfInBounds_toArray, List.set_cons_zero, List.set_cons_succ, i64_w, i32_w]
                  rfl
                refine pure_ (i := 19) (N := some 51) (v := ?_) (a' := ?_) #[true, true, true, true, true, true, true, true, true, true, true, true, true, true, true, true, true, true, true, true, false, false, false, false, false, false, false] rfl rfl (by kernel_rfl) (fun _ _ _ h => h) (Or.inl ⟨by rfl, ?_⟩) ?_ ?_
                rotate_left
                · intro w'
                  go_simp
                  with_reducible rfl
                rotate_left
                · simp only [Act.put, List.setIfInBounds_toArray, List.set_cons_zero, List.set_cons_succ, i64_w, i32_w]
                  rfl
                refine pure_ (i := 20) (N := some 52) (v := ?_) (a' := ?_) #[true, true, true, true, true, true, true, true, true, true, true, true, true, true, true, true, true, true, true, true, true, false, false, false, false, false, false] rfl rfl (by kernel_rfl) (fun _ _ _ h => h) (Or.inl ⟨by rfl, ?_⟩) ?_ ?_
                rotate_left
                · intro w'
                  go_simp
                  with_reducible rfl
                rotate_left
                · simp only [Act.put, List.setIfInBounds_toArray, List.set_cons_zero, List.set_cons_succ, i64_w, i32_w]
                  rfl
                refine pure_ (i := 22) (N := some 54) (v := ?_) (a' := ?_) #[true, true, true, true, true, true, true, true, true, true, true, true, true, true, true, true, true, true, true, true, true, false, true, false, false, false, false] rfl rfl (by kernel_rfl) (fun _ _ _ h => h) (Or.inl ⟨by rfl, ?_⟩) ?_ ?_
                rotate_left
                · intro w'
                  go_simp
                  with_reducible rfl
                rotate_left
                · simp only [Act.put, List.setIfInBounds_toArray, List.set_cons_zero, List.set_cons_succ, i64_w, i32_w]
                  rfl
                refine take_ (i := 21) (N := some 53) (v := ?_) (a' := ?_) #[true, true, true, true, true, true, true, true, true, true, true, true, true, true, true, true, true, true, true, true, true, true, true, false, false, false, false] rfl rfl (by kernel_rfl) (fun _ _ _ h => h) (Or.inl ⟨by rfl, ?_⟩) hHeld ?_ ?_
                rotate_left
                · rintro w' ⟨s0, s1, s2, s3, s4, s5, s6, s7⟩
                  go_simp
                  with_reducible rfl
                rotate_left
                · simp only [Act.put, List.setIfInBounds_toArray, List.set_cons_zero, List.set_cons_succ, i64_w, i32_w]
                  rfl
                refine take_ (i := 23) (N := some 55) (v := ?_) (a' := ?_) #[true, true, true, true, true, true, true, true, true, true, true, true, true, true, true, true, true, true, true, true, true, true, true, true, false, false, false] rfl rfl (by kernel_rfl) (fun _ _ _ h => h) (Or.inl ⟨by rfl, ?_⟩) hHeld ?_ ?_
                rotate_left
                · rintro w' ⟨s0, s1, s2, s3, s4, s5, s6, s7⟩
                  go_simp
                  with_reducible rfl
                rotate_left
                · simp only [Act.put, List.setIfInBounds_toArray, List.set_cons_zero, List.set_cons_succ, i64_w, i32_w]
                  rfl
                refine pure_ (i := 24) (N := some 56) (v := ?_) (a' := ?_) #[true, true, true, true, true, true, true, true, true, true, true, true, true, true, true, true, true, true, true, true, true, true, true, true, true, false, false] rfl rfl (by kernel_rfl) (fun _ _ _ h => h) (Or.inl ⟨by rfl, ?_⟩) ?_ ?_
                rotate_left
                · intro w'
                  go_simp
                  with_reducible rfl
                rotate_left
                · simp only [Act.put, List.setIfInBounds_toArray, List.set_cons_zero, List.set_cons_succ, i64_w, i32_w]
                  rfl
                refine pure_ (i := 25) (N := some 57) (v := ?_) (a' := ?_) #[true, true, true, true, true, true, true, true, true, true, true, true, true, true, true, true, true, true, true, true, true, true, true, true, true, true, false] rfl rfl (by kernel_rfl) (fun _ _ _ h => h) (Or.inl ⟨by rfl, ?_⟩) ?_ ?_
                rotate_left
                · intro w'
                  go_simp
                  with_reducible rfl
                rotate_left
                · simp only [Act.put, List.setIfInBounds_toArray, List.set_cons_zero, List.set_cons_succ, i64_w, i32_w]
                  rfl
                refine pure_ (i := 26) (N := some 58) (v := ?_) (a' := ?_) #[true, true, true, true, true, true, true, true, true, true, true, true, true, true, true, true, true, true, true, true, true, true, true, true, true, true, true] rfl rfl (by kernel_rfl) (fun _ _ _ h => h) (Or.inl ⟨by rfl, ?_⟩) ?_ ?_
                rotate_left
                · intro w'
                  go_simp
                  with_reducible rfl
                rotate_left
                · simp only [Act.put, List.setIfInBounds_toArray, List.set_cons_zero, List.set_cons_succ, i64_w, i32_w]
                  rfl
                refine done_ (by kernel_rfl) ?_
                have hFE := Aside0.mk (hFD.out.below (below_step (below_step (below_step hb5 hb6) hb7) hb8))
                have hDE := Aside0.mk (blk_below hDD.out (below_step (below_step (below_step hb5 hb6) hb7) hb8))
                have hRE := Aside0.mk (blk_below hRB.out (below_step (below_step (below_step hb5 hb6) hb7) hb8))
                have hRrE := Aside0.mk (Kd.R_below hRr.out (below_step (below_step (below_step hb5 hb6) hb7) hb8))
                clear s0_ s1_ s2_ s3_ s4_ s5_ s6_ s7_ hHeld hFD hRB hRr hDD hCf hb5 hb6 hb7 hb8
                go_wp2
                have hF6 := hFE.out.below (below_drew (Below.refl w8.heap.size w8))
                have hD6 := Aside0.mk (blk_drew hDE.out)
                have hR6 := Aside0.mk (Kd.R_drew hRrE.out)
                have hX6 := blk_drew hRE.out
                have x0 : w8.drew.cell? ⟨rb, 0, none⟩ = some (.slice E0 r.st.length g0) := (blk_cell hX6 0).trans rfl
                have x1 : w8.drew.cell? ⟨rb, 1, none⟩ = some (.slice E1 r.dat.length g1) := (blk_cell hX6 1).trans rfl
                have x2 : w8.drew.cell? ⟨rb, 2, none⟩ = some (.slice E2 r.rd.length g2) := (blk_cell hX6 2).trans rfl
                have x3 : w8.drew.cell? ⟨rb, 3, none⟩ = some (.int .i64 rt) := (blk_cell hX6 3).trans rfl
                clear hFE hDE hRrE hRE hX6
                refine start_ (n := 4) (S := fun w' => w'.cell? ⟨rb, 0, none⟩ = some (.slice E0 r.st.length g0) ∧ w'.cell? ⟨rb, 1, none⟩ = some (.slice E1 r.dat.length g1) ∧ w'.cell? ⟨rb, 2, none⟩ = some (.slice E2 r.rd.length g2) ∧ w'.cell? ⟨rb, 3, none⟩ = some (.int .i64 rt)) (ds := [3]) #[false, false, false, false] (by kernel_rfl) rfl rfl ⟨x0, x1, x2, x3⟩ (fun hHeld => ?_)
                generalize w8.drew = wF at x0 x1 x2 x3 hF6 hD6 hR6 hHeld ⊢
                have o0 : (wF).cell? ⟨w.heap.size + 1, 0, none⟩ = some (.slice B0 st.length d0) := (blk_cell hF6.blk 0).trans rfl
                have z0 := blk_frozen hF6.blk 0
                have y1 := blk_put hF6.blk 0 (.slice E0 r.st.length g0) rfl
                have o1 : ((wF).setCell ⟨w.heap.size + 1, 0, none⟩ (.slice E0 r.st.length g0)).cell? ⟨w.heap.size + 1, 1, none⟩ = some (.slice B1 n1 d1) := (blk_cell y1 1).trans rfl
                have z1 := blk_frozen y1 1
                have y2 := blk_put y1 1 (.slice E1 r.dat.length g1) rfl
                have o2 : (((wF).setCell ⟨w.heap.size + 1, 0, none⟩ (.slice E0 r.st.length g0)).setCell ⟨w.heap.size + 1, 1, none⟩ (.slice E1 r.dat.length g1)).cell? ⟨w.heap.size + 1, 2, none⟩ = some (.slice B2 n2 d2) := (blk_cell y2 2).trans rfl
                have z2 := blk_frozen y2 2
                have y3 := blk_put y2 2 (.slice E2 r.rd.length g2) rfl
                have o3 : ((((wF).setCell ⟨w.heap.size + 1, 0, none⟩ (.slice E0 r.st.length g0)).setCell ⟨w.heap.size + 1, 1, none⟩ (.slice E1 r.dat.length g1)).setCell ⟨w.heap.size + 1, 2, none⟩ (.slice E2 r.rd.length g2)).cell? ⟨w.heap.size + 1, 3, none⟩ = some (.int .i64 time) := (blk_cell y3 3).trans rfl
                have z3 := blk_frozen y3 3
                have y4 := blk_put y3 3 (.int .i64 rt) rfl
                have hbF := Aside0.mk hF6.b
                have Y4 := Aside0.mk y4
                clear y1 y2 y3 y4 hF6
                refine pure_ (i := 0) (N := some 59) (v := ?_) (a' := ?_) #[true, false, false, false] rfl rfl (by kernel_rfl) (fun _ _ _ h => h) (Or.inl ⟨by rfl, ?_⟩) ?_ ?_
                rotate_left
                · intro w'
                  go_simp
                  with_reducible rfl
                rotate_left
                · simp only [Act.put, List.setIfInBounds_toArray, List.set_cons_zero, List.set_cons_succ, i64_w, i32_w]
                  rfl
                refine pure_ (i := 2) (N := some 6) (v := ?_) (a' := ?_) #[true, false, true, false] rfl rfl (by kernel_rfl) (fun _ _ _ h => h) (Or.inl ⟨by rfl, ?_⟩) ?_ ?_
                rotate_left
                · intro w'
                  go_simp
                  with_reducible rfl
                rotate_left
                · simp only [Act.put, List.setIfInBounds_toArray, List.set_cons_zero, List.set_cons_succ, i64_w, i32_w]
                  rfl
                refine take_ (i := 1) (N := some 60) (v := ?_) (a' := ?_) #[true, true, true, false] rfl rfl (by kernel_rfl) (fun _ _ _ h => h) (Or.inl ⟨by rfl, ?_⟩) hHeld ?_ ?_
                rotate_left
                · rintro w' ⟨s0, s1, s2, s3⟩
                  go_simp
                  with_reducible rfl
                rotate_left
                · simp only [Act.put, List.setIfInBounds_toArray, List.set_cons_zero, List.set_cons_succ, i64_w, i32_w]
                  rfl
                refine last_ (i := 3) (N := none) #[true, true, true, true] rfl rfl (by kernel_rfl) (by decide) (fun K hK => ?_)
                refine skip_ (w1 := ?_) (by rfl) rfl ?_ ?_
                rotate_left
                · go_simp
                  rfl
                refine hK.out _ _ ?_
                clear hK K
                refine done_ (by kernel_rfl) ?_
                have hF7 : FAt w _ (w.heap.size + 1) i gr rt E0 r.st.length g0 E1 r.dat.length g1 E2 r.rd.length g2 := ⟨(Below.setCell (p := ⟨w.heap.size + 1, 3, none⟩) (Below.setCell (p := ⟨w.heap.size + 1, 2, none⟩) (Below.setCell (p := ⟨w.heap.size + 1, 1, none⟩) (Below.setCell (p := ⟨w.heap.size + 1, 0, none⟩) hbF.out (by show w.heap.size ≤ w.heap.size + 1; omega) (.slice E0 r.st.length g0)) (by show w.heap.size ≤ w.heap.size + 1; omega) (.slice E1 r.dat.length g1)) (by show w.heap.size ≤ w.heap.size + 1; omega) (.slice E2 r.rd.length g2)) (by show w.heap.size ≤ w.heap.size + 1; omega) (.int .i64 rt)), by omega, Y4.out, fun _ => ⟨r.st, rfl, hlr.out.1, hlr.out.2, hgr.out, (Kd.R_reads' (Kd.R_far (Kd.R_far (Kd.R_far (Kd.R_far hR6.out (fun k hk => by show k ≠ w.heap.size + 1; omega) (.slice E0 r.st.length g0)) (fun k hk => by show k ≠ w.heap.size + 1; omega) (.slice E1 r.dat.length g1)) (fun k hk => by show k ≠ w.heap.size + 1; omega) (.slice E2 r.rd.length g2)) (fun k hk => by show k ≠ w.heap.size + 1; omega) (.int .i64 rt))).2.2⟩⟩
                have hD7 := (blk_far (blk_far (blk_far (blk_far hD6.out (p := ⟨w.heap.size + 1, 0, none⟩) (by show w.heap.size ≠ w.heap.size + 1; omega) (.slice E0 r.st.length g0)) (p := ⟨w.heap.size + 1, 1, none⟩) (by show w.heap.size ≠ w.heap.size + 1; omega) (.slice E1 r.dat.length g1)) (p := ⟨w.heap.size + 1, 2, none⟩) (by show w.heap.size ≠ w.heap.size + 1; omega) (.slice E2 r.rd.length g2)) (p := ⟨w.heap.size + 1, 3, none⟩) (by show w.heap.size ≠ w.heap.size + 1; omega) (.int .i64 rt))
                replace hF7 := Aside0.mk hF7
                replace hD7 := Aside0.mk hD7
                clear x0 x1 x2 x3 o0 o1 o2 o3 z0 z1 z2 z3 hbF Y4 hD6 hR6 hHeld
                go_wp2
                go_roundw
                case rel => exact ⟨i + 1, i, gr, rt, E0, _, g0, E1, _, g1, E2, _, g2, by omega, rfl, by go_num, hnext, hF7, hD7⟩
                case measure => simp [intOf]; omega
              · have ht1 := decide_eq_false ht
                rw [if_neg (fun h => h.elim hb (fun h => h.elim hg (fun h => ht h.2)))] at hstep_
                have hnext := Aside0.mk hstep_
                clear hb hg hq ht hstep hstep_
                refine start_ (n := 27) (S := fun w' => w'.cell? ⟨rb, 0, none⟩ = some (.slice E0 r.st.length g0) ∧ w'.cell? ⟨rb, 1, none⟩ = some (.slice E1 r.dat.length g1) ∧ w'.cell? ⟨rb, 2, none⟩ = some (.slice E2 r.rd.length g2) ∧ w'.cell? ⟨rb, 3, none⟩ = some (.int .i64 rt) ∧ w'.cell? ⟨w.heap.size + 1, 0, none⟩ = some (.slice B0 st.length d0) ∧ w'.cell? ⟨w.heap.size + 1, 1, none⟩ = some (.slice B1 n1 d1) ∧ w'.cell? ⟨w.heap.size + 1, 2, none⟩ = some (.slice B2 n2 d2) ∧ w'.cell? ⟨w.heap.size + 1, 3, none⟩ = some (.int .i64 time)) (ds := []) #[false, false, false, false, false, false, false, false, false, false, false, false, false, false, false, false, false, false, false, false, false, false, false, false, false, false, false] (by kernel_rfl) rfl rfl ⟨s0_, s1_, s2_, s3_, s4_, s5_, s6_, s7_⟩ (fun hHeld => ?_)
                generalize w4.drew = wD at s0_ s1_ s2_ s3_ s4_ s5_ s6_ s7_ hFD hRr hRB hDD hCf hHeld ⊢
                refine pure_ (i := 0) (N := some 32) (v := ?_) (a' := ?_) #[true, false, false, false, false, false, false, false, false, false, false, false, false, false, false, false, false, false, false, false, false, false, false, false, false, false, false] rfl rfl (by kernel_rfl) (fun _ _ _ h => h) (Or.inl ⟨by rfl, ?_⟩) ?_ ?_
                rotate_left
                · intro w'
                  go_simp
                  with_reducible rfl
                rotate_left
                · simp only [Act.put, List.setIfInBounds_toArray, List.set_cons_zero, List.set_cons_succ, i64_w, i32_w]
                  rfl
                refine pure_ (i := 1) (N := some 33) (v := ?_) (a' := ?_) #[true, true, false, false, false, false, false, false, false, false, false, false, false, false, false, false, false, false, false, false, false, false, false, false, false, false, false] rfl rfl (by kernel_rfl) (fun _ _ _ h => h) (Or.inl ⟨by rfl, ?_⟩) ?_ ?_
                rotate_left
                · intro w'
                  go_simp
                  with_reducible rfl
                rotate_left
                · simp only [Act.put, List.setIfInBounds_toArray, List.set_cons_zero, List.set_cons_succ, i64_w, i32_w]
                  rfl
                refine pure_ (i := 2) (N := some 34) (v := ?_) (a' := ?_) #[true, true, true, false, false, false, false, false, false, false, false, false, false, false, false, false, false, false, false, false, false, false, false, false, false, false, false] rfl rfl (by kernel_rfl) (fun _ _ _ h => h) (Or.inl ⟨by rfl, ?_⟩) ?_ ?_
                rotate_left
                · intro w'
                  go_simp
                  with_reducible rfl
                rotate_left
                · simp only [Act.put, List.setIfInBounds_toArray, List.set_cons_zero, List.set_cons_succ, i64_w, i32_w]
                  rfl
                refine pure_ (i := 3) (N := some 35) (v := ?_) (a' := ?_) #[true, true, true, true, false, false, false, false, false, false, false, false, false, false, false, false, false, false, false, false, false, false, false, false, false, false, false] rfl rfl (by kernel_rfl) (fun _ _ _ h => h) (Or.inl ⟨by rfl, ?_⟩) ?_ ?_
                rotate_left
                · intro w'
                  go_simp
                  with_reducible rfl
                rotate_left
                · simp only [Act.put, List.setIfInBounds_toArray, List.set_cons_zero, List.set_cons_succ, i64_w, i32_w]
                  rfl
                refine pure_ (i := 6) (N := some 38) (v := ?_) (a' := ?_) #[true, true, true, true, false, false, true, false, false, false, false, false, false, false, false, false, false, false, false, false, false, false, false, false, false, false, false] rfl rfl (by kernel_rfl) (fun _ _ _ h => h) (Or.inl ⟨by rfl, ?_⟩) ?_ ?_
                rotate_left
                · intro w'
                  go_simp
                  with_reducible rfl
                rotate_left
                · simp only [Act.put, List.setIfInBounds_toArray, List.set_cons_zero, List.set_cons_succ, i64_w, i32_w]
                  rfl
                refine take_ (i := 4) (N := some 36) (v := ?_) (a' := ?_) #[true, true, true, true, true, false, true, false, false, false, false, false, false, false, false, false, false, false, false, false, false, false, false, false, false, false, false] rfl rfl (by kernel_rfl) (fun _ _ _ h => h) (Or.inl ⟨by rfl, ?_⟩) hHeld ?_ ?_
                rotate_left
                · rintro w' ⟨s0, s1, s2, s3, s4, s5, s6, s7⟩
                  go_simp
                  with_reducible rfl
                rotate_left
                · simp only [Act.put, List.setIfInBounds_toArray, List.set_cons_zero, List.set_cons_succ, i64_w, i32_w]
                  rfl
                refine take_ (i := 7) (N := some 39) (v := ?_) (a' := ?_) #[true, true, true, true, true, false, true, true, false, false, false, false, false, false, false, false, false, false, false, false, false, false, false, false, false, false, false] rfl rfl (by kernel_rfl) (fun _ _ _ h => h) (Or.inl ⟨by rfl, ?_⟩) hHeld ?_ ?_
                rotate_left
                · rintro w' ⟨s0, s1, s2, s3, s4, s5, s6, s7⟩
                  go_simp
                  with_reducible rfl
                rotate_left
                · simp only [Act.put, List.setIfInBounds_toArray, List.set_cons_zero, List.set_cons_succ, i64_w, i32_w]
                  rfl
                refine one_ (i := 5) (N := some 37) #[true, true, true, true, true, true, true, true, false, false, false, false, false, false, false, false, false, false, false, false, false, false, false, false, false, false, false] rfl rfl (by kernel_rfl) (by decide) (fun K hK => ?_)
                refine call_ 97 #[.agg #[.slice E0 r.st.length g0, .slice E1 r.dat.length g1, .slice E2 r.rd.length g2, .int .i64 rt]] (by rfl) rfl ?_ ?_
                · have he := enters_ Try.func97 (by kernel_rfl) rfl #[.agg #[.slice E0 r.st.length g0, .slice E1 r.dat.length g1, .slice E2 r.rd.length g2, .int .i64 rt]] wD
                  unfold execOp
                  simp [resolve, Deferred.ofValue, invoke, Act.eval, he]
                with_reducible refine (good_calls E0 g0 r.st E1 E2 r.dat.length g1 r.rd.length g2 rt gr wD (Kd.C_below (Kd.R_reads' hRr.out).2.2 (Below.refl wD.heap.size wD)) hlr.out.1 hlr.out.2 hgr.out).mono ?_
                rintro e w5 ⟨rfl, hb5⟩
                refine ⟨_, rfl, ?_⟩
                refine hK.out _ _ ⟨pw_cell_below hb5 s0_, pw_cell_below hb5 s1_, pw_cell_below hb5 s2_, pw_cell_below hb5 s3_, pw_cell_below hb5 s4_, pw_cell_below hb5 s5_, pw_cell_below hb5 s6_, pw_cell_below hb5 s7_⟩ (fun hHeld => ?_)
                clear hK K
                refine norm_ (a' := ?_) ?_ ?_
                rotate_left
                · show Act.put _ (some 37) _ = _
                  simp only [Act.put, List.setIfInBounds_toArray, List.set_cons_zero, List.set_cons_succ, i64_w, i32_w]
                  rfl
                refine one_ (i := 8) (N := some 40) #[true, true, true, true, true, true, true, true, true, false, false, false, false, false, false, false, false, false, false, false, false, false, false, false, false, false, false] rfl rfl (by kernel_rfl) (by decide) (fun K hK => ?_)
                refine call_ 97 #[.agg #[.slice B0 st.length d0, .slice B1 n1 d1, .slice B2 n2 d2, .int .i64 time]] (by rfl) rfl ?_ ?_
                · have he := enters_ Try.func97 (by kernel_rfl) rfl #[.agg #[.slice B0 st.length d0, .slice B1 n1 d1, .slice B2 n2 d2, .int .i64 time]] w5
                  unfold execOp
                  simp [resolve, Deferred.ofValue, invoke, Act.eval, he]
                with_reducible refine (good_calls B0 d0 st B1 B2 n1 d1 n2 d2 time most w5 (Kd.C_below hCf.out hb5) hlf.out.1 hlf.out.2 hmost.out).mono ?_
                rintro e w6 ⟨rfl, hb6⟩
                refine ⟨_, rfl, ?_⟩
                refine hK.out _ _ ⟨pw_cell_below (below_step hb5 hb6) s0_, pw_cell_below (below_step hb5 hb6) s1_, pw_cell_below (below_step hb5 hb6) s2_, pw_cell_below (below_step hb5 hb6) s3_, pw_cell_below (below_step hb5 hb6) s4_, pw_cell_below (below_step hb5 hb6) s5_, pw_cell_below (below_step hb5 hb6) s6_, pw_cell_below (below_step hb5 hb6) s7_⟩ (fun hHeld => ?_)
                clear hK K
                refine norm_ (a' := ?_) ?_ ?_
                rotate_left
                · show Act.put _ (some 40) _ = _
                  simp only [Act.put, List.setIfInBounds_toArray, List.set_cons_zero, List.set_cons_succ, i64_w, i32_w]
                  rfl
                refine pure_ (i := 9) (N := some 41) (v := ?_) (a' := ?_) #[true, true, true, true, true, true, true, true, true, true, false, false, false, false, false, false, false, false, false, false, false, false, false, false, false, false, false] rfl rfl (by kernel_rfl) (fun _ _ _ h => h) (Or.inl ⟨by rfl, ?_⟩) ?_ ?_
                rotate_left
                · intro w'
                  go_simp
                  with_reducible rfl
                rotate_left
                · simp only [Act.put, List.setIfInBounds_toArray, List.set_cons_zero, List.set_cons_succ, i64_w, i32_w]
                  rfl
                refine pure_ (i := 10) (N := some 42) (v := ?_) (a' := ?_) #[true, true, true, true, true, true, true, true, true, true, true, false, false, false, false, false, false, false, false, false, false, false, false, false, false, false, false] rfl rfl (by kernel_rfl) (fun _ _ _ h => h) (Or.inl ⟨by rfl, ?_⟩) ?_ ?_
                rotate_left
                · intro w'
                  go_simp
                  with_reducible rfl
                rotate_left
                · simp only [Act.put, List.setIfInBounds_toArray, List.set_cons_zero, List.set_cons_succ, i64_w, i32_w]
                  rfl
                refine pure_ (i := 11) (N := some 43) (v := ?_) (a' := ?_) #[true, true, true, true, true, true, true, true, true, true, true, true, false, false, false, false, false, false, false, false, false, false, false, false, false, false, false] rfl rfl (by kernel_rfl) (fun _ _ _ h => h) (Or.inl ⟨by rfl, ?_⟩) ?_ ?_
                rotate_left
                · intro w'
                  go_simp
                  with_reducible rfl
                rotate_left
                · simp only [Act.put, List.setIfInBounds_toArray, List.set_cons_zero, List.set_cons_succ, i64_w, i32_w]
                  rfl
                refine pure_ (i := 12) (N := some 44) (v := ?_) (a' := ?_) #[true, true, true, true, true, true, true, true, true, true, true, true, true, false, false, false, false, false, false, false, false, false, false, false, false, false, false] rfl rfl (by kernel_rfl) (fun _ _ _ h => h) (Or.inl ⟨by rfl, ?_⟩) ?_ ?_
                rotate_left
                · intro w'
                  go_simp
                  with_reducible rfl
                rotate_left
                · simp only [Act.put, List.setIfInBounds_toArray, List.set_cons_zero, List.set_cons_succ, i64_w, i32_w]
                  rfl
                refine pure_ (i := 15) (N := some 47) (v := ?_) (a' := ?_) #[true, true, true, true, true, true, true, true, true, true, true, true, true, false, false, true, false, false, false, false, false, false, false, false, false, false, false] rfl rfl (by kernel_rfl) (fun _ _ _ h => h) (Or.inl ⟨by rfl, ?_⟩) ?_ ?_
                rotate_left
                · intro w'
                  go_simp
                  with_reducible rfl
                rotate_left
                · simp only [Act.put, List.setIfInBounds_toArray, List.set_cons_zero, List.set_cons_succ, i64_w, i32_w]
                  rfl
                refine take_ (i := 13) (N := some 45) (v := ?_) (a' := ?_) #[true, true, true, true, true, true, true, true, true, true, true, true, true, true, false, true, false, false, false, false, false, false, false, false, false, false, false] rfl rfl (by kernel_rfl) (fun _ _ _ h => h) (Or.inl ⟨by rfl, ?_⟩) hHeld ?_ ?_
                rotate_left
                · rintro w' ⟨s0, s1, s2, s3, s4, s5, s6, s7⟩
                  go_simp
                  with_reducible rfl
                rotate_left
                · simp only [Act.put, List.setIfInBounds_toArray, List.set_cons_zero, List.set_cons_succ, i64_w, i32_w]
                  rfl
                refine take_ (i := 16) (N := some 48) (v := ?_) (a' := ?_) #[true, true, true, true, true, true, true, true, true, true, true, true, true, true, false, true, true, false, false, false, false, false, false, false, false, false, false] rfl rfl (by kernel_rfl) (fun _ _ _ h => h) (Or.inl ⟨by rfl, ?_⟩) hHeld ?_ ?_
                rotate_left
                · rintro w' ⟨s0, s1, s2, s3, s4, s5, s6, s7⟩
                  go_simp
                  with_reducible rfl
                rotate_left
                · simp only [Act.put, List.setIfInBounds_toArray, List.set_cons_zero, List.set_cons_succ, i64_w, i32_w]
                  rfl
                refine one_ (i := 14) (N := some 46) #[true, true, true, true, true, true, true, true, true, true, true, true, true, true, true, true, true, false, false, false, false, false, false, false, false, false, false] rfl rfl (by kernel_rfl) (by decide) (fun K hK => ?_)
                refine call_ 97 #[.agg #[.slice E0 r.st.length g0, .slice E1 r.dat.length g1, .slice E2 r.rd.length g2, .int .i64 rt]] (by rfl) rfl ?_ ?_
                · have he := enters_ Try.func97 (by kernel_rfl) rfl #[.agg #[.slice E0 r.st.length g0, .slice E1 r.dat.length g1, .slice E2 r.rd.length g2, .int .i64 rt]] w6
                  unfold execOp
                  simp [resolve, Deferred.ofValue, invoke, Act.eval, he]
                with_reducible refine (good_calls E0 g0 r.st E1 E2 r.dat.length g1 r.rd.length g2 rt gr w6 (Kd.C_below (Kd.R_reads' hRr.out).2.2 (below_step hb5 hb6)) hlr.out.1 hlr.out.2 hgr.out).mono ?_
                rintro e w7 ⟨rfl, hb7⟩
                refine ⟨_, rfl, ?_⟩
                refine hK.out _ _ ⟨pw_cell_below (below_step (below_step hb5 hb6) hb7) s0_, pw_cell_below (below_step (below_step hb5 hb6) hb7) s1_, pw_cell_below (below_step (below_step hb5 hb6) hb7) s2_, pw_cell_below (below_step (below_step hb5 hb6) hb7) s3_, pw_cell_below (below_step (below_step hb5 hb6) hb7) s4_, pw_cell_below (below_step (below_step hb5 hb6) hb7) s5_, pw_cell_below (below_step (below_step hb5 hb6) hb7) s6_, pw_cell_below (below_step (below_step hb5 hb6) hb7) s7_⟩ (fun hHeld => ?_)
                clear hK K
                refine norm_ (a' := ?_) ?_ ?_
                rotate_left
                · show Act.put _ (some 46) _ = _
                  simp only [Act.put, List.setIfInBounds_toArray, List.set_cons_zero, List.set_cons_succ, i64_w, i32_w]
                  rfl
                refine one_ (i := 17) (N := some 49) #[true, true, true, true, true, true, true, true, true, true, true, true, true, true, true, true, true, true, false, false, false, false, false, false, false, false, false] rfl rfl (by kernel_rfl) (by decide) (fun K hK => ?_)
                refine call_ 97 #[.agg #[.slice B0 st.length d0, .slice B1 n1 d1, .slice B2 n2 d2, .int .i64 time]] (by rfl) rfl ?_ ?_
                · have he := enters_ Try.func97 (by kernel_rfl) rfl #[.agg #[.slice B0 st.length d0, .slice B1 n1 d1, .slice B2 n2 d2, .int .i64 time]] w7
                  unfold execOp
                  simp [resolve, Deferred.ofValue, invoke, Act.eval, he]
                with_reducible refine (good_calls B0 d0 st B1 B2 n1 d1 n2 d2 time most w7 (Kd.C_below hCf.out (below_step (below_step hb5 hb6) hb7)) hlf.out.1 hlf.out.2 hmost.out).mono ?_
                rintro e w8 ⟨rfl, hb8⟩
                refine ⟨_, rfl, ?_⟩
                refine hK.out _ _ ⟨pw_cell_below (below_step (below_step (below_step hb5 hb6) hb7) hb8) s0_, pw_cell_below (below_step (below_step (below_step hb5 hb6) hb7) hb8) s1_, pw_cell_below (below_step (below_step (below_step hb5 hb6) hb7) hb8) s2_, pw_cell_below (below_step (below_step (below_step hb5 hb6) hb7) hb8) s3_, pw_cell_below (below_step (below_step (below_step hb5 hb6) hb7) hb8) s4_, pw_cell_below (below_step (below_step (below_step hb5 hb6) hb7) hb8) s5_, pw_cell_below (below_step (below_step (below_step hb5 hb6) hb7) hb8) s6_, pw_cell_below (below_step (below_step (below_step hb5 hb6) hb7) hb8) s7_⟩ (fun hHeld => ?_)
                clear hK K
                refine norm_ (a' := ?_) ?_ ?_
                rotate_left
                · show Act.put _ (some 49) _ = _
                  simp only [Act.put, List.setIfInBounds_toArray, List.set_cons_zero, List.set_cons_succ, i64_w, i32_w]
                  rfl
                refine pure_ (i := 18) (N := some 50) (v := ?_) (a' := ?_) #[true, true, true, true, true, true, true, true, true, true, true, true, true, true, true, true, true, true, true, false, false, false, false, false, false, false, false] rfl rfl (by kernel_rfl) (fun _ _ _ h => h) (Or.inl ⟨by rfl, ?_⟩) ?_ ?_
                rotate_left
                · intro w'
                  go_simp
                  with_reducible rfl
                rotate_left
                · simp only [Act.put, List.setIfInBounds_toArray, List.set_cons_zero, List.set_cons_succ, i64_w, i32_w]
                  rfl
                refine pure_ (i := 19) (N := some 51) (v := ?_) (a' := ?_) #[true, true, true, true, true, true, true, true, true, true, true, true, true, true, true, true, true, true, true, true, false, false, false, false, false, false, false] rfl rfl (by kernel_rfl) (fun _ _ _ h => h) (Or.inl ⟨by rfl, ?_⟩) ?_ ?_
                rotate_left
                · intro w'
                  go_simp
                  with_reducible rfl
                rotate_left
                · simp only [Act.put, List.setIfInBounds_toArray, List.set_cons_zero, List.set_cons_succ, i64_w, i32_w]
                  rfl
                refine pure_ (i := 20) (N := some 52) (v := ?_) (a' := ?_) #[true, true, true, true, true, true, true, true, true, true, true, true, true, true, true, true, true, true, true, true, true, false, false, false, false, false, false] rfl rfl (by kernel_rfl) (fun _ _ _ h => h) (Or.inl ⟨by rfl, ?_⟩) ?_ ?_
                rotate_left
                · intro w'
                  go_simp
                  with_reducible rfl
                rotate_left
                · simp only [Act.put, List.setIfInBounds_toArray, List.set_cons_zero, List.set_cons_succ, i64_w, i32_w]
                  rfl
                refine pure_ (i := 22) (N := some 54) (v := ?_) (a' := ?_) #[true, true, true, true, true, true, true, true, true, true, true, true, true, true, true, true, true, true, true, true, true, false, true, false, false, false, false] rfl rfl (by kernel_rfl) (fun _ _ _ h => h) (Or.inl ⟨by rfl, ?_⟩) ?_ ?_
                rotate_left
                · intro w'
                  go_simp
                  with_reducible rfl
                rotate_left
                · simp only [Act.put, List.setIfInBounds_toArray, List.set_cons_zero, List.set_cons_succ, i64_w, i32_w]
                  rfl
                refine take_ (i := 21) (N := some 53) (v := ?_) (a' := ?_) #[true, true, true, true, true, true, true, true, true, true, true, true, true, true, true, true, true, true, true, true, true, true, true, false, false, false, false] rfl rfl (by kernel_rfl) (fun _ _ _ h => h) (Or.inl ⟨by rfl, ?_⟩) hHeld ?_ ?_
                rotate_left
                · rintro w' ⟨s0, s1, s2, s3, s4, s5, s6, s7⟩
                  go_simp
                  with_reducible rfl
                rotate_left
                · simp only [Act.put, List.setIfInBounds_toArray, List.set_cons_zero, List.set_cons_succ, i64_w, i32_w]
                  rfl
                refine take_ (i := 23) (N := some 55) (v := ?_) (a' := ?_) #[true, true, true, true, true, true, true, true, true, true, true, true, true, true, true, true, true, true, true, true, true, true, true, true, false, false, false] rfl rfl (by kernel_rfl) (fun _ _ _ h => h) (Or.inl ⟨by rfl, ?_⟩) hHeld ?_ ?_
                rotate_left
                · rintro w' ⟨s0, s1, s2, s3, s4, s5, s6, s7⟩
                  go_simp
                  with_reducible rfl
                rotate_left
                · simp only [Act.put, List.setIfInBounds_toArray, List.set_cons_zero, List.set_cons_succ, i64_w, i32_w]
                  rfl
                refine pure_ (i := 24) (N := some 56) (v := ?_) (a' := ?_) #[true, true, true, true, true, true, true, true, true, true, true, true, true, true, true, true, true, true, true, true, true, true, true, true, true, false, false] rfl rfl (by kernel_rfl) (fun _ _ _ h => h) (Or.inl ⟨by rfl, ?_⟩) ?_ ?_
                rotate_left
                · intro w'
                  go_simp
                  with_reducible rfl
                rotate_left
                · simp only [Act.put, List.setIfInBounds_toArray, List.set_cons_zero, List.set_cons_succ, i64_w, i32_w]
                  rfl
                refine pure_ (i := 25) (N := some 57) (v := ?_) (a' := ?_) #[true, true, true, true, true, true, true, true, true, true, true, true, true, true, true, true, true, true, true, true, true, true, true, true, true, true, false] rfl rfl (by kernel_rfl) (fun _ _ _ h => h) (Or.inl ⟨by rfl, ?_⟩) ?_ ?_
                rotate_left
                · intro w'
                  go_simp
                  with_reducible rfl
                rotate_left
                · simp only [Act.put, List.setIfInBounds_toArray, List.set_cons_zero, List.set_cons_succ, i64_w, i32_w]
                  rfl
                refine pure_ (i := 26) (N := some 58) (v := ?_) (a' := ?_) #[true, true, true, true, true, true, true, true, true, true, true, true, true, true, true, true, true, true, true, true, true, true, true, true, true, true, true] rfl rfl (by kernel_rfl) (fun _ _ _ h => h) (Or.inl ⟨by rfl, ?_⟩) ?_ ?_
                rotate_left
                · intro w'
                  go_simp
                  with_reducible rfl
                rotate_left
                · simp only [Act.put, List.setIfInBounds_toArray, List.set_cons_zero, List.set_cons_succ, i64_w, i32_w]
                  rfl
                refine done_ (by kernel_rfl) ?_
                have hFE := Aside0.mk (hFD.out.below (below_step (below_step (below_step hb5 hb6) hb7) hb8))
                have hDE := Aside0.mk (blk_below hDD.out (below_step (below_step (below_step hb5 hb6) hb7) hb8))
                have hRE := Aside0.mk (blk_below hRB.out (below_step (below_step (below_step hb5 hb6) hb7) hb8))
                have hRrE := Aside0.mk (Kd.R_below hRr.out (below_step (below_step (below_step hb5 hb6) hb7) hb8))
                clear s0_ s1_ s2_ s3_ s4_ s5_ s6_ s7_ hHeld hFD hRB hRr hDD hCf hb5 hb6 hb7 hb8
                go_wp2
                go_roundw
                case rel => exact ⟨i + 1, best, most, time, B0, _, d0, B1, n1, d1, B2, n2, d2, by omega, rfl, by go_num, hnext, hFE, hDE⟩
                case measure => simp [intOf]; omega
            · have hq1 : (gr == most) = false := beq_eq_false_iff_ne.mpr hq
              rw [if_neg (fun h => h.elim hb (fun h => h.elim hg (fun h => hq h.1)))] at hstep_
              have hnext := Aside0.mk hstep_
              clear hb hg hq hstep hstep_
              refine start_ (n := 27) (S := fun w' => w'.cell? ⟨rb, 0, none⟩ = some (.slice E0 r.st.length g0) ∧ w'.cell? ⟨rb, 1, none⟩ = some (.slice E1 r.dat.length g1) ∧ w'.cell? ⟨rb, 2, none⟩ = some (.slice E2 r.rd.length g2) ∧ w'.cell? ⟨rb, 3, none⟩ = some (.int .i64 rt) ∧ w'.cell? ⟨w.heap.size + 1, 0, none⟩ = some (.slice B0 st.length d0) ∧ w'.cell? ⟨w.heap.size + 1, 1, none⟩ = some (.slice B1 n1 d1) ∧ w'.cell? ⟨w.heap.size + 1, 2, none⟩ = some (.slice B2 n2 d2) ∧ w'.cell? ⟨w.heap.size + 1, 3, none⟩ = some (.int .i64 time)) (ds := []) #[false, false, false, false, false, false, false, false, false, false, false, false, false, false, false, false, false, false, false, false, false, false, false, false, false, false, false] (by kernel_rfl) rfl rfl ⟨s0_, s1_, s2_, s3_, s4_, s5_, s6_, s7_⟩ (fun hHeld => ?_)
              generalize w4.drew = wD at s0_ s1_ s2_ s3_ s4_ s5_ s6_ s7_ hFD hRr hRB hDD hCf hHeld ⊢
              refine pure_ (i := 0) (N := some 32) (v := ?_) (a' := ?_) #[true, false, false, false, false, false, false, false, false, false, false, false, false, false, false, false, false, false, false, false, false, false, false, false, false, false, false] rfl rfl (by kernel_rfl) (fun _ _ _ h => h) (Or.inl ⟨by rfl, ?_⟩) ?_ ?_
              rotate_left
              · intro w'
                go_simp
                with_reducible rfl
              rotate_left
              · simp only [Act.put, List.setIfInBounds_toArray, List.set_cons_zero, List.set_cons_succ, i64_w, i32_w]
                rfl
              refine pure_ (i := 1) (N := some 33) (v := ?_) (a' := ?_) #[true, true, false, false, false, false, false, false, false, false, false, false, false, false, false, false, false, false, false, false, false, false, false, false, false, false, false] rfl rfl (by kernel_rfl) (fun _ _ _ h => h) (Or.inl ⟨by rfl, ?_⟩) ?_ ?_
              rotate_left
              · intro w'
                go_simp
                with_reducible rfl
              rotate_left
              · simp only [Act.put, List.setIfInBounds_toArray, List.set_cons_zero, List.set_cons_succ, i64_w, i32_w]
                rfl
              refine pure_ (i := 2) (N := some 34) (v := ?_) (a' := ?_) #[true, true, true, false, false, false, false, false, false, false, false, false, false, false, false, false, false, false, false, false, false, false, false, false, false, false, false] rfl rfl (by kernel_rfl) (fun _ _ _ h => h) (Or.inl ⟨by rfl, ?_⟩) ?_ ?_
              rotate_left
              · intro w'
                go_simp
                with_reducible rfl
              rotate_left
              · simp only [Act.put, List.setIfInBounds_toArray, List.set_cons_zero, List.set_cons_succ, i64_w, i32_w]
                rfl
              refine pure_ (i := 3) (N := some 35) (v := ?_) (a' := ?_) #[true, true, true, true, false, false, false, false, false, false, false, false, false, false, false, false, false, false, false, false, false, false, false, false, false, false, false] rfl rfl (by kernel_rfl) (fun _ _ _ h => h) (Or.inl ⟨by rfl, ?_⟩) ?_ ?_
              rotate_left
              · intro w'
                go_simp
                with_reducible rfl
              rotate_left
              · simp only [Act.put, List.setIfInBounds_toArray, List.set_cons_zero, List.set_cons_succ, i64_w, i32_w]
                rfl
              refine pure_ (i := 6) (N := some 38) (v := ?_) (a' := ?_) #[true, true, true, true, false, false, true, false, false, false, false, false, false, false, false, false, false, false, false, false, false, false, false, false, false, false, false] rfl rfl (by kernel_rfl) (fun _ _ _ h => h) (Or.inl ⟨by rfl, ?_⟩) ?_ ?_
              rotate_left
              · intro w'
                go_simp
                with_reducible rfl
              rotate_left
              · simp only [Act.put, List.setIfInBounds_toArray, List.set_cons_zero, List.set_cons_succ, i64_w, i32_w]
                rfl
              refine take_ (i := 4) (N := some 36) (v := ?_) (a' := ?_) #[true, true, true, true, true, false, true, false, false, false, false, false, false, false, false, false, false, false, false, false, false, false, false, false, false, false, false] rfl rfl (by kernel_rfl) (fun _ _ _ h => h) (Or.inl ⟨by rfl, ?_⟩) hHeld ?_ ?_
              rotate_left
              · rintro w' ⟨s0, s1, s2, s3, s4, s5, s6, s7⟩
                go_simp
                with_reducible rfl
              rotate_left
              · simp only [Act.put, List.setIfInBounds_toArray, List.set_cons_zero, List.set_cons_succ, i64_w, i32_w]
                rfl
              refine take_ (i := 7) (N := some 39) (v := ?_) (a' := ?_) #[true, true, true, true, true, false, true, true, false, false, false, false, false, false, false, false, false, false, false, false, false, false, false, false, false, false, false] rfl rfl (by kernel_rfl) (fun _ _ _ h => h) (Or.inl ⟨by rfl, ?_⟩) hHeld ?_ ?_
              rotate_left
              · rintro w' ⟨s0, s1, s2, s3, s4, s5, s6, s7⟩
                go_simp
                with_reducible rfl
              rotate_left
              · simp only [Act.put, List.setIfInBounds_toArray, List.set_cons_zero, List.set_cons_succ, i64_w, i32_w]
                rfl
              refine one_ (i := 5) (N := some 37) #[true, true, true, true, true, true, true, true, false, false, false, false, false, false, false, false, false, false, false, false, false, false, false, false, false, false, false] rfl rfl (by kernel_rfl) (by decide) (fun K hK => ?_)
              refine call_ 97 #[.agg #[.slice E0 r.st.length g0, .slice E1 r.dat.length g1, .slice E2 r.rd.length g2, .int .i64 rt]] (by rfl) rfl ?_ ?_
              · have he := enters_ Try.func97 (by kernel_rfl) rfl #[.agg #[.slice E0 r.st.length g0, .slice E1 r.dat.length g1, .slice E2 r.rd.length g2, .int .i64 rt]] wD
                unfold execOp
                simp [resolve, Deferred.ofValue, invoke, Act.eval, he]
              with_reducible refine (good_calls E0 g0 r.st E1 E2 r.dat.length g1 r.rd.length g2 rt gr wD (Kd.C_below (Kd.R_reads' hRr.out).2.2 (Below.refl wD.heap.size wD)) hlr.out.1 hlr.out.2 hgr.out).mono ?_
              rintro e w5 ⟨rfl, hb5⟩
              refine ⟨_, rfl, ?_⟩
              refine hK.out _ _ ⟨pw_cell_below hb5 s0_, pw_cell_below hb5 s1_, pw_cell_below hb5 s2_, pw_cell_below hb5 s3_, pw_cell_below hb5 s4_, pw_cell_below hb5 s5_, pw_cell_below hb5 s6_, pw_cell_below hb5 s7_⟩ (fun hHeld => ?_)
              clear hK K
              refine norm_ (a' := ?_) ?_ ?_
              rotate_left
              · show Act.put _ (some 37) _ = _
                simp only [Act.put, List.setIfInBounds_toArray, List.set_cons_zero, List.set_cons_succ, i64_w, i32_w]
                rfl
              refine one_ (i := 8) (N := some 40) #[true, true, true, true, true, true, true, true, true, false, false, false, false, false, false, false, false, false, false, false, false, false, false, false, false, false, false] rfl rfl (by kernel_rfl) (by decide) (fun K hK => ?_)
              refine call_ 97 #[.agg #[.slice B0 st.length d0, .slice B1 n1 d1, .slice B2 n2 d2, .int .i64 time]] (by rfl) rfl ?_ ?_
              · have he := enters_ Try.func97 (by kernel_rfl) rfl #[.agg #[.slice B0 st.length d0, .slice B1 n1 d1, .slice B2 n2 d2, .int .i64 time]] w5
                unfold execOp
                simp [resolve, Deferred.ofValue, invoke, Act.eval, he]
              with_reducible refine (good_calls B0 d0 st B1 B2 n1 d1 n2 d2 time most w5 (Kd.C_below hCf.out hb5) hlf.out.1 hlf.out.2 hmost.out).mono ?_
              rintro e w6 ⟨rfl, hb6⟩
              refine ⟨_, rfl, ?_⟩
              refine hK.out _ _ ⟨pw_cell_below (below_step hb5 hb6) s0_, pw_cell_below (below_step hb5 hb6) s1_, pw_cell_below (below_step hb5 hb6) s2_, pw_cell_below (below_step hb5 hb6) s3_, pw_cell_below (below_step hb5 hb6) s4_, pw_cell_below (below_step hb5 hb6) s5_, pw_cell_below (below_step hb5 hb6) s6_, pw_cell_below (below_step hb5 hb6) s7_⟩ (fun hHeld => ?_)
              clear hK K
              refine norm_ (a' := ?_) ?_ ?_
              rotate_left
              · show Act.put _ (some 40) _ = _
                simp only [Act.put, List.setIfInBounds_toArray, List.set_cons_zero, List.set_cons_succ, i64_w, i32_w]
                rfl
              refine pure_ (i := 9) (N := some 41) (v := ?_) (a' := ?_) #[true, true, true, true, true, true, true, true, true, true, false, false, false, false, false, false, false, false, false, false, false, false, false, false, false, false, false] rfl rfl (by kernel_rfl) (fun _ _ _ h => h) (Or.inl ⟨by rfl, ?_⟩) ?_ ?_
              rotate_left
              · intro w'
                go_simp
                with_reducible rfl
              rotate_left
              · simp only [Act.put, List.setIfInBounds_toArray, List.set_cons_zero, List.set_cons_succ, i64_w, i32_w]
                rfl
              refine pure_ (i := 10) (N := some 42) (v := ?_) (a' := ?_) #[true, true, true, true, true, true, true, true, true, true, true, false, false, false, false, false, false, false, false, false, false, false, false, false, false, false, false] rfl rfl (by kernel_rfl) (fun _ _ _ h => h) (Or.inl ⟨by rfl, ?_⟩) ?_ ?_
              rotate_left
              · intro w'
                go_simp
                with_reducible rfl
              rotate_left
              · simp only [Act.put, List.setIfInBounds_toArray, List.set_cons_zero, List.set_cons_succ, i64_w, i32_w]
                rfl
              refine pure_ (i := 11) (N := some 43) (v := ?_) (a' := ?_) #[true, true, true, true, true, true, true, true, true, true, true, true, false, false, false, false, false, false, false, false, false, false, false, false, false, false, false] rfl rfl (by kernel_rfl) (fun _ _ _ h => h) (Or.inl ⟨by rfl, ?_⟩) ?_ ?_
              rotate_left
              · intro w'
                go_simp
                with_reducible rfl
              rotate_left
              · simp only [Act.put, List.setIfInBounds_toArray, List.set_cons_zero, List.set_cons_succ, i64_w, i32_w]
                rfl
              refine pure_ (i := 12) (N := some 44) (v := ?_) (a' := ?_) #[true, true, true, true, true, true, true, true, true, true, true, true, true, false, false, false, false, false, false, false, false, false, false, false, false, false, false] rfl rfl (by kernel_rfl) (fun _ _ _ h => h) (Or.inl ⟨by rfl, ?_⟩) ?_ ?_
              rotate_left
              · intro w'
                go_simp
                with_reducible rfl
              rotate_left
              · simp only [Act.put, List.setIfInBounds_toArray, List.set_cons_zero, List.set_cons_succ, i64_w, i32_w]
                rfl
              refine pure_ (i := 15) (N := some 47) (v := ?_) (a' := ?_) #[true, true, true, true, true, true, true, true, true, true, true, true, true, false, false, true, false, false, false, false, false, false, false, false, false, false, false] rfl rfl (by kernel_rfl) (fun _ _ _ h => h) (Or.inl ⟨by rfl, ?_⟩) ?_ ?_
              rotate_left
              · intro w'
                go_simp
                with_reducible rfl
              rotate_left
              · simp only [Act.put, List.setIfInBounds_toArray, List.set_cons_zero, List.set_cons_succ, i64_w, i32_w]
                rfl
              refine take_ (i := 13) (N := some 45) (v := ?_) (a' := ?_) #[true, true, true, true, true, true, true, true, true, true, true, true, true, true, false, true, false, false, false, false, false, false, false, false, false, false, false] rfl rfl (by kernel_rfl) (fun _ _ _ h => h) (Or.inl ⟨by rfl, ?_⟩) hHeld ?_ ?_
              rotate_left
              · rintro w' ⟨s0, s1, s2, s3, s4, s5, s6, s7⟩
                go_simp
                with_reducible rfl
              rotate_left
              · simp only [Act.put, List.setIfInBounds_toArray, List.set_cons_zero, List.set_cons_succ, i64_w, i32_w]
                rfl
              refine take_ (i := 16) (N := some 48) (v := ?_) (a' := ?_) #[true, true, true, true, true, true, true, true, true, true, true, true, true, true, false, true, true, false, false, false, false, false, false, false, false, false, false] rfl rfl (by kernel_rfl) (fun _ _ _ h => h) (Or.inl ⟨by rfl, ?_⟩) hHeld ?_ ?_
              rotate_left
              · rintro w' ⟨s0, s1, s2, s3, s4, s5, s6, s7⟩
                go_simp
                with_reducible rfl
              rotate_left
              · simp only [Act.put, List.setIfInBounds_toArray, List.set_cons_zero, List.set_cons_succ, i64_w, i32_w]
                rfl
              refine one_ (i := 14) (N := some 46) #[true, true, true, true, true, true, true, true, true, true, true, true, true, true, true, true, true, false, false, false, false, false, false, false, false, false, false] rfl rfl (by kernel_rfl) (by decide) (fun K hK => ?_)
              refine call_ 97 #[.agg #[.slice E0 r.st.length g0, .slice E1 r.dat.length g1, .slice E2 r.rd.length g2, .int .i64 rt]] (by rfl) rfl ?_ ?_
              · have he := enters_ Try.func97 (by kernel_rfl) rfl #[.agg #[.slice E0 r.st.length g0, .slice E1 r.dat.length g1, .slice E2 r.rd.length g2, .int .i64 rt]] w6
                unfold execOp
                simp [resolve, Deferred.ofValue, invoke, Act.eval, he]
              with_reducible refine (good_calls E0 g0 r.st E1 E2 r.dat.length g1 r.rd.length g2 rt gr w6 (Kd.C_below (Kd.R_reads' hRr.out).2.2 (below_step hb5 hb6)) hlr.out.1 hlr.out.2 hgr.out).mono ?_
              rintro e w7 ⟨rfl, hb7⟩
              refine ⟨_, rfl, ?_⟩
              refine hK.out _ _ ⟨pw_cell_below (below_step (below_step hb5 hb6) hb7) s0_, pw_cell_below (below_step (below_step hb5 hb6) hb7) s1_, pw_cell_below (below_step (below_step hb5 hb6) hb7) s2_, pw_cell_below (below_step (below_step hb5 hb6) hb7) s3_, pw_cell_below (below_step (below_step hb5 hb6) hb7) s4_, pw_cell_below (below_step (below_step hb5 hb6) hb7) s5_, pw_cell_below (below_step (below_step hb5 hb6) hb7) s6_, pw_cell_below (below_step (below_step hb5 hb6) hb7) s7_⟩ (fun hHeld => ?_)
              clear hK K
              refine norm_ (a' := ?_) ?_ ?_
              rotate_left
              · show Act.put _ (some 46) _ = _
                simp only [Act.put, List.setIfInBounds_toArray, List.set_cons_zero, List.set_cons_succ, i64_w, i32_w]
                rfl
              refine one_ (i := 17) (N := some 49) #[true, true, true, true, true, true, true, true, true, true, true, true, true, true, true, true, true, true, false, false, false, false, false, false, false, false, false] rfl rfl (by kernel_rfl) (by decide) (fun K hK => ?_)
              refine call_ 97 #[.agg #[.slice B0 st.length d0, .slice B1 n1 d1, .slice B2 n2 d2, .int .i64 time]] (by rfl) rfl ?_ ?_
              · have he := enters_ Try.func97 (by kernel_rfl) rfl #[.agg #[.slice B0 st.length d0, .slice B1 n1 d1, .slice B2 n2 d2, .int .i64 time]] w7
                unfold execOp
                simp [resolve, Deferred.ofValue, invoke, Act.eval, he]
              with_reducible refine (good_calls B0 d0 st B1 B2 n1 d1 n2 d2 time most w7 (Kd.C_below hCf.out (below_step (below_step hb5 hb6) hb7)) hlf.out.1 hlf.out.2 hmost.out).mono ?_
              rintro e w8 ⟨rfl, hb8⟩
              refine ⟨_, rfl, ?_⟩
              refine hK.out _ _ ⟨pw_cell_below (below_step (below_step (below_step hb5 hb6) hb7) hb8) s0_, pw_cell_below (below_step (below_step (below_step hb5 hb6) hb7) hb8) s1_, pw_cell_below (below_step (below_step (below_step hb5 hb6) hb7) hb8) s2_, pw_cell_below (below_step (below_step (below_step hb5 hb6) hb7) hb8) s3_, pw_cell_below (below_step (below_step (below_step hb5 hb6) hb7) hb8) s4_, pw_cell_below (below_step (below_step (below_step hb5 hb6) hb7) hb8) s5_, pw_cell_below (below_step (below_step (below_step hb5 hb6) hb7) hb8) s6_, pw_cell_below (below_step (below_step (below_step hb5 hb6) hb7) hb8) s7_⟩ (fun hHeld => ?_)
              clear hK K
              refine norm_ (a' := ?_) ?_ ?_
              rotate_left
              · show Act.put _ (some 49) _ = _
                simp only [Act.put, List.setIfInBounds_toArray, List.set_cons_zero, List.set_cons_succ, i64_w, i32_w]
                rfl
              refine pure_ (i := 18) (N := some 50) (v := ?_) (a' := ?_) #[true, true, true, true, true, true, true, true, true, true, true, true, true, true, true, true, true, true, true, false, false, false, false, false, false, false, false] rfl rfl (by kernel_rfl) (fun _ _ _ h => h) (Or.inl ⟨by rfl, ?_⟩) ?_ ?_
              rotate_left
              · intro w'
                go_simp
                with_reducible rfl
              rotate_left
              · simp only [Act.put, List.setIfInBounds_toArray, List.set_cons_zero, List.set_cons_succ, i64_w, i32_w]
                rfl
              refine pure_ (i := 19) (N := some 51) (v := ?_) (a' := ?_) #[true, true, true, true, true, true, true, true, true, true, true, true, true, true, true, true, true, true, true, true, false, false, false, false, false, false, false] rfl rfl (by kernel_rfl) (fun _ _ _ h => h) (Or.inl ⟨by rfl, ?_⟩) ?_ ?_
              rotate_left
              · intro w'
                go_simp
                with_reducible rfl
              rotate_left
              · simp only [Act.put, List.setIfInBounds_toArray, List.set_cons_zero, List.set_cons_succ, i64_w, i32_w]
                rfl
              refine pure_ (i := 20) (N := some 52) (v := undef) (a' := ?_) #[true, true, true, true, true, true, true, true, true, true, true, true, true, true, true, true, true, true, true, true, true, false, false, false, false, false, false] rfl rfl (by kernel_rfl) (fun _ _ _ h => h) (Or.inr ⟨by rfl, rfl⟩) ?_ ?_
              rotate_left
              · simp only [Act.put, List.setIfInBounds_toArray, List.set_cons_zero, List.set_cons_succ, i64_w, i32_w]
                rfl
              refine pure_ (i := 21) (N := some 53) (v := undef) (a' := ?_) #[true, true, true, true, true, true, true, true, true, true, true, true, true, true, true, true, true, true, true, true, true, true, false, false, false, false, false] rfl rfl (by kernel_rfl) (fun _ _ _ h => h) (Or.inr ⟨by rfl, rfl⟩) ?_ ?_
              rotate_left
              · simp only [Act.put, List.setIfInBounds_toArray, List.set_cons_zero, List.set_cons_succ, i64_w, i32_w]
                rfl
              refine pure_ (i := 22) (N := some 54) (v := undef) (a' := ?_) #[true, true, true, true, true, true, true, true, true, true, true, true, true, true, true, true, true, true, true, true, true, true, true, false, false, false, false] rfl rfl (by kernel_rfl) (fun _ _ _ h => h) (Or.inr ⟨by rfl, rfl⟩) ?_ ?_
              rotate_left
              · simp only [Act.put, List.setIfInBounds_toArray, List.set_cons_zero, List.set_cons_succ, i64_w, i32_w]
                rfl
              refine pure_ (i := 23) (N := some 55) (v := undef) (a' := ?_) #[true, true, true, true, true, true, true, true, true, true, true, true, true, true, true, true, true, true, true, true, true, true, true, true, false, false, false] rfl rfl (by kernel_rfl) (fun _ _ _ h => h) (Or.inr ⟨by rfl, rfl⟩) ?_ ?_
              rotate_left
              · simp only [Act.put, List.setIfInBounds_toArray, List.set_cons_zero, List.set_cons_succ, i64_w, i32_w]
                rfl
              refine pure_ (i := 24) (N := some 56) (v := undef) (a' := ?_) #[true, true, true, true, true, true, true, true, true, true, true, true, true, true, true, true, true, true, true, true, true, true, true, true, true, false, false] rfl rfl (by kernel_rfl) (fun _ _ _ h => h) (Or.inr ⟨by rfl, rfl⟩) ?_ ?_
              rotate_left
              · simp only [Act.put, List.setIfInBounds_toArray, List.set_cons_zero, List.set_cons_succ, i64_w, i32_w]
                rfl
              refine pure_ (i := 25) (N := some 57) (v := ?_) (a' := ?_) #[true, true, true, true, true, true, true, true, true, true, true, true, true, true, true, true, true, true, true, true, true, true, true, true, true, true, false] rfl rfl (by kernel_rfl) (fun _ _ _ h => h) (Or.inl ⟨by rfl, ?_⟩) ?_ ?_
              rotate_left
              · intro w'
                go_simp
                with_reducible rfl
              rotate_left
              · simp only [Act.put, List.setIfInBounds_toArray, List.set_cons_zero, List.set_cons_succ, i64_w, i32_w]
                rfl
              refine pure_ (i := 26) (N := some 58) (v := ?_) (a' := ?_) #[true, true, true, true, true, true, true, true, true, true, true, true, true, true, true, true, true, true, true, true, true, true, true, true, true, true, true] rfl rfl (by kernel_rfl) (fun _ _ _ h => h) (Or.inl ⟨by rfl, ?_⟩) ?_ ?_
              rotate_left
              · intro w'
                go_simp
                with_reducible rfl
              rotate_left
              · simp only [Act.put, List.setIfInBounds_toArray, List.set_cons_zero, List.set_cons_succ, i64_w, i32_w]
                rfl
              refine done_ (by kernel_rfl) ?_
              have hFE := Aside0.mk (hFD.out.below (below_step (below_step (below_step hb5 hb6) hb7) hb8))
              have hDE := Aside0.mk (blk_below hDD.out (below_step (below_step (below_step hb5 hb6) hb7) hb8))
              have hRE := Aside0.mk (blk_below hRB.out (below_step (below_step (below_step hb5 hb6) hb7) hb8))
              have hRrE := Aside0.mk (Kd.R_below hRr.out (below_step (below_step (below_step hb5 hb6) hb7) hb8))
              clear s0_ s1_ s2_ s3_ s4_ s5_ s6_ s7_ hHeld hFD hRB hRr hDD hCf hb5 hb6 hb7 hb8
              go_wp2
              go_roundw
              case rel => exact ⟨i + 1, best, most, time, B0, _, d0, B1, n1, d1, B2, n2, d2, by omega, rfl, by go_num, hnext, hFE, hDE⟩
              case measure => simp [intOf]; omega
      · have hstep := hstep.out
        rw [if_pos he] at hstep
        obtain ⟨q, hq⟩ : ∃ q, runErr data faults p.f0 p.f1 = q := ⟨_, rfl⟩
        have hrun := run_err A0 c0 data A1 c1 faults p.f0 p.f1 (wr.alloc (.cells #[.int .i64 p.f0, .int .i64 p.f1] 80)) (Kd.C_below HR0.out hF1.out.b) HC0.out (Kd.C_below HR1.out hF1.out.b) HC1.out HN.out he
        rw [hq] at hrun hstep he
        have hne : (q != 0) = true := bne_iff_ne.mpr he
        replace hstep := Aside0.mk hstep
        clear he hq
        go_wp2_with (first
          | (go_at_call 53; refine hrun.mono ?_; rintro e w3 ⟨rfl, hb3⟩; have hF3 := Aside0.mk (hF1.out.below hb3); clear s0 s1 hb3 hF1 hD1))
        refine bodyPost_ret (v := .tuple #[.int .i64 0, .int .i64 q]) (by simp [results, Try.results59, go_sem]) rfl ?_
        rw [← hstep.out]
        exact ⟨rfl, below_alloc hF3.out.b _⟩
    · obtain rfl : i = l.length := by omega
      have hstep := hfin.out
      rw [List.drop_length] at hstep
      unfold cheapL at hstep
      by_cases hb : best < 0
      · have hb1 := decide_eq_true hb
        rw [if_pos hb] at hstep
        replace hstep := Aside0.mk hstep
        clear hb
        go_wp2
        refine bodyPost_ret (v := .tuple #[.int .i64 0, .int .i64 8]) (by simp [results, Try.results59, go_sem]) rfl ?_
        rw [← hstep.out]
        exact ⟨rfl, hF.out.b⟩
      · have hb1 := decide_eq_false hb
        rw [if_neg hb] at hstep
        replace hstep := Aside0.mk hstep
        clear hb
        go_wp2
        refine bodyPost_ret (v := .tuple #[.int .i64 best, .int .i64 0]) (by simp [results, Try.results59, go_sem]) rfl ?_
        rw [← hstep.out]
        exact ⟨rfl, hF.out.b⟩
end Go.Proofs.Ytdgkbpoljcndgaa.Pure
