/- The statement PassCheapest, walked: for every drive and every plans the program and the reference come to the same. No condition but what one argument may take. -/
import Derived.Test.YtdgkbpoljcndgaaPurePassCheapestB
namespace Go.Proofs.Ytdgkbpoljcndgaa.Pure
open Go Go.RowKit Go.Maps Go.Proofs.Ytdgkbpoljcndgaa.QPassRuns Go.Proofs.YtdgkbpoljcndgaaW.PrintWords Go.Proofs.YtdgkbpoljcndgaaW.PrintLast Go.Proofs.YtdgkbpoljcndgaaW.PrintMore
set_option linter.unusedVariables false
set_option linter.unusedSimpArgs false
set_option maxHeartbeats 4000000 in
theorem cheapest_long (A0 : Option Addr) (c0 : Nat) (data : List Int) (A1 : Option Addr) (c1 : Nat) (faults : List S121) (A2 : Option Addr) (c2 : Nat) (l : List S80) (w : World) (hl : 16 < l.length) :
    Calls Try.prog 59 #[.agg #[.slice A0 data.length c0, .slice A1 faults.length c1], .slice A2 l.length c2] w fun e w' => e = .returned (.tuple #[.int .i64 0, .int .i64 2]) ∧ Below w.heap.size w w' := by
  have hu46 := Try.underlying46
  have hu82 := Try.underlying82
  have h16 : decide ((16 : Int) < (l.length : Int)) = true := decide_eq_true (by omega)
  clear hl
  go_enter Try.func59, Try.ntmps59
  go_wp2
  refine bodyPost_ret (v := .tuple #[.int .i64 0, .int .i64 2]) (by simp [results, Try.results59, go_sem]) rfl ?_
  exact ⟨rfl, below_alloc (below_alloc (Below.refl _ _) _) _⟩
theorem goods_succ (st : List Int) (k : Nat) (h : k < st.length) : (goods (st.take (k + 1)) : Int) = (goods (st.take k) : Int) + (if rd st (k : Int) = 1 then 1 else 0) := by
  unfold goods
  rw [List.take_succ_eq_append_getElem h, List.filter_append, List.length_append]
  have e : rd st (k : Int) = st[k] := by simp [rd, List.getD_eq_getElem?_getD, h]
  rw [e]
  by_cases hx : st[k] = 1 <;> simp [hx]
theorem goods_le (st : List Int) (k : Nat) : goods (st.take k) ≤ k := Nat.le_trans (List.length_filter_le _ _) (List.length_take_le _ _)
set_option maxHeartbeats 16000000 in
set_option maxRecDepth 100000 in
/-- at most sixteen plans -/
theorem pc_short (A0 : Option Addr) (c0 : Nat) (data : List Int) (A1 : Option Addr) (c1 : Nat) (faults : List S121) (A2 : Option Addr) (c2 : Nat) (l : List S80) (w : World)
    (hr0 : Kd.C (Kd.int .u8) w A0 data.length data) (hc0 : data.length ≤ c0) (hr1 : Kd.C k121 w A1 faults.length faults) (hc1 : faults.length ≤ c1) (hr2 : Kd.C k80 w A2 l.length l) (hc2 : l.length ≤ c2) (hn : faults.length ≤ 5864062014805) (hl : l.length ≤ 16) :
    Calls Try.prog 11 #[.agg #[.slice A0 data.length c0, .slice A1 faults.length c1], .slice A2 l.length c2] w fun e w' => e = .returned (.bool true) ∧ Below w.heap.size w w' := by
  obtain ⟨k2, h2⟩ := (derr_ev data faults (by omega)).rounds
  have hu46 := Try.underlying46
  have hu80 := Try.underlying80
  have hu82 := Try.underlying82
  have HR0 := Aside0.mk hr0
  have HR1 := Aside0.mk hr1
  have HR2 := Aside0.mk hr2
  have HC0 := Aside0.mk hc0
  have HC1 := Aside0.mk hc1
  have HC2 := Aside0.mk hc2
  have HN := Aside0.mk hn
  have HL := Aside0.mk hl
  have H2 := Aside0.mk h2
  have hch := fun W p0 p1 p2 => cheapest_calls A0 c0 data A1 c1 faults A2 c2 l W p0 hc0 p1 hc1 p2 hc2 hn hl
  obtain ⟨⟨fi, fe⟩, hfin⟩ : ∃ f, cheapL data faults l 0 (-1) 0 0 = f := ⟨_, rfl⟩
  rw [hfin] at hch
  simp only at hch
  have HFIN := Aside0.mk hfin
  replace hch := Aside0.mk hch
  have h16 : decide ((16 : Int) < (l.length : Int)) = false := decide_eq_false (by omega)
  clear hr0 hr1 hr2 hc0 hc1 hc2 hn h2 hfin
  have HB := Aside0.mk (Below.refl w.heap.size w)
  have hD0 := blk_new w (.cells #[.slice A0 data.length c0, .slice A1 faults.length c1] 46)
  have HB1 := Aside0.mk (below_alloc HB.out (.cells #[.slice A0 data.length c0, .slice A1 faults.length c1] 46))
  have hD1 := Aside0.mk hD0
  clear hD0 HB
  go_enter Try.func11, Try.ntmps11
  go_wp2_with (first
    | (go_at_call 59; refine (hch.out _ (Kd.C_below HR0.out HB1.out) (Kd.C_below HR1.out HB1.out) (Kd.C_below HR2.out HB1.out)).mono ?_; rintro e w2 ⟨rfl, hb2⟩; have HB2 := Aside0.mk (below_step HB1.out hb2); have hD2 := Aside0.mk (blk_below hD1.out hb2); clear hb2 HB1 hD1)
    | (go_at_call 55; refine (passed_calls _).mono ?_; rintro e w3 ⟨rfl, hb3⟩; have HB3 := Aside0.mk (below_step HB2.out hb3); have hD3 := Aside0.mk (blk_below hD2.out hb3); clear hb3 HB2 hD2))
  clear hch
  go_loopw [7, 8, 9, 41] (fun vb vm vt vi wr => ∃ (i : Nat) (best most time : Int), i ≤ l.length ∧ vb = .int .i64 best ∧ vm = .int .i64 most ∧ vt = .int .i64 time ∧ vi = .int .i64 (i : Int) ∧ Aside0 (cheapL data faults (l.drop i) i best most time = (fi, fe)) ∧ Aside0 (Below w.heap.size w wr) ∧ Aside0 (wr.heap[w.heap.size]? = some (.cells #[.slice A0 data.length c0, .slice A1 faults.length c1] 46 (0, 0)))) (fun _ _ _ vi _ => l.length - (intOf vi).toNat)
  case atStart => exact ⟨0, -1, 0, 0, Nat.zero_le _, rfl, rfl, rfl, rfl, HFIN, HB3, hD3⟩
  case round =>
    clear HB3 hD3 HFIN
    obtain ⟨i, best, most, time, hi, rfl, rfl, rfl, rfl, hfin, hB, hD⟩ := hrel
    by_cases hlt : i < l.length
    · have hlti : (i : Int) < (l.length : Int) := by omega
      have hnx : IntKind.i64.wrap ((i : Int) + 1) = (i : Int) + 1 := by rw [i64_w]; unfold wrap64; omega
      obtain ⟨ad, rfl, e0, e1⟩ := at_T80 (Kd.C_below HR2.out hB.out) (i : Int) (by omega) hlti
      have hstep := hfin.out
      rw [drop_plan l i hlt] at hstep
      unfold cheapL at hstep
      generalize rd_T80 l (i : Int) = p at hstep e0 e1
      rw [Int.toNat_natCast] at e0 e1
      replace hstep := Aside0.mk hstep
      have s0 : (wr.alloc (.cells #[.int .i64 p.f0, .int .i64 p.f1] 80)).cell? ⟨w.heap.size, 0, none⟩ = some (.slice A0 data.length c0) := (blk_cell (blk_alloc hD.out (.cells #[.int .i64 p.f0, .int .i64 p.f1] 80)) 0).trans rfl
      have s1 : (wr.alloc (.cells #[.int .i64 p.f0, .int .i64 p.f1] 80)).cell? ⟨w.heap.size, 1, none⟩ = some (.slice A1 faults.length c1) := (blk_cell (blk_alloc hD.out (.cells #[.int .i64 p.f0, .int .i64 p.f1] 80)) 1).trans rfl
      have hB1 := Aside0.mk (below_alloc hB.out (.cells #[.int .i64 p.f0, .int .i64 p.f1] 80))
      have hD1 := Aside0.mk (blk_alloc hD.out (.cells #[.int .i64 p.f0, .int .i64 p.f1] 80))
      have hP1 := Aside0.mk (blk_new wr (.cells #[.int .i64 p.f0, .int .i64 p.f1] 80))
      clear hD hB hfin
      by_cases hed : errD data faults = 0
      · by_cases hep : planErr p.f0 p.f1 = 0
        · have hstep := hstep.out
          rw [if_neg (show ¬ runErr data faults p.f0 p.f1 ≠ 0 by unfold runErr; rw [if_pos hed]; simpa using hep)] at hstep
          have hs0 : 0 ≤ p.f0 ∧ p.f0 ≤ 64 ∧ 1 ≤ p.f1 ∧ p.f1 ≤ 16 := by
            unfold planErr at hep
            refine ⟨?_, ?_, ?_, ?_⟩ <;> (repeat' split at hep) <;> omega
          have hpas := fun W p0 p1 => passes_calls A0 c0 data A1 c1 faults p.f0 p.f1 W p0 HC0.out p1 HC1.out HN.out hed hs0
          have hsz := passes_len data faults p.f0 p.f1 hed hep
          obtain ⟨r, hr⟩ : ∃ r, passes data faults (data.length / 64) p.f0 p.f1 = r := ⟨_, rfl⟩
          rw [hr] at hpas hstep hsz
          obtain ⟨rt, hrt⟩ : ∃ x, r.tm = x := ⟨_, rfl⟩
          obtain ⟨gr, hgr⟩ : ∃ x : Int, (goods r.st : Int) = x := ⟨_, rfl⟩
          rw [hrt] at hpas hstep
          rw [hgr, show (i : Int) + 1 = ((i + 1 : Nat) : Int) by omega] at hstep
          replace hgr := Aside0.mk hgr
          have HSZ := Aside0.mk hsz
          replace hstep := Aside0.mk hstep
          replace hpas := Aside0.mk hpas
          have H3 := Aside0.mk H2.out
          rw [hed] at H3
          have H4 := Aside0.mk (plan_plan p.f0 p.f1)
          rw [hep] at H4
          clear hed hep hr hrt hs0 hsz
          go_wp2_with (first
            | (go_at_call 30; refine (wrackref1_DriveErr.calls k2 A0 c0 data A1 c1 faults 0 _ (Kd.C_below HR0.out hB1.out) HC0.out (Kd.C_below HR1.out hB1.out) HC1.out H3.out).mono ?_; rintro e w4 ⟨rfl, hb4⟩; have hB4 := Aside0.mk (below_step hB1.out hb4); have hD4 := Aside0.mk (blk_below hD1.out hb4); have hP4 := Aside0.mk (blk_below hP1.out hb4); clear s0 s1; have t0 : w4.cell? ⟨wr.heap.size, 0, none⟩ = some (.int .i64 p.f0) := (blk_cell hP4.out 0).trans rfl; have t1 : w4.cell? ⟨wr.heap.size, 1, none⟩ = some (.int .i64 p.f1) := (blk_cell hP4.out 1).trans rfl; clear hb4 hB1 hD1 hP1)
            | (go_at_call 54; refine (wracklaw1_planErr.calls p.f0 p.f1 0 _ H4.out).mono ?_; rintro e w5 ⟨rfl, hb5⟩; have hB5 := Aside0.mk (below_step hB4.out hb5); have hD5 := Aside0.mk (blk_below hD4.out hb5); have hP5 := blk_below hP4.out hb5; clear t0 t1; have t0 : w5.cell? ⟨wr.heap.size, 0, none⟩ = some (.int .i64 p.f0) := (blk_cell hP5 0).trans rfl; have t1 : w5.cell? ⟨wr.heap.size, 1, none⟩ = some (.int .i64 p.f1) := (blk_cell hP5 1).trans rfl; have s0 : w5.cell? ⟨w.heap.size, 0, none⟩ = some (.slice A0 data.length c0) := (blk_cell hD5.out 0).trans rfl; have s1 : w5.cell? ⟨w.heap.size, 1, none⟩ = some (.slice A1 faults.length c1) := (blk_cell hD5.out 1).trans rfl; clear hb5 hB4 hD4 hP4 hP5)
            | (go_at_call 58; refine (hpas.out _ (Kd.C_below HR0.out hB5.out) (Kd.C_below HR1.out hB5.out)).mono ?_; rintro e w6 ⟨v0, v1, v2, rfl, hv0, hv1, hv2, hb6⟩; obtain ⟨E0, g0, q0⟩ := Kd.R_slice hv0; obtain ⟨E1, g1, q1⟩ := Kd.R_slice hv1; obtain ⟨E2, g2, q2⟩ := Kd.R_slice hv2; subst q0; subst q1; subst q2; have hB6 := Aside0.mk (below_step hB5.out hb6); have hD6 := Aside0.mk (blk_below hD5.out hb6); replace hv0 := Aside0.mk (Kd.R_reads' hv0); clear s0 s1 t0 t1 hv1 hv2 hb6 hB5 hD5))
          have hX7 := Aside0.mk (blk_new w6 (.cells #[.slice E0 r.st.length g0, .slice E1 r.dat.length g1, .slice E2 r.rd.length g2, .int .i64 rt] 82))
          have hB7 := Aside0.mk (below_alloc hB6.out (.cells #[.slice E0 r.st.length g0, .slice E1 r.dat.length g1, .slice E2 r.rd.length g2, .int .i64 rt] 82))
          have hD7 := Aside0.mk (blk_alloc hD6.out (.cells #[.slice E0 r.st.length g0, .slice E1 r.dat.length g1, .slice E2 r.rd.length g2, .int .i64 rt] 82))
          have hC7 := Aside0.mk (Kd.C_below hv0.out.2.2 (below_alloc (Below.refl w6.heap.size w6) (.cells #[.slice E0 r.st.length g0, .slice E1 r.dat.length g1, .slice E2 r.rd.length g2, .int .i64 rt] 82)))
          clear hB6 hD6 hv0 H3 H4 hpas
          generalize w6.alloc (.cells #[.slice E0 r.st.length g0, .slice E1 r.dat.length g1, .slice E2 r.rd.length g2, .int .i64 rt] 82) = w7 at hX7 hB7 hD7 hC7 ⊢
          generalize w6.heap.size = rb at hX7 ⊢
          go_loop [14, 67] (fun vc vk => ∃ (k : Nat) (c : Int), k ≤ r.st.length ∧ vc = .int .i64 c ∧ vk = .int .i64 (k : Int) ∧ Aside0 ((goods (r.st.take k) : Int) = c)) (fun _ vk => r.st.length - (intOf vk).toNat)
          case atStart => exact ⟨0, 0, Nat.zero_le _, rfl, rfl, ⟨rfl⟩⟩
          case round =>
            obtain ⟨k, c, hk, rfl, rfl, hcnt⟩ := hrel
            by_cases hkl : k < r.st.length
            · have hkli : (k : Int) < (r.st.length : Int) := by omega
              have hkn : IntKind.i64.wrap ((k : Int) + 1) = (k : Int) + 1 := by have := HSZ.out; rw [i64_w]; unfold wrap64; omega
              obtain ⟨ae, rfl, c0_⟩ := Kd.at_int hC7.out (k : Int) (by omega) hkli
              rw [Int.toNat_natCast] at c0_
              have hsc := goods_succ r.st k hkl
              have hle := goods_le r.st k
              rw [hcnt.out] at hsc
              have hcb : 0 ≤ c ∧ c ≤ 1000000 := by have := hcnt.out; have := HSZ.out; omega
              have hcn : IntKind.i64.wrap (c + 1) = c + 1 := by rw [i64_w]; unfold wrap64; omega
              generalize rd r.st (k : Int) = x at c0_ hsc
              by_cases hx : x = 1
              · have hx1 : (x == 1) = true := beq_iff_eq.mpr hx
                rw [if_pos hx] at hsc
                replace hsc := Aside0.mk hsc
                clear hx hle hcb hcnt
                go_wp2
                go_round
                case rel => exact ⟨k + 1, c + 1, by omega, rfl, by go_num, hsc⟩
                case measure => simp [intOf]; omega
              · have hx1 : (x == 1) = false := beq_eq_false_iff_ne.mpr hx
                rw [if_neg hx, Int.add_zero] at hsc
                replace hsc := Aside0.mk hsc
                clear hx hle hcb hcnt hcn
                go_wp2
                go_round
                case rel => exact ⟨k + 1, c, by omega, rfl, by go_num, hsc⟩
                case measure => simp [intOf]; omega
            · obtain rfl : k = r.st.length := by omega
              have hcg := hcnt.out
              rw [List.take_of_length_le (Nat.le_refl _), hgr.out] at hcg
              subst hcg
              clear hk hkl hcnt
              have s3 : w7.cell? ⟨rb, 3, none⟩ = some (.int .i64 rt) := (blk_cell hX7.out 3).trans rfl
              have hstep_ := hstep.out
              by_cases hb : best < 0
              · have hb1 := decide_eq_true hb
                rw [if_pos (Or.inl hb)] at hstep_
                have hnext := Aside0.mk hstep_
                clear hb hstep hstep_
                go_wp2
                refine start_ (n := 7) (S := fun w' => w'.cell? ⟨rb, 3, none⟩ = some (.int .i64 rt)) (ds := []) #[false, false, false, false, false, false, false] (by kernel_rfl) rfl rfl (s3) (fun hHeld => ?_)
                refine pure_ (i := 0) (N := some 94) (v := ?_) (a' := ?_) #[true, false, false, false, false, false, false] rfl rfl (by kernel_rfl) (fun _ _ _ h => h) (Or.inl ⟨by rfl, ?_⟩) ?_ ?_
                rotate_left
                · intro w'
                  go_simp
                  with_reducible rfl
                rotate_left
                · simp only [Act.put, List.setIfInBounds_toArray, List.set_cons_zero, List.set_cons_succ, i64_w, i32_w]
                  rfl
                refine pure_ (i := 1) (N := some 95) (v := ?_) (a' := ?_) #[true, true, false, false, false, false, false] rfl rfl (by kernel_rfl) (fun _ _ _ h => h) (Or.inl ⟨by rfl, ?_⟩) ?_ ?_
                rotate_left
                · intro w'
                  go_simp
                  with_reducible rfl
                rotate_left
                · simp only [Act.put, List.setIfInBounds_toArray, List.set_cons_zero, List.set_cons_succ, i64_w, i32_w]
                  rfl
                refine pure_ (i := 2) (N := some 96) (v := ?_) (a' := ?_) #[true, true, true, false, false, false, false] rfl rfl (by kernel_rfl) (fun _ _ _ h => h) (Or.inl ⟨by rfl, ?_⟩) ?_ ?_
                rotate_left
                · intro w'
                  go_simp
                  with_reducible rfl
                rotate_left
                · simp only [Act.put, List.setIfInBounds_toArray, List.set_cons_zero, List.set_cons_succ, i64_w, i32_w]
                  rfl
                refine pure_ (i := 4) (N := some 7) (v := ?_) (a' := ?_) #[true, true, true, false, true, false, false] rfl rfl (by kernel_rfl) (fun _ _ _ h => h) (Or.inl ⟨by rfl, ?_⟩) ?_ ?_
                rotate_left
                · intro w'
                  go_simp
                  with_reducible rfl
                rotate_left
                · simp only [Act.put, List.setIfInBounds_toArray, List.set_cons_zero, List.set_cons_succ, i64_w, i32_w]
                  rfl
                refine pure_ (i := 5) (N := some 8) (v := ?_) (a' := ?_) #[true, true, true, false, true, true, false] rfl rfl (by kernel_rfl) (fun _ _ _ h => h) (Or.inl ⟨by rfl, ?_⟩) ?_ ?_
                rotate_left
                · intro w'
                  go_simp
                  with_reducible rfl
                rotate_left
                · simp only [Act.put, List.setIfInBounds_toArray, List.set_cons_zero, List.set_cons_succ, i64_w, i32_w]
                  rfl
                refine take_ (i := 3) (N := some 97) (v := ?_) (a' := ?_) #[true, true, true, true, true, true, false] rfl rfl (by kernel_rfl) (fun _ _ _ h => h) (Or.inl ⟨by rfl, ?_⟩) hHeld ?_ ?_
                rotate_left
                · intro w' s0
                  go_simp
                  with_reducible rfl
                rotate_left
                · simp only [Act.put, List.setIfInBounds_toArray, List.set_cons_zero, List.set_cons_succ, i64_w, i32_w]
                  rfl
                refine pure_ (i := 6) (N := some 9) (v := ?_) (a' := ?_) #[true, true, true, true, true, true, true] rfl rfl (by kernel_rfl) (fun _ _ _ h => h) (Or.inl ⟨by rfl, ?_⟩) ?_ ?_
                rotate_left
                · intro w'
                  go_simp
                  with_reducible rfl
                rotate_left
                · simp only [Act.put, List.setIfInBounds_toArray, List.set_cons_zero, List.set_cons_succ, i64_w, i32_w]
                  rfl
                refine done_ (by kernel_rfl) ?_
                clear hHeld
                go_wp2
                go_roundw
                case rel => exact ⟨i + 1, i, gr, rt, by omega, rfl, rfl, rfl, by go_num, hnext, ⟨hB7.out.drew⟩, ⟨blk_drew hD7.out⟩⟩
                case measure => simp [intOf]; omega
              · have hb1 := decide_eq_false hb
                by_cases hg : gr > most
                · have hg1 := decide_eq_true (show most < gr from hg)
                  rw [if_pos (Or.inr (Or.inl hg))] at hstep_
                  have hnext := Aside0.mk hstep_
                  clear hb hg hstep hstep_
                  go_wp2
                  refine start_ (n := 7) (S := fun w' => w'.cell? ⟨rb, 3, none⟩ = some (.int .i64 rt)) (ds := []) #[false, false, false, false, false, false, false] (by kernel_rfl) rfl rfl (s3) (fun hHeld => ?_)
                  refine pure_ (i := 0) (N := some 94) (v := ?_) (a' := ?_) #[true, false, false, false, false, false, false] rfl rfl (by kernel_rfl) (fun _ _ _ h => h) (Or.inl ⟨by rfl, ?_⟩) ?_ ?_
                  rotate_left
                  · intro w'
                    go_simp
                    with_reducible rfl
                  rotate_left
                  · simp only [Act.put, List.setIfInBounds_toArray, List.set_cons_zero, List.set_cons_succ, i64_w, i32_w]
                    rfl
                  refine pure_ (i := 1) (N := some 95) (v := ?_) (a' := ?_) #[true, true, false, false, false, false, false] rfl rfl (by kernel_rfl) (fun _ _ _ h => h) (Or.inl ⟨by rfl, ?_⟩) ?_ ?_
                  rotate_left
                  · intro w'
                    go_simp
                    with_reducible rfl
                  rotate_left
                  · simp only [Act.put, List.setIfInBounds_toArray, List.set_cons_zero, List.set_cons_succ, i64_w, i32_w]
                    rfl
                  refine pure_ (i := 2) (N := some 96) (v := ?_) (a' := ?_) #[true, true, true, false, false, false, false] rfl rfl (by kernel_rfl) (fun _ _ _ h => h) (Or.inl ⟨by rfl, ?_⟩) ?_ ?_
                  rotate_left
                  · intro w'
                    go_simp
                    with_reducible rfl
                  rotate_left
                  · simp only [Act.put, List.setIfInBounds_toArray, List.set_cons_zero, List.set_cons_succ, i64_w, i32_w]
                    rfl
                  refine pure_ (i := 4) (N := some 7) (v := ?_) (a' := ?_) #[true, true, true, false, true, false, false] rfl rfl (by kernel_rfl) (fun _ _ _ h => h) (Or.inl ⟨by rfl, ?_⟩) ?_ ?_
                  rotate_left
                  · intro w'
                    go_simp
                    with_reducible rfl
                  rotate_left
                  · simp only [Act.put, List.setIfInBounds_toArray, List.set_cons_zero, List.set_cons_succ, i64_w, i32_w]
                    rfl
                  refine pure_ (i := 5) (N := some 8) (v := ?_) (a' := ?_) #[true, true, true, false, true, true, false] rfl rfl (by kernel_rfl) (fun _ _ _ h => h) (Or.inl ⟨by rfl, ?_⟩) ?_ ?_
                  rotate_left
                  · intro w'
                    go_simp
                    with_reducible rfl
                  rotate_left
                  · simp only [Act.put, List.setIfInBounds_toArray, List.set_cons_zero, List.set_cons_succ, i64_w, i32_w]
                    rfl
                  refine take_ (i := 3) (N := some 97) (v := ?_) (a' := ?_) #[true, true, true, true, true, true, false] rfl rfl (by kernel_rfl) (fun _ _ _ h => h) (Or.inl ⟨by rfl, ?_⟩) hHeld ?_ ?_
                  rotate_left
                  · intro w' s0
                    go_simp
                    with_reducible rfl
                  rotate_left
                  · simp only [Act.put, List.setIfInBounds_toArray, List.set_cons_zero, List.set_cons_succ, i64_w, i32_w]
                    rfl
                  refine pure_ (i := 6) (N := some 9) (v := ?_) (a' := ?_) #[true, true, true, true, true, true, true] rfl rfl (by kernel_rfl) (fun _ _ _ h => h) (Or.inl ⟨by rfl, ?_⟩) ?_ ?_
                  rotate_left
                  · intro w'
                    go_simp
                    with_reducible rfl
                  rotate_left
                  · simp only [Act.put, List.setIfInBounds_toArray, List.set_cons_zero, List.set_cons_succ, i64_w, i32_w]
                    rfl
                  refine done_ (by kernel_rfl) ?_
                  clear hHeld
                  go_wp2
                  go_roundw
                  case rel => exact ⟨i + 1, i, gr, rt, by omega, rfl, rfl, rfl, by go_num, hnext, ⟨hB7.out.drew⟩, ⟨blk_drew hD7.out⟩⟩
                  case measure => simp [intOf]; omega
                · have hg1 := decide_eq_false (show ¬ most < gr from hg)
                  by_cases hq : gr = most
                  · have hq1 : (gr == most) = true := beq_iff_eq.mpr hq
                    by_cases ht : rt < time
                    · have ht1 := decide_eq_true ht
                      rw [if_pos (Or.inr (Or.inr ⟨hq, ht⟩))] at hstep_
                      have hnext := Aside0.mk hstep_
                      clear hb hg hq ht hstep hstep_
                      go_wp2
                      refine start_ (n := 7) (S := fun w' => w'.cell? ⟨rb, 3, none⟩ = some (.int .i64 rt)) (ds := []) #[false, false, false, false, false, false, false] (by kernel_rfl) rfl rfl (s3) (fun hHeld => ?_)
                      refine pure_ (i := 0) (N := some 94) (v := ?_) (a' := ?_) #[true, false, false, false, false, false, false] rfl rfl (by kernel_rfl) (fun _ _ _ h => h) (Or.inl ⟨by rfl, ?_⟩) ?_ ?_
                      rotate_left
                      · intro w'
                        go_simp
                        with_reducible rfl
                      rotate_left
                      · simp only [Act.put, List.setIfInBounds_toArray, List.set_cons_zero, List.set_cons_succ, i64_w, i32_w]
                        rfl
                      refine pure_ (i := 1) (N := some 95) (v := ?_) (a' := ?_) #[true, true, false, false, false, false, false] rfl rfl (by kernel_rfl) (fun _ _ _ h => h) (Or.inl ⟨by rfl, ?_⟩) ?_ ?_
                      rotate_left
                      · intro w'
                        go_simp
                        with_reducible rfl
                      rotate_left
                      · simp only [Act.put, List.setIfInBounds_toArray, List.set_cons_zero, List.set_cons_succ, i64_w, i32_w]
                        rfl
                      refine pure_ (i := 2) (N := some 96) (v := ?_) (a' := ?_) #[true, true, true, false, false, false, false] rfl rfl (by kernel_rfl) (fun _ _ _ h => h) (Or.inl ⟨by rfl, ?_⟩) ?_ ?_
                      rotate_left
                      · intro w'
                        go_simp
                        with_reducible rfl
                      rotate_left
                      · simp only [Act.put, List.setIfInBounds_toArray, List.set_cons_zero, List.set_cons_succ, i64_w, i32_w]
                        rfl
                      refine pure_ (i := 4) (N := some 7) (v := ?_) (a' := ?_) #[true, true, true, false, true, false, false] rfl rfl (by kernel_rfl) (fun _ _ _ h => h) (Or.inl ⟨by rfl, ?_⟩) ?_ ?_
                      rotate_left
                      · intro w'
                        go_simp
                        with_reducible rfl
                      rotate_left
                      · simp only [Act.put, List.setIfInBounds_toArray, List.set_cons_zero, List.set_cons_succ, i64_w, i32_w]
                        rfl
                      refine pure_ (i := 5) (N := some 8) (v := ?_) (a' := ?_) #[true, true, true, false, true, true, false] rfl rfl (by kernel_rfl) (fun _ _ _ h => h) (Or.inl ⟨by rfl, ?_⟩) ?_ ?_
                      rotate_left
                      · intro w'
                        go_simp
                        with_reducible rfl
                      rotate_left
                      · simp only [Act.put, List.setIfInBounds_toArray, List.set_cons_zero, List.set_cons_succ, i64_w, i32_w]
                        rfl
                      refine take_ (i := 3) (N := some 97) (v := ?_) (a' := ?_) #[true, true, true, true, true, true, false] rfl rfl (by kernel_rfl) (fun _ _ _ h => h) (Or.inl ⟨by rfl, ?_⟩) hHeld ?_ ?_
                      rotate_left
                      · intro w' s0
                        go_simp
                        with_reducible rfl
                      rotate_left
                      · simp only [Act.put, List.setIfInBounds_toArray, List.set_cons_zero, List.set_cons_succ, i64_w, i32_w]
                        rfl
                      refine pure_ (i := 6) (N := some 9) (v := ?_) (a' := ?_) #[true, true, true, true, true, true, true] rfl rfl (by kernel_rfl) (fun _ _ _ h => h) (Or.inl ⟨by rfl, ?_⟩) ?_ ?_
                      rotate_left
                      · intro w'
                        go_simp
                        with_reducible rfl
                      rotate_left
                      · simp only [Act.put, List.setIfInBounds_toArray, List.set_cons_zero, List.set_cons_succ, i64_w, i32_w]
                        rfl
                      refine done_ (by kernel_rfl) ?_
                      clear hHeld
                      go_wp2
                      go_roundw
                      case rel => exact ⟨i + 1, i, gr, rt, by omega, rfl, rfl, rfl, by go_num, hnext, ⟨hB7.out.drew⟩, ⟨blk_drew hD7.out⟩⟩
                      case measure => simp [intOf]; omega
                    · have ht1 := decide_eq_false ht
                      rw [if_neg (fun h => h.elim hb (fun h => h.elim hg (fun h => ht h.2)))] at hstep_
                      have hnext := Aside0.mk hstep_
                      clear hb hg hq ht hstep hstep_
                      go_wp2
                      go_roundw
                      case rel => exact ⟨i + 1, best, most, time, by omega, rfl, rfl, rfl, by go_num, hnext, hB7, hD7⟩
                      case measure => simp [intOf]; omega
                  · have hq1 : (gr == most) = false := beq_eq_false_iff_ne.mpr hq
                    rw [if_neg (fun h => h.elim hb (fun h => h.elim hg (fun h => hq h.1)))] at hstep_
                    have hnext := Aside0.mk hstep_
                    clear hb hg hq hstep hstep_
                    go_wp2
                    go_roundw
                    case rel => exact ⟨i + 1, best, most, time, by omega, rfl, rfl, rfl, by go_num, hnext, hB7, hD7⟩
                    case measure => simp [intOf]; omega
        · have hstep := hstep.out
          obtain ⟨q, hq⟩ : ∃ q, planErr p.f0 p.f1 = q := ⟨_, rfl⟩
          rw [show runErr data faults p.f0 p.f1 = q by unfold runErr; rw [if_pos hed]; exact hq] at hstep
          have H3 := Aside0.mk H2.out
          rw [hed] at H3
          have H4 := Aside0.mk (plan_plan p.f0 p.f1)
          rw [hq] at H4 hep
          rw [if_pos hep] at hstep
          obtain ⟨rfl, rfl⟩ := Prod.mk.inj hstep
          have hne : (q != 0) = true := bne_iff_ne.mpr hep
          clear hed hep hstep hq
          go_wp2_with (first
            | (go_at_call 30; refine (wrackref1_DriveErr.calls k2 A0 c0 data A1 c1 faults 0 _ (Kd.C_below HR0.out hB1.out) HC0.out (Kd.C_below HR1.out hB1.out) HC1.out H3.out).mono ?_; rintro e w4 ⟨rfl, hb4⟩; have hB4 := Aside0.mk (below_step hB1.out hb4); have hP4 := Aside0.mk (blk_below hP1.out hb4); clear s0 s1; have t0 : w4.cell? ⟨wr.heap.size, 0, none⟩ = some (.int .i64 p.f0) := (blk_cell hP4.out 0).trans rfl; have t1 : w4.cell? ⟨wr.heap.size, 1, none⟩ = some (.int .i64 p.f1) := (blk_cell hP4.out 1).trans rfl; clear hb4 hB1 hD1 hP1)
            | (go_at_call 54; refine (wracklaw1_planErr.calls p.f0 p.f1 q _ H4.out).mono ?_; rintro e w5 ⟨rfl, hb5⟩; have hB5 := Aside0.mk (below_step hB4.out hb5); clear hb5 hB4 t0 t1))
          go_ret
          exact ⟨rfl, hB5.out⟩
      · have hstep := hstep.out
        obtain ⟨q, hq⟩ : ∃ q, errD data faults = q := ⟨_, rfl⟩
        rw [show runErr data faults p.f0 p.f1 = q by unfold runErr; rw [if_neg hed]; exact hq] at hstep
        have H3 := Aside0.mk H2.out
        rw [hq] at H3 hed
        rw [if_pos hed] at hstep
        obtain ⟨rfl, rfl⟩ := Prod.mk.inj hstep
        have hne : (q != 0) = true := bne_iff_ne.mpr hed
        have hne2 : (q == 0) = false := beq_eq_false_iff_ne.mpr hed
        clear hed hstep hq
        go_wp2_with (first
          | (go_at_call 30; refine (wrackref1_DriveErr.calls k2 A0 c0 data A1 c1 faults q _ (Kd.C_below HR0.out hB1.out) HC0.out (Kd.C_below HR1.out hB1.out) HC1.out H3.out).mono ?_; rintro e w4 ⟨rfl, hb4⟩; have hB4 := Aside0.mk (below_step hB1.out hb4); clear hb4 hB1 hD1 hP1 s0 s1))
        go_ret
        exact ⟨rfl, hB4.out⟩
    · obtain rfl : i = l.length := by omega
      have hstep := hfin.out
      rw [List.drop_length] at hstep
      unfold cheapL at hstep
      by_cases hb : best < 0
      · have hb1 := decide_eq_true hb
        rw [if_pos hb] at hstep
        obtain ⟨rfl, rfl⟩ := Prod.mk.inj hstep
        clear hb hstep hfin
        go_wp2
        go_ret
        exact ⟨rfl, hB.out⟩
      · have hb1 := decide_eq_false hb
        rw [if_neg hb] at hstep
        obtain ⟨rfl, rfl⟩ := Prod.mk.inj hstep
        clear hb hstep hfin
        go_wp2
        go_ret
        exact ⟨rfl, hB.out⟩
set_option maxHeartbeats 4000000 in
/-- more plans -/
theorem pc_long (A0 : Option Addr) (c0 : Nat) (data : List Int) (A1 : Option Addr) (c1 : Nat) (faults : List S121) (A2 : Option Addr) (c2 : Nat) (l : List S80) (w : World) (hl : 16 < l.length) :
    Calls Try.prog 11 #[.agg #[.slice A0 data.length c0, .slice A1 faults.length c1], .slice A2 l.length c2] w fun e w' => e = .returned (.bool true) ∧ Below w.heap.size w w' := by
  have hu46 := Try.underlying46
  have h16 : decide ((16 : Int) < (l.length : Int)) = true := decide_eq_true (by omega)
  have hch := fun W => cheapest_long A0 c0 data A1 c1 faults A2 c2 l W hl
  replace hch := Aside0.mk hch
  clear hl
  have HB1 := Aside0.mk (below_alloc (Below.refl w.heap.size w) (.cells #[.slice A0 data.length c0, .slice A1 faults.length c1] 46))
  go_enter Try.func11, Try.ntmps11
  go_wp2_with (first
    | (go_at_call 59; refine (hch.out _).mono ?_; rintro e w2 ⟨rfl, hb2⟩; have HB2 := Aside0.mk (below_step HB1.out hb2); clear hb2 HB1)
    | (go_at_call 55; refine (passed_calls _).mono ?_; rintro e w3 ⟨rfl, hb3⟩; have HB2 := Aside0.mk (below_step HB2.out hb3); clear hb3))
  go_ret
  exact ⟨rfl, HB2.out⟩
/-- every drive, every plans -/
theorem cheap_calls (A0 : Option Addr) (c0 : Nat) (data : List Int) (A1 : Option Addr) (c1 : Nat) (faults : List S121) (A2 : Option Addr) (c2 : Nat) (l : List S80) (w : World)
    (hr0 : Kd.C (Kd.int .u8) w A0 data.length data) (hc0 : data.length ≤ c0) (hr1 : Kd.C k121 w A1 faults.length faults) (hc1 : faults.length ≤ c1) (hr2 : Kd.C k80 w A2 l.length l) (hc2 : l.length ≤ c2) (hn : faults.length * 24 ≤ 140737488351232) :
    Calls Try.prog 11 #[.agg #[.slice A0 data.length c0, .slice A1 faults.length c1], .slice A2 l.length c2] w fun e w' => e = .returned (.bool true) ∧ Below w.heap.size w w' := by
  by_cases hl : l.length ≤ 16
  · exact pc_short A0 c0 data A1 c1 faults A2 c2 l w hr0 hc0 hr1 hc1 hr2 hc2 (by omega) hl
  · exact pc_long A0 c0 data A1 c1 faults A2 c2 l w (by omega)
end Go.Proofs.Ytdgkbpoljcndgaa.Pure
